/-
  Maps for the layer of symbolic frames: a map of the call's own reads as a list of pairs in the order of their laying; a range hands them out in whatever order. General lemmas, no program text.
-/
import Derived.Test.YtekikelejncgeaaSxEff
import Derived.Maps.RangeRun
set_option autoImplicit false
set_option linter.unusedSimpArgs false
set_option linter.unusedVariables false
set_option linter.unusedSectionVars false
namespace Go.Sx
open Enc (enc val)
open Go.MapKept (IsKey)

/-! ### 1. Lists of pairs -/
section pure
variable {κ ν : Type} [DecidableEq κ]
def upd : List (κ × ν) → κ → ν → List (κ × ν)
  | [], k, v => [(k, v)]
  | p :: l, k, v => if p.1 = k then (k, v) :: l else p :: upd l k v
def get? : List (κ × ν) → κ → Option ν
  | [], _ => none
  | p :: l, k => if p.1 = k then some p.2 else get? l k
def getZ (z : ν) (l : List (κ × ν)) (k : κ) : ν := (get? l k).getD z
theorem get?_upd (k : κ) (v : ν) (k' : κ) : ∀ l : List (κ × ν), get? (upd l k v) k' = if k' = k then some v else get? l k'
  | [] => by
    by_cases h : k' = k
    · simp [upd, get?, h]
    · have : ¬ k = k' := fun e => h e.symm
      simp [upd, get?, h, this]
  | p :: l => by
    have ih := get?_upd k v k' l
    by_cases hp : p.1 = k
    · by_cases h : k' = k
      · subst h; simp [upd, get?, hp]
      · have : ¬ k = k' := fun e => h e.symm
        have h2 : ¬ p.1 = k' := fun e => this (hp ▸ e)
        simp [upd, get?, hp, h, this]
    · by_cases h : k' = k
      · subst h; simp [upd, get?, hp, ih]
      · simp only [upd, if_neg hp, get?, ih, if_neg h]
theorem getZ_upd (z : ν) (k : κ) (v : ν) (k' : κ) (l : List (κ × ν)) : getZ z (upd l k v) k' = if k' = k then v else getZ z l k' := by
  simp only [getZ, get?_upd]; split <;> rfl
theorem upd_keys (k : κ) (v : ν) : ∀ l : List (κ × ν), ∀ x, x ∈ (upd l k v).map (·.1) ↔ x = k ∨ x ∈ l.map (·.1)
  | [], x => by simp [upd]
  | p :: l, x => by
    by_cases hp : p.1 = k
    · simp [upd, hp]
    · simp only [upd, if_neg hp, List.map_cons, List.mem_cons, upd_keys k v l x]
      constructor
      · rintro (h | h | h) <;> simp [h]
      · rintro (h | h | h) <;> simp [h]
theorem upd_len (k : κ) (v : ν) : ∀ l : List (κ × ν), (upd l k v).length ≤ l.length + 1
  | [] => by simp [upd]
  | p :: l => by
    have := upd_len k v l
    by_cases hp : p.1 = k
    · simp [upd, hp]
    · simp only [upd, if_neg hp, List.length_cons]; omega
theorem upd_nodup (k : κ) (v : ν) : ∀ l : List (κ × ν), (l.map (·.1)).Nodup → ((upd l k v).map (·.1)).Nodup
  | [], _ => by simp [upd]
  | p :: l, h => by
    by_cases hp : p.1 = k
    · simpa [upd, hp] using h
    · simp only [upd, if_neg hp, List.map_cons, List.nodup_cons] at h ⊢
      refine ⟨fun hm => ?_, upd_nodup k v l h.2⟩
      rcases (upd_keys k v l p.1).1 hm with e | e
      · exact hp e
      · exact h.1 e
theorem get?_mem {l : List (κ × ν)} (hn : (l.map (·.1)).Nodup) {k : κ} {v : ν} : get? l k = some v ↔ (k, v) ∈ l := by
  induction l with
  | nil => simp [get?]
  | cons p l ih =>
    simp only [List.map_cons, List.nodup_cons] at hn
    by_cases hp : p.1 = k
    · subst hp
      simp only [get?, if_true, Option.some.injEq, List.mem_cons]
      constructor
      · rintro rfl; exact .inl rfl
      · rintro (h | h)
        · rw [← h]
        · exact absurd (List.mem_map.2 ⟨_, h, rfl⟩) hn.1
    · simp only [get?, if_neg hp, ih hn.2, List.mem_cons]
      constructor
      · exact .inr
      · rintro (h | h)
        · exact absurd (by rw [← h]) hp
        · exact h
theorem get?_none {l : List (κ × ν)} {k : κ} : get? l k = none ↔ k ∉ l.map (·.1) := by
  induction l with
  | nil => simp [get?]
  | cons p l ih =>
    by_cases hp : p.1 = k
    · simp [get?, hp]
    · have : ¬ k = p.1 := fun e => hp e.symm
      simp only [get?, if_neg hp, ih, List.map_cons, List.mem_cons, this, false_or]

/-! ### 2. Entries -/
abbrev Ents (κ ν : Type) := List (κ × ν × Nat)
def kvs (es : Ents κ ν) : List (κ × ν) := es.map fun e => (e.1, e.2.1)
structure EntsOk (es : Ents κ ν) (clock : Nat) : Prop where
  lt : ∀ e ∈ es, e.2.2 < clock
  born : (es.map (·.2.2)).Nodup
  keys : (es.map (·.1)).Nodup
theorem kvs_keys (es : Ents κ ν) : (kvs es).map (·.1) = es.map (·.1) := by simp [kvs]
def findK (k : κ) : Ents κ ν → Nat → Option (Nat × ν)
  | [], _ => none
  | e :: es, i => if e.1 = k then some (i, e.2.1) else findK k es (i + 1)
theorem findK_none {k : κ} : ∀ {es : Ents κ ν} {i : Nat}, findK k es i = none → (∀ e ∈ es, e.1 ≠ k) ∧ get? (kvs es) k = none ∧ ∀ v, upd (kvs es) k v = kvs es ++ [(k, v)]
  | [], _, _ => ⟨by simp, rfl, fun _ => rfl⟩
  | e :: es, i, h => by
    by_cases he : e.1 = k
    · simp [findK, he] at h
    · simp only [findK, if_neg he] at h
      obtain ⟨h1, h2, h3⟩ := findK_none h
      refine ⟨fun x hx => ?_, ?_, fun v => ?_⟩
      · rcases List.mem_cons.1 hx with rfl | hx
        · exact he
        · exact h1 x hx
      · simp only [kvs, List.map_cons, get?, if_neg he]; exact h2
      · have := h3 v
        simp only [kvs, List.map_cons, upd, if_neg he, List.cons_append] at this ⊢
        rw [this]
theorem findK_some {k : κ} : ∀ {es : Ents κ ν} {i j : Nat} {u : ν}, findK k es i = some (j, u) → ∃ m b, j = i + m ∧ es[m]? = some (k, u, b) ∧ get? (kvs es) k = some u ∧ ∀ v, kvs (es.modify m fun e => (k, v, e.2.2)) = upd (kvs es) k v
  | [], _, _, _, h => by simp [findK] at h
  | e :: es, i, j, u, h => by
    by_cases he : e.1 = k
    · simp only [findK, if_pos he, Option.some.injEq, Prod.mk.injEq] at h
      obtain ⟨rfl, rfl⟩ := h
      subst he
      exact ⟨0, e.2.2, rfl, rfl, by simp [kvs, get?], fun v => by simp [kvs, upd]⟩
    · simp only [findK, if_neg he] at h
      obtain ⟨m, b, rfl, h2, h3, h4⟩ := findK_some h
      refine ⟨m + 1, b, by omega, h2, by simp only [kvs, List.map_cons, get?, if_neg he]; exact h3, fun v => ?_⟩
      have := h4 v
      simp only [kvs, List.modify_succ_cons, List.map_cons, upd, if_neg he] at this ⊢
      rw [this]

/-- What is still to come of a range. -/
def left (es : Ents κ ν) (seen : Array Nat) : Ents κ ν := es.filter fun e => !seen.contains e.2.2
theorem left_nil (es : Ents κ ν) : left es #[] = es := by simp [left]
theorem left_push (es : Ents κ ν) (seen : Array Nat) (b : Nat) : left es (seen.push b) = (left es seen).filter fun e => e.2.2 != b := by
  simp only [left, List.filter_filter]
  refine List.filter_congr fun e _ => ?_
  by_cases h : e.2.2 = b <;> simp [h]
theorem filter_ne_perm : ∀ {l : Ents κ ν} {e : κ × ν × Nat}, (l.map (·.2.2)).Nodup → e ∈ l → l.Perm (e :: l.filter fun x => x.2.2 != e.2.2)
  | [], _, _, h => by simp at h
  | x :: l, e, hn, h => by
    simp only [List.map_cons, List.nodup_cons] at hn
    by_cases hx : x.2.2 = e.2.2
    · have hxe : x = e := by
        rcases List.mem_cons.1 h with h | h
        · exact h.symm
        · exact absurd (List.mem_map.2 ⟨e, h, hx.symm⟩) hn.1
      subst hxe
      have : l.filter (fun y => y.2.2 != x.2.2) = l := List.filter_eq_self.2 fun y hy => by
        simp only [bne_iff_ne]
        exact fun e => hn.1 (List.mem_map.2 ⟨y, hy, e⟩)
      simp [this]
    · have he : e ∈ l := by
        rcases List.mem_cons.1 h with h | h
        · exact absurd (by rw [h]) hx
        · exact h
      have ih := filter_ne_perm hn.2 he
      rw [List.filter_cons_of_pos (by simpa using hx)]
      exact (ih.cons x).trans (.swap _ _ _)
theorem left_perm {es : Ents κ ν} {clock : Nat} (ok : EntsOk es clock) {seen : Array Nat} {e : κ × ν × Nat} (he : e ∈ left es seen) : (left es seen).Perm (e :: left es (seen.push e.2.2)) := by
  rw [left_push]
  exact filter_ne_perm ((List.filter_sublist.map _).nodup ok.born) he
end pure

/-! ### 3. Classes -/
class MapT (P : Program) (t : TypeId) (kt et : outParam TypeId) : Prop where
  und : P.underlying t = some (.map kt et)
def rawE {κ ν : Type} [Enc κ] [Enc ν] (e : κ × ν × Nat) : MapEntry := ⟨val e.1, val e.2.1, e.2.2⟩
class KeyT (P : Program) (kt : TypeId) (κ : Type) [DecidableEq κ] [Enc κ] : Prop where
  chk : ∀ (k : κ) (e : Bool) (w : World), (Instr.checkKey e 10000 kt (val k)).run P w = .ok () w
  find : ∀ {ν : Type} [Enc ν] (k : κ) (es : Ents κ ν) (w : World), (Instr.findKey kt (val k) (es.map rawE)).run P w = .ok ((findK k es 0).map fun p => (p.1, val p.2)) w
  stays : ∀ (k : κ) (w : World), (Instr.keyThatStays (val k) (val k)).run P w = .ok (val k) w
class ZeroV (P : Program) (t : TypeId) (ν : Type) [Enc ν] (z : outParam ν) : Prop where
  zero : ∀ w, (zeroValue t).run P w = .ok (val z) w

theorem zeroV_of {P : Program} {t : TypeId} {ν : Type} [Enc ν] {z : ν} (h : (P.info? t).map (·.zero) = some (some (val z))) : ZeroV P t ν z := ⟨fun w => by
  obtain ⟨i, hi, he⟩ := Option.map_eq_some_iff.1 h
  simp [zeroValue, typeInfo, hi, he, Result.andThen]⟩
section basic
variable {P : Program} {kt : TypeId} {κ : Type} [DecidableEq κ] [Enc κ] {d : TypeDesc}
theorem findNow_K {ν : Type} [Enc ν] (hs : ∀ k k' : κ, Instr.sameNow d (val k) (val k') = some (decide (k' = k))) (k : κ) : ∀ (es : Ents κ ν) (i : Nat), Instr.findNow d (val k) (es.map rawE) i = some ((findK k es i).map fun p => (p.1, val p.2))
  | [], _ => rfl
  | e :: es, i => by
    have h1 := hs k e.1
    have h2 := findNow_K hs k es (i + 1)
    by_cases he : e.1 = k
    · rw [he] at h1
      simp only [List.map_cons, Instr.findNow, rawE, he, h1, decide_true, findK, if_true]
      rfl
    · simp only [List.map_cons, Instr.findNow, rawE, h1, he, decide_false, findK, if_false] at h2 ⊢
      exact h2
theorem keyT_basic (hd : P.underlying kt = some d) (hk : ∀ k : κ, IsKey d (val k)) (hs : ∀ k k' : κ, Instr.sameNow d (val k) (val k') = some (decide (k' = k))) : KeyT P kt κ :=
  ⟨fun k e w => MapKept.run_checkKey hd (hk k) e _, fun k es w => MapKept.run_findKey hd (findNow_K hs k es 0), fun k w => MapKept.run_keyThatStays (hk k)⟩
theorem keyT_int {P : Program} {kt : TypeId} (hd : P.underlying kt = some (.int .i64)) : KeyT P kt Int :=
  keyT_basic hd (fun _ => rfl) (fun k k' => by simp [Enc.val, Instr.sameNow, eq_comm, BEq.beq])
theorem keyT_string {P : Program} {kt : TypeId} (hd : P.underlying kt = some .string) : KeyT P kt ByteArray :=
  keyT_basic hd (fun _ => trivial) (fun k k' => by
    simp only [Enc.val, Instr.sameNow, Option.some.injEq]
    by_cases h : k' = k
    · subst h; simpa using (MapKept.bytes_beq k' k').2 rfl
    · have h' : ¬ k = k' := fun e => h e.symm
      have h2 : (k == k') = false := by
        cases h3 : k == k'
        · rfl
        · exact absurd ((MapKept.bytes_beq k k').1 h3) h'
      simp [h, h2])
end basic

/-! ### 4. Maps in memory -/
section mem
variable {κ ν : Type} [DecidableEq κ] [Enc κ] [Enc ν]
def mapO (es : Ents κ ν) (clock : Nat) : Obj := .map (es.map rawE).toArray clock
def mpA (b : Nat) (l : List (κ × ν)) : Asn :=
  ⟨fun w bs => bs = [b] ∧ ∃ es clock, EntsOk es clock ∧ kvs es = l ∧ w.heap[b]? = some (mapO es clock), fun _ _ _ ⟨h1, es, clock, h2, h3, h4⟩ hk => ⟨h1, es, clock, h2, h3, (hk b (by simp [h1])).trans h4⟩⟩
def RdM (mv : Value) (l : List (κ × ν)) (w : World) : Prop :=
  (mv = .map none ∧ l = []) ∨ ∃ b es clock, mv = .map (some b) ∧ EntsOk es clock ∧ kvs es = l ∧ w.heap[b]? = some (mapO es clock)
theorem rdm_own {w0 w : World} {fp : List Nat} {H : List Asn} {b : Nat} {l : List (κ × ν)} (hw : Cl w0 fp H w) (hH : mpA b l ∈ H) : RdM (.map (some b)) l w := by
  obtain ⟨bs, _, es, clock, h⟩ := hw.get hH
  exact .inr ⟨b, es, clock, rfl, h⟩
theorem rdm_raw {w0 w : World} {fp : List Nat} {H : List Asn} {b clock : Nat} {es : Ents κ ν} (hw : Cl w0 fp H w) (hH : obj b (mapO es clock) ∈ H) (ok : EntsOk es clock) : RdM (.map (some b)) (kvs es) w := by
  obtain ⟨bs, _, h⟩ := hw.get hH
  exact .inr ⟨b, es, clock, rfl, ok, rfl, h⟩
theorem mpA_nodup {w : World} {bs : List Nat} {b : Nat} {l : List (κ × ν)} (h : (mpA b l).holds w bs) : (l.map (·.1)).Nodup := by
  obtain ⟨_, es, clock, h1, rfl, _⟩ := h
  rw [kvs_keys]; exact h1.keys
/-- The map laid open, and shut again. -/
theorem cl_open {w0 : World} {fp : List Nat} {H : List Asn} {i b : Nat} {l : List (κ × ν)} (hi : nthA H i = some (mpA b l)) (w : World) (hw : Cl w0 fp H w) : ∃ es, ∃ clock, (EntsOk es clock ∧ kvs es = l) ∧ Cl w0 fp (setA H i (obj b (mapO es clock))) w := by
  obtain ⟨hc, bs, ⟨b1, b2, rfl, ⟨rfl, es, clock, h2, h3, h4⟩, h5⟩, hn, hb⟩ := hw.focus hi
  exact ⟨es, clock, ⟨h2, h3⟩, Cl.set hi (show Cl w0 fp ([obj b (mapO es clock)] ++ delA H i) w from ⟨hc, _, ⟨[b], b2, rfl, ⟨rfl, h4⟩, h5⟩, hn, hb⟩)⟩
theorem cl_shut {w0 : World} {fp : List Nat} {H : List Asn} {i b clock : Nat} {es : Ents κ ν} (hi : nthA H i = some (obj b (mapO es clock))) (ok : EntsOk es clock) (w : World) (hw : Cl w0 fp H w) : Cl w0 fp (setA H i (mpA b (kvs es))) w := by
  obtain ⟨hc, bs, ⟨b1, b2, rfl, ⟨rfl, h4⟩, h5⟩, hn, hb⟩ := hw.focus hi
  exact Cl.set hi (show Cl w0 fp ([mpA b (kvs es)] ++ delA H i) w from ⟨hc, _, ⟨[b], b2, rfl, ⟨rfl, es, clock, ok, rfl, h4⟩, h5⟩, hn, hb⟩)

variable {P : Program} {n : Fr} {E : Env} {C : World → Prop} {cs : List Bool} {o : Oper} {w0 : World} {fp : List Nat} {H : List Asn} {Q : Exit → Act → World → Prop}

theorem raw_get (es : Ents κ ν) (i : Nat) : (es.map rawE).toArray[i]? = es[i]?.map rawE := by simp

theorem q_lookup {t kt et : TypeId} {x y : Operand} {cx cy : List Bool} {mv : Value} {k : κ} {l : List (κ × ν)} {z : ν} (ho : o.op = .lookup t x y false) (hx : evl E x = some (cx, mv)) (hy : evl E y = some (cy, val k)) [sx : Sub cx cs] [sy : Sub cy cs]
    [ht : MapT P t kt et] [hK : KeyT P kt κ] [hz : ZeroV P et ν z] (hm : ∀ w, C w → RdM mv l w) : OpR P n E C cs o (val (getZ z l k)) :=
  .of_run fun a ha hc w hw => by
    unfold execOp; simp only [ho]; rw [ha.eval hx sx hc, ha.eval hy sy hc]
    rcases hm w hw with ⟨rfl, rfl⟩ | ⟨b, es, clock, rfl, ok, rfl, hb⟩
    · have h1 := hK.find (ν := ν) k [] w
      simp only [List.map_nil] at h1
      simp [Instr.lookup, run_underlying ht.und, hK.chk, h1, findK, hz.zero, Result.andThen, getZ, get?]
    · have h1 := hK.find k es w
      have h2 := MapKept.run_getObj_map (P := P) hb
      cases hf : findK k es 0 with
      | none =>
        rw [hf] at h1
        simp [Instr.lookup, run_underlying ht.und, h2, hK.chk, h1, hz.zero, Result.andThen, getZ, (findK_none hf).2.1]
      | some p =>
        rw [hf] at h1
        obtain ⟨j, u⟩ := p
        obtain ⟨m, bb, _, _, h3, _⟩ := findK_some hf
        simp [Instr.lookup, run_underlying ht.und, h2, hK.chk, h1, Result.andThen, getZ, h3]

theorem e_makeMap {t : TypeId} (ho : o.op = .makeMap t none) : OpE P n E (Cl w0 fp H) o (fun u w' => ∃ b, u = .map (some b) ∧ Cl w0 fp (mpA b ([] : List (κ × ν)) :: H) w') :=
  .of_run fun a w ha hw => by
    refine ⟨.map (some w.heap.size), w.alloc (.map #[] 0), ?_, w.heap.size, rfl, ?_⟩
    · unfold execOp; simp only [ho]
      simp [Instr.makeMap, Result.andThen, run_newObj_alloc]
    · refine hw.split0.2.2 [mpA w.heap.size []] _ ⟨chg_alloc w _, [w.heap.size], ⟨[w.heap.size], [], rfl, ⟨rfl, [], 0, ⟨by simp, by simp, by simp⟩, rfl, World.alloc_heap_new w _⟩, rfl⟩, by simp, fun b hb => by simp at hb; subst hb; exact ⟨.inr (Nat.le_refl _), by simp⟩⟩

theorem modify_raw (es : Ents κ ν) (m : Nat) (k : κ) (v : ν) : ((es.map rawE).toArray.modify m fun e => { e with key := val k, val := val v }) = ((es.modify m fun e => (k, v, e.2.2)).map rawE).toArray := by
  apply Array.ext_getElem?
  intro i
  simp only [Array.getElem?_modify, raw_get, List.getElem?_modify]
  split <;> cases es[i]? <;> simp_all [rawE]
theorem ok_modify {es : Ents κ ν} {clock m b : Nat} {k : κ} {u : ν} (ok : EntsOk es clock) (h : es[m]? = some (k, u, b)) (v : ν) : EntsOk (es.modify m fun e => (k, v, e.2.2)) clock := by
  have e1 : (es.modify m fun e => (k, v, e.2.2)).map (·.2.2) = es.map (·.2.2) := by
    apply List.ext_getElem?
    intro i
    simp only [List.getElem?_map, List.getElem?_modify]
    split <;> cases es[i]? <;> rfl
  have e2 : (es.modify m fun e => (k, v, e.2.2)).map (·.1) = es.map (·.1) := by
    apply List.ext_getElem?
    intro i
    simp only [List.getElem?_map, List.getElem?_modify]
    split
    · rename_i hm; subst hm; simp [h]
    · cases es[i]? <;> rfl
  refine ⟨fun e he => ?_, by rw [e1]; exact ok.born, by rw [e2]; exact ok.keys⟩
  have : e.2.2 ∈ es.map (·.2.2) := by rw [← e1]; exact List.mem_map.2 ⟨e, he, rfl⟩
  obtain ⟨e', he', h'⟩ := List.mem_map.1 this
  rw [← h']; exact ok.lt e' he'
theorem ok_push {es : Ents κ ν} {clock : Nat} {k : κ} (ok : EntsOk es clock) (h : ∀ e ∈ es, e.1 ≠ k) (v : ν) : EntsOk (es ++ [(k, v, clock)]) (clock + 1) := by
  refine ⟨fun e he => ?_, ?_, ?_⟩
  · rcases List.mem_append.1 he with he | he
    · have := ok.lt e he; omega
    · simp at he; subst he; simp
  · simp only [List.map_append, List.map_cons, List.map_nil, List.nodup_append, List.nodup_cons]
    refine ⟨ok.born, by simp, ?_⟩
    intro x hx y hy
    obtain ⟨e, he, rfl⟩ := List.mem_map.1 hx
    simp at hy; subst hy
    exact Nat.ne_of_lt (ok.lt e he)
  · simp only [List.map_append, List.map_cons, List.map_nil, List.nodup_append, List.nodup_cons]
    refine ⟨ok.keys, by simp, ?_⟩
    intro x hx y hy
    obtain ⟨e, he, rfl⟩ := List.mem_map.1 hx
    simp at hy; subst hy
    exact h e he

theorem run_mapUpdate {t kt et : TypeId} [ht : MapT P t kt et] [hK : KeyT P kt κ] {w : World} {b clock : Nat} {es : Ents κ ν} (hb : w.heap[b]? = some (mapO es clock)) (ok : EntsOk es clock) (k : κ) (v : ν) :
    ∃ es' clock', EntsOk es' clock' ∧ kvs es' = upd (kvs es) k v ∧ (Instr.mapUpdate t (.map (some b)) (val k) (val v)).run P w = .ok () { w with heap := w.heap.setIfInBounds b (mapO es' clock') } := by
  have h1 := hK.find k es w
  have h2 := MapKept.run_getObj_map (P := P) hb
  cases hf : findK k es 0 with
  | none =>
    rw [hf] at h1
    obtain ⟨h3, _, h4⟩ := findK_none hf
    refine ⟨es ++ [(k, v, clock)], clock + 1, ok_push ok h3 v, by rw [h4]; simp [kvs], ?_⟩
    simp [Instr.mapUpdate, run_underlying ht.und, h2, hK.chk, h1, MapKept.run_setObj_map _ hb, Result.andThen, mapO, rawE]
  | some p =>
    rw [hf] at h1
    obtain ⟨j, u⟩ := p
    obtain ⟨m, bb, rfl, h3, _, h4⟩ := findK_some hf
    refine ⟨es.modify m fun e => (k, v, e.2.2), clock, ok_modify ok h3 v, h4 v, ?_⟩
    have e1 : ((es.map rawE).toArray[0 + m]?.map (·.key)).getD (val k) = val k := by rw [Nat.zero_add, raw_get, h3]; rfl
    simp only [Instr.mapUpdate, Sem.run_bind, run_underlying ht.und, Result.andThen, h2, hK.chk, h1, Option.map_some, e1, hK.stays, MapKept.run_setObj_map _ hb, mapO]
    rw [Nat.zero_add, modify_raw]

theorem e_mapUpdate {t kt et : TypeId} {x y u : Operand} {cx cy cu : List Bool} {b i : Nat} {k : κ} {v : ν} {l : List (κ × ν)} (ho : o.op = .mapUpdate t x y u ∨ o.op = .insert t x y u) (hx : evl E x = some (cx, .map (some b))) (hy : evl E y = some (cy, val k)) (hu : evl E u = some (cu, val v))
    [sx : Sub cx []] [sy : Sub cy []] [su : Sub cu []] [ht : MapT P t kt et] [hK : KeyT P kt κ] (hi : nthA H i = some (mpA b l)) :
    OpE P n E (Cl w0 fp H) o (fun u w' => u = undef ∧ Cl w0 fp (setA H i (mpA b (upd l k v))) w') :=
  .of_run0 fun a w ha hw => by
    obtain ⟨bs, ⟨b1, b2, rfl, ⟨rfl, es, clock, ok, rfl, hb⟩, rfl⟩, _, hlt, _, _, h6⟩ := (hw.focus hi).split
    obtain ⟨es', clock', ok', hk', hr⟩ := run_mapUpdate (P := P) (t := t) hb ok k v
    have hl : b < w.heap.size := hlt b (by simp)
    refine ⟨{ w with heap := w.heap.setIfInBounds b (mapO es' clock') }, ?_, (h6 [mpA b (upd (kvs es) k v)] _ ?_).set hi⟩
    · have e1 := ha.eval hx sx AllT.nil
      have e2 := ha.eval hy sy AllT.nil
      have e3 := ha.eval hu su AllT.nil
      rcases ho with ho | ho <;> (unfold execOp; simp only [ho]; rw [e1, e2, e3]; simp [hr, Result.andThen])
    · refine ⟨⟨rfl, rfl, rfl, by simp, fun k hk hn => ?_⟩, [b], ⟨[b], [], rfl, ⟨rfl, es', clock', ok', hk', ?_⟩, rfl⟩, by simp, fun k hk => ?_⟩
      · have : k ≠ b := by simpa using hn
        exact Array.getElem?_setIfInBounds_ne (Ne.symm this)
      · simp [hl]
      · simp at hk; subst hk; exact ⟨.inl (by simp), by simpa using hl⟩

theorem stb_raw {w w0 : World} {fp : List Nat} {H : List Asn} {b : Nat} {ob : Obj} (hw : Cl w0 fp H w) (hH : obj b ob ∈ H) : Stb w [] (fun w' => w'.heap[b]? = some ob) := by
  obtain ⟨_, h2, _⟩ := hw.split0
  obtain ⟨b2, hb⟩ := h2 _ hH
  exact ⟨fun w' k => (hb.stb w' k).2⟩
/-! ### 5. Ranges -/
def itO (b clock : Nat) (seen : Array Nat) : Obj := .mapIter (some b) clock seen clock
theorem e_range {t kt et : TypeId} {x : Operand} {cx : List Bool} {b clock : Nat} {es : Ents κ ν} (ho : o.op = .range t x) (hx : evl E x = some (cx, .map (some b))) [sx : Sub cx []] [ht : MapT P t kt et]
    (hb : ∀ w, Cl w0 fp H w → w.heap[b]? = some (mapO es clock)) : OpE P n E (Cl w0 fp H) o (fun u w' => ∃ r, u = .pointer (some ⟨r, 0, none⟩) ∧ Cl w0 fp (obj r (itO b clock #[]) :: H) w') :=
  .of_run fun a w ha hw => by
    refine ⟨_, w.alloc (itO b clock #[]), ?_, w.heap.size, rfl, hw.split0.2.2 [obj w.heap.size (itO b clock #[])] _ ⟨chg_alloc w _, [w.heap.size], ⟨[w.heap.size], [], rfl, ⟨rfl, World.alloc_heap_new w _⟩, rfl⟩, by simp, fun b hb => by simp at hb; subst hb; exact ⟨.inr (Nat.le_refl _), by simp⟩⟩⟩
    unfold execOp; simp only [ho]; rw [ha.eval hx sx AllT.nil]
    simp [Instr.range, run_underlying ht.und, MapKept.run_getObj_map (P := P) (hb w hw), Result.andThen, run_newObj_alloc, itO]

def nextV (x : Option (κ × ν × Nat)) : Array Value := match x with
  | none => #[.bool false]
  | some e => #[.bool true, val e.1, val e.2.1]
theorem nextV_0 (x : Option (κ × ν × Nat)) : (nextV x)[0]? = some (.bool x.isSome) := by cases x <;> rfl
def NextC (w0 : World) (fp : List Nat) (H : List Asn) (i r b clock : Nat) (es : Ents κ ν) (seen : Array Nat) (x : Option (κ × ν × Nat)) (w : World) : Prop := match x with
  | none => left es seen = [] ∧ Cl w0 fp H w
  | some e => e ∈ left es seen ∧ Cl w0 fp (setA H i (obj r (itO b clock (seen.push e.2.2)))) w
theorem cw_next_none {c : Code} {i r b clock : Nat} {es : Ents κ ν} {seen : Array Nat} (h : left es seen = [] → CW P c Q n E (Cl w0 fp H)) : CW P c Q n E (NextC w0 fp H i r b clock es seen none) := fun a w ha hw => h hw.1 a w ha hw.2
theorem cw_next_some {c : Code} {i r b clock : Nat} {es : Ents κ ν} {seen : Array Nat} {e : κ × ν × Nat} (h : e ∈ left es seen → CW P c Q n E (Cl w0 fp (setA H i (obj r (itO b clock (seen.push e.2.2)))))) : CW P c Q n E (NextC w0 fp H i r b clock es seen (some e)) := fun a w ha hw => h hw.1 a w ha hw.2

theorem leftOf_raw (es : Ents κ ν) (seen : Array Nat) : leftOf (es.map rawE).toArray seen = ((left es seen).map rawE).toArray := by
  unfold leftOf left
  apply Array.toList_inj.1
  rw [Array.toList_filter]
  simp only [List.filter_map]
  rfl

theorem e_next {x : Operand} {cx : List Bool} {b r clock i : Nat} {es : Ents κ ν} {seen : Array Nat} (ho : o.op = .next x false) (hx : evl E x = some (cx, .pointer (some ⟨r, 0, none⟩))) [sx : Sub cx []]
    (hi : nthA H i = some (obj r (itO b clock seen))) (ok : EntsOk es clock) (hb : ∀ w, Cl w0 fp H w → w.heap[b]? = some (mapO es clock)) :
    OpE P n E (Cl w0 fp H) o (fun u w' => ∃ x : Option (κ × ν × Nat), u = .tuple (nextV x) ∧ NextC w0 fp H i r b clock es seen x w') :=
  .of_run fun a w ha hw => by
    have hr : w.heap[r]? = some (itO b clock seen) := by
      obtain ⟨bs, h⟩ := hw.get (mem_of_nth hi)
      exact h.2
    have hold : ∀ x ∈ ((es.map rawE).toArray).toList, x.born < clock := fun x hx => by
      simp at hx
      obtain ⟨k, v, b, hx, rfl⟩ := hx
      exact ok.lt _ hx
    have hex : ∀ u w', (Instr.next (.pointer (some ⟨r, 0, none⟩)) false o.type).run P w = .ok u w' → (execOp a.eval o).run P w = .ok (.value u) w' := fun u w' h => by
      unfold execOp; simp only [ho]; rw [ha.eval hx sx AllT.nil]; simp [h, Result.andThen]
    rcases run_next_at (P := P) w o.type r b clock clock seen _ clock hr (hb w hw) hold (Nat.le_refl _) with ⟨h0, hrun⟩ | ⟨e, he, w1, hal, hrun⟩
    · refine ⟨_, _, hex _ _ hrun, none, rfl, ?_, hw⟩
      rw [leftOf_raw] at h0
      simpa using h0
    · rw [leftOf_raw] at he
      simp only [List.mem_map] at he
      obtain ⟨e', he', rfl⟩ := he
      refine ⟨_, _, hex _ _ hrun, some e', rfl, he', ?_⟩
      have hw1 : Cl w0 fp H w1 := by
        rcases hal with rfl | rfl
        · exact hw
        · exact hw.drew
      obtain ⟨bs, ⟨b1, b2, rfl, ⟨rfl, hb⟩, rfl⟩, _, hlt, _, _, h6⟩ := (hw1.focus hi).split
      have hl : r < w1.heap.size := hlt r (by simp)
      refine (h6 [obj r (itO b clock (seen.push e'.2.2))] (ChangeMaps.setBlock w1 r (Obj.mapIter (some b) clock (seen.push (rawE e').born) clock)) ⟨⟨rfl, rfl, rfl, by simp [ChangeMaps.setBlock], fun k hk hn => ?_⟩, [r], ⟨[r], [], rfl, ⟨rfl, ?_⟩, rfl⟩, by simp, fun k hk => ?_⟩).set hi
      · have : k ≠ r := by simpa using hn
        exact Array.getElem?_setIfInBounds_ne (Ne.symm this)
      · simp [ChangeMaps.setBlock, hl, itO, rawE]
      · simp at hk; subst hk; exact ⟨.inl (by simp), by simpa [ChangeMaps.setBlock] using hl⟩

theorem q_entry {x : Operand} {cx : List Bool} {b r clock : Nat} {es : Ents κ ν} {seen : Array Nat} {e : κ × ν × Nat} (ho : o.op = .entry x) (hx : evl E x = some (cx, .pointer (some ⟨r, 0, none⟩))) [sx : Sub cx cs]
    (hH : obj r (itO b clock (seen.push e.2.2)) ∈ H) (ok : EntsOk es clock) (he : e ∈ es) (hb : ∀ w, Cl w0 fp H w → w.heap[b]? = some (mapO es clock)) : OpR P n E (Cl w0 fp H) cs o (.tuple #[val e.1, val e.2.1]) :=
  .of_run fun a ha hc w hw => by
    have hr : w.heap[r]? = some (itO b clock (seen.push e.2.2)) := by
      obtain ⟨bs, h⟩ := hw.get hH
      exact h.2
    unfold execOp; simp only [ho]; rw [ha.eval hx sx hc]
    have := run_entry_at (P := P) w r b clock seen _ clock (rawE e) hr (hb w hw) (by simp; exact ⟨_, _, _, he, rfl⟩) (by simp only [List.map_map]; exact ok.born)
    simp [this, Result.andThen, rawE]
end mem
end Go.Sx
