/-
  Memory for the layer of symbolic frames: assertions with footprints, a class of worlds for a list of assertions, slices that read as lists. General lemmas, no program text.
-/
import Derived.Test.YtekikelejncgeaaSxCore
set_option autoImplicit false
set_option linter.unusedSimpArgs false
set_option linter.unusedVariables false
namespace Go.Sx

/-! ### 1. Change, assertions, classes -/
structure Chg (fp : List Nat) (w w' : World) : Prop where
  os : w'.os = w.os
  tape : w'.tape = w.tape
  output : w'.output = w.output
  size : w.heap.size ≤ w'.heap.size
  block : ∀ k, k < w.heap.size → k ∉ fp → w'.heap[k]? = w.heap[k]?

theorem Chg.refl (fp : List Nat) (w : World) : Chg fp w w := ⟨rfl, rfl, rfl, Nat.le_refl _, fun _ _ _ => rfl⟩
theorem Chg.drawn {fp : List Nat} {w w' : World} (h : Chg fp w w') (k : Nat) : Chg fp w { w' with drawn := k } := ⟨h.os, h.tape, h.output, h.size, h.block⟩
theorem Chg.below {w w' : World} (h : Chg [] w w') : RowKit.Below w.heap.size w w' := ⟨h.os, h.tape, h.output, h.size, fun k hk => h.block k hk (by simp)⟩
theorem Chg.of_below {w w' : World} (h : RowKit.Below w.heap.size w w') : Chg [] w w' := ⟨h.os, h.tape, h.output, h.size, fun k hk _ => h.block k hk⟩

structure Asn where
  holds : World → List Nat → Prop
  loc : ∀ w w' bs, holds w bs → (∀ b ∈ bs, w'.heap[b]? = w.heap[b]?) → holds w' bs

def Sep : List Asn → World → List Nat → Prop
  | [], _, bs => bs = []
  | A :: As, w, bs => ∃ b1 b2, bs = b1 ++ b2 ∧ A.holds w b1 ∧ Sep As w b2

theorem Sep.loc : ∀ {H : List Asn} {w w' : World} {bs : List Nat}, Sep H w bs → (∀ b ∈ bs, w'.heap[b]? = w.heap[b]?) → Sep H w' bs
  | [], _, _, _, h, _ => h
  | A :: As, w, w', bs, ⟨b1, b2, e, h1, h2⟩, hk => ⟨b1, b2, e, A.loc _ _ _ h1 (fun b hb => hk b (by simp [e, hb])), h2.loc (fun b hb => hk b (by simp [e, hb]))⟩
theorem Sep.append : ∀ {H G : List Asn} {w : World} {bs : List Nat}, Sep (H ++ G) w bs ↔ ∃ b1 b2, bs = b1 ++ b2 ∧ Sep H w b1 ∧ Sep G w b2
  | [], G, w, bs => ⟨fun h => ⟨[], bs, rfl, rfl, h⟩, fun ⟨b1, b2, e, h1, h2⟩ => by cases h1; subst e; exact h2⟩
  | A :: As, G, w, bs => by
    simp only [List.cons_append, Sep]
    constructor
    · rintro ⟨b1, b2, rfl, h1, h2⟩
      obtain ⟨c1, c2, rfl, h3, h4⟩ := Sep.append.1 h2
      exact ⟨b1 ++ c1, c2, by simp, ⟨b1, c1, rfl, h1, h3⟩, h4⟩
    · rintro ⟨b1, b2, rfl, ⟨c1, c2, rfl, h1, h2⟩, h3⟩
      exact ⟨c1, c2 ++ b2, by simp, h1, Sep.append.2 ⟨c2, b2, rfl, h2, h3⟩⟩
theorem Sep.perm {H G : List Asn} {w : World} (hp : H.Perm G) : ∀ {bs : List Nat}, Sep H w bs → ∃ bs', bs.Perm bs' ∧ Sep G w bs' := by
  induction hp with
  | nil => intro bs h; exact ⟨bs, .refl _, h⟩
  | cons A _ ih =>
    rintro bs ⟨b1, b2, rfl, h1, h2⟩
    obtain ⟨b2', hp, h⟩ := ih h2
    exact ⟨b1 ++ b2', hp.append_left b1, b1, b2', rfl, h1, h⟩
  | swap A B l =>
    rintro bs ⟨b1, b2, rfl, h1, c1, c2, rfl, h2, h3⟩
    refine ⟨c1 ++ (b1 ++ c2), ?_, c1, b1 ++ c2, rfl, h2, b1, c2, rfl, h1, h3⟩
    rw [← List.append_assoc, ← List.append_assoc]
    exact List.perm_append_comm.append_right c2
  | trans _ _ ih1 ih2 =>
    intro bs h
    obtain ⟨b1, p1, h1⟩ := ih1 h
    obtain ⟨b2, p2, h2⟩ := ih2 h1
    exact ⟨b2, p1.trans p2, h2⟩

/-- The worlds that differ from w0 only in fp and in new blocks, and whose blocks of the call's own hold H. -/
def Cl (w0 : World) (fp : List Nat) (H : List Asn) (w : World) : Prop :=
  Chg fp w0 w ∧ ∃ bs, Sep H w bs ∧ bs.Nodup ∧ ∀ b ∈ bs, (b ∈ fp ∨ w0.heap.size ≤ b) ∧ b < w.heap.size

instance (w0 : World) (fp : List Nat) (H : List Asn) : Drawn (Cl w0 fp H) := ⟨fun _ ⟨h, bs, hs, hn, hb⟩ => ⟨h.drawn _, bs, hs.loc (fun _ _ => rfl), hn, hb⟩⟩

theorem Cl.start {w : World} {bs : List Nat} {H : List Asn} (hs : Sep H w bs) (hn : bs.Nodup) (hb : ∀ b ∈ bs, b < w.heap.size) : Cl w bs H w := ⟨Chg.refl _ _, bs, hs, hn, fun b h => ⟨.inl h, hb b h⟩⟩
theorem Cl.start0 (w : World) : Cl w [] [] w := ⟨Chg.refl _ _, [], rfl, List.nodup_nil, fun b h => by simp at h⟩
theorem Cl.chg {w0 w : World} {fp : List Nat} {H : List Asn} (h : Cl w0 fp H w) : Chg fp w0 w := h.1
theorem Cl.perm {w0 w : World} {fp : List Nat} {H G : List Asn} (hp : H.Perm G) (h : Cl w0 fp H w) : Cl w0 fp G w := by
  obtain ⟨hc, bs, hs, hn, hb⟩ := h
  obtain ⟨bs', p, hs'⟩ := hs.perm hp
  exact ⟨hc, bs', hs', p.nodup_iff.1 hn, fun b h => hb b (p.mem_iff.2 h)⟩
theorem Cl.tail {w0 w : World} {fp : List Nat} {A : Asn} {H : List Asn} (h : Cl w0 fp (A :: H) w) : Cl w0 fp H w := by
  obtain ⟨hc, bs, ⟨b1, b2, rfl, _, h2⟩, hn, hb⟩ := h
  exact ⟨hc, b2, h2, (List.nodup_append.1 hn).2.1, fun b h => hb b (by simp [h])⟩

/-- Something that stays while only fp and new blocks change. -/
structure Stb (w : World) (fp : List Nat) (R : World → Prop) : Prop where
  stb : ∀ w', Chg fp w w' → R w'

theorem Stb.here {w : World} {fp : List Nat} {R : World → Prop} (h : Stb w fp R) : R w := h.stb w (Chg.refl _ _)
theorem Stb.cl {w0 w : World} {fp : List Nat} {R : World → Prop} {H : List Asn} (h : Stb w0 fp R) (hC : Cl w0 fp H w) : R w := h.stb w hC.1

/-- THE FRAME: what a step may rely on, and what it gives back. -/
theorem Cl.split {w0 w : World} {fp : List Nat} {A F : List Asn} (h : Cl w0 fp (A ++ F) w) :
    ∃ bs, Sep A w bs ∧ bs.Nodup ∧ (∀ b ∈ bs, b < w.heap.size) ∧ (∀ R, Stb w0 fp R → Stb w bs R) ∧ (∀ G ∈ F, ∃ b2, Stb w bs fun w' => G.holds w' b2) ∧
      ∀ B w', Cl w bs B w' → Cl w0 fp (B ++ F) w' := by
  obtain ⟨hc, bs, hs, hn, hb⟩ := h
  obtain ⟨b1, b2, rfl, h1, h2⟩ := Sep.append.1 hs
  have hn' := List.nodup_append.1 hn
  have hdis : ∀ b, b ∈ b2 → b ∉ b1 := fun b hb2 hb1 => hn'.2.2 b hb1 b hb2 rfl
  have htr : ∀ w', Chg b1 w w' → Chg fp w0 w' := fun w' k => ⟨k.os.trans hc.os, k.tape.trans hc.tape, k.output.trans hc.output, Nat.le_trans hc.size k.size, fun i hi hif => by
    refine (k.block i (Nat.lt_of_lt_of_le hi hc.size) fun hi1 => ?_).trans (hc.block i hi hif)
    rcases (hb i (by simp [hi1])).1 with h | h
    · exact hif h
    · omega⟩
  have hF : ∀ w', Chg b1 w w' → Sep F w' b2 := fun w' k => h2.loc fun b hb2 => k.block b (hb b (by simp [hb2])).2 (hdis b hb2)
  refine ⟨b1, h1, hn'.1, fun b h => (hb b (by simp [h])).2, fun R hR => ⟨fun w' k => hR.stb w' (htr w' k)⟩, ?_, ?_⟩
  · intro G hG
    have : ∀ {F : List Asn} {w : World} {b2 : List Nat}, Sep F w b2 → G ∈ F → ∃ b3, G.holds w b3 ∧ ∀ b ∈ b3, b ∈ b2 := by
      intro F
      induction F with
      | nil => intro w b2 _ h; simp at h
      | cons X Xs ih =>
        rintro w b2 ⟨c1, c2, rfl, k1, k2⟩ hG
        rcases List.mem_cons.1 hG with rfl | hG
        · exact ⟨c1, k1, fun b hb => by simp [hb]⟩
        · obtain ⟨b3, k3, k4⟩ := ih k2 hG
          exact ⟨b3, k3, fun b hb => by simp [k4 b hb]⟩
    obtain ⟨b3, k3, k4⟩ := this h2 hG
    exact ⟨b3, ⟨fun w' k => G.loc _ _ _ k3 fun b hb3 => k.block b (hb b (by simp [k4 b hb3])).2 (hdis b (k4 b hb3))⟩⟩
  · rintro B w' ⟨k, cs, ks, kn, kb⟩
    refine ⟨htr w' k, cs ++ b2, Sep.append.2 ⟨cs, b2, rfl, ks, hF w' k⟩, List.nodup_append.2 ⟨kn, hn'.2.1, ?_⟩, ?_⟩
    · rintro x hx y hy rfl
      rcases (kb x hx).1 with h | h
      · exact hdis x hy h
      · have := (hb x (by simp [hy])).2; omega
    · intro b h
      rcases List.mem_append.1 h with h | h
      · refine ⟨?_, (kb b h).2⟩
        rcases (kb b h).1 with h' | h'
        · exact (hb b (by simp [h'])).1
        · exact .inr (Nat.le_trans hc.size h')
      · exact ⟨(hb b (by simp [h])).1, Nat.lt_of_lt_of_le (hb b (by simp [h])).2 k.size⟩

/-- A step that needs none of the call's own blocks. -/
theorem Cl.split0 {w0 w : World} {fp : List Nat} {F : List Asn} (h : Cl w0 fp F w) :
    (∀ R, Stb w0 fp R → Stb w [] R) ∧ (∀ G ∈ F, ∃ b2, Stb w [] fun w' => G.holds w' b2) ∧ ∀ B w', Cl w [] B w' → Cl w0 fp (B ++ F) w' := by
  obtain ⟨bs, hs, _, _, h1, h2, h3⟩ := Cl.split (A := []) h
  obtain rfl : bs = [] := hs
  exact ⟨h1, h2, h3⟩

def nthA : List Asn → Nat → Option Asn
  | [], _ => none
  | A :: _, 0 => some A
  | _ :: H, i + 1 => nthA H i
def delA : List Asn → Nat → List Asn
  | [], _ => []
  | _ :: H, 0 => H
  | A :: H, i + 1 => A :: delA H i
def setA : List Asn → Nat → Asn → List Asn
  | [], _, _ => []
  | _ :: H, 0, B => B :: H
  | A :: H, i + 1, B => A :: setA H i B
theorem perm_del : ∀ {H : List Asn} {i : Nat} {A : Asn}, nthA H i = some A → H.Perm (A :: delA H i)
  | [], _, _, h => by simp [nthA] at h
  | B :: H, 0, A, h => by simp only [nthA, Option.some.injEq] at h; subst h; exact .refl _
  | B :: H, i + 1, A, h => ((perm_del (H := H) h).cons B).trans (.swap A B _)
theorem perm_set : ∀ {H : List Asn} {i : Nat} {A B : Asn}, nthA H i = some A → (B :: delA H i).Perm (setA H i B)
  | [], _, _, _, h => by simp [nthA] at h
  | C :: H, 0, A, B, h => .refl _
  | C :: H, i + 1, A, B, h => (List.Perm.swap C B _).trans ((perm_set (H := H) (B := B) h).cons C)
theorem mem_of_nth : ∀ {H : List Asn} {i : Nat} {A : Asn}, nthA H i = some A → A ∈ H
  | [], _, _, h => by simp [nthA] at h
  | B :: H, 0, A, h => by simp only [nthA, Option.some.injEq] at h; subst h; simp
  | B :: H, i + 1, A, h => List.mem_cons_of_mem _ (mem_of_nth (H := H) h)

theorem Cl.focus {w0 w : World} {fp : List Nat} {H : List Asn} {i : Nat} {A : Asn} (hi : nthA H i = some A) (h : Cl w0 fp H w) : Cl w0 fp ([A] ++ delA H i) w := h.perm (perm_del hi)
theorem Cl.set {w0 w : World} {fp : List Nat} {H : List Asn} {i : Nat} {A B : Asn} (hi : nthA H i = some A) (h : Cl w0 fp ([B] ++ delA H i) w) : Cl w0 fp (setA H i B) w := h.perm (perm_set hi)
theorem Cl.get {w0 w : World} {fp : List Nat} {H : List Asn} {A : Asn} (hA : A ∈ H) (h : Cl w0 fp H w) : ∃ bs, A.holds w bs := by
  obtain ⟨_, h2, _⟩ := h.split0
  obtain ⟨b2, hb⟩ := h2 A hA
  exact ⟨b2, hb.here⟩

/-- H' is some of H, in some order. -/
inductive Sel : List Asn → List Asn → Prop
  | nil (H : List Asn) : Sel H []
  | take {H H' : List Asn} {A : Asn} (i : Nat) (h : nthA H i = some A) (r : Sel (delA H i) H') : Sel H (A :: H')
theorem Cl.sel {w0 : World} {fp : List Nat} {H H' : List Asn} (s : Sel H H') : ∀ w, Cl w0 fp H w → Cl w0 fp H' w := by
  have drop : ∀ (G F : List Asn) (w : World), Cl w0 fp (F ++ G) w → Cl w0 fp F w := by
    intro G
    induction G with
    | nil => intro F w h; simpa using h
    | cons X G ih =>
      intro F w h
      exact ih F w (h.perm (List.perm_middle (l₁ := F) (l₂ := G) (a := X))).tail
  have key : ∀ {H H' : List Asn}, Sel H H' → ∃ G, H.Perm (H' ++ G) := by
    intro H H' s
    induction s with
    | nil H => exact ⟨H, .refl _⟩
    | take i h r ih =>
      obtain ⟨G, hG⟩ := ih
      exact ⟨G, (perm_del h).trans (hG.cons _)⟩
  obtain ⟨G, hG⟩ := key s
  exact fun w h => drop G H' w (h.perm hG)

/-! ### 2. Values in cells -/
class Enc (α : Type) where
  enc : α → List Value
  sz : Nat
  val : α → Value
  len : ∀ x, (enc x).length = sz
  one : ∀ x, ∀ v, v ∈ enc x → v.oneCell' = true
  cells : ∀ x, (val x).cells = (enc x).toArray
  pos : 0 < sz
open Enc (enc val)

instance : Enc Int := ⟨fun n => [.int .i64 n], 1, fun n => .int .i64 n, fun _ => rfl, by simp [Value.oneCell'], fun _ => rfl, by decide⟩
instance : Enc Bool := ⟨fun b => [.bool b], 1, fun b => .bool b, fun _ => rfl, by simp [Value.oneCell'], fun _ => rfl, by decide⟩
instance : Enc ByteArray := ⟨fun b => [.string b], 1, fun b => .string b, fun _ => rfl, by simp [Value.oneCell'], fun _ => rfl, by decide⟩
/-- A value that is a slice. -/
structure SlV where
  addr : Option Addr
  len : Nat
  cap : Nat
def SlV.v (s : SlV) : Value := .slice s.addr s.len s.cap
instance : Inhabited SlV := ⟨⟨none, 0, 0⟩⟩
instance : Enc SlV := ⟨fun s => [s.v], 1, fun s => s.v, fun _ => rfl, by simp [SlV.v, Value.oneCell'], fun _ => rfl, by decide⟩

section flat
variable {α : Type} [Enc α]
theorem flat_len : ∀ l : List α, (l.flatMap enc).length = l.length * Enc.sz α
  | [] => by simp
  | x :: l => by simp only [List.flatMap_cons, List.length_append, Enc.len, flat_len l, List.length_cons, Nat.add_mul, Nat.one_mul, Nat.add_comm]
theorem flat_get : ∀ (l : List α) (i : Nat) (x : α) (j : Nat) (v : Value), l[i]? = some x → (enc x)[j]? = some v → (l.flatMap enc)[i * Enc.sz α + j]? = some v
  | [], _, _, _, _, h, _ => by simp at h
  | y :: l, 0, x, j, v, h, hv => by
    simp only [List.getElem?_cons_zero, Option.some.injEq] at h; subst h
    simp only [List.flatMap_cons, Nat.zero_mul, Nat.zero_add]
    rw [List.getElem?_append_left (List.getElem?_eq_some_iff.1 hv).1]; exact hv
  | y :: l, i + 1, x, j, v, h, hv => by
    simp only [List.getElem?_cons_succ] at h
    simp only [List.flatMap_cons]
    rw [List.getElem?_append_right (by rw [Enc.len, Nat.add_mul, Nat.one_mul]; omega), Enc.len]
    rw [show (i + 1) * Enc.sz α + j - Enc.sz α = i * Enc.sz α + j by rw [Nat.add_mul, Nat.one_mul]; omega]
    exact flat_get l i x j v h hv
theorem flat_inv (l : List α) (k : Nat) (v : Value) (h : (l.flatMap enc)[k]? = some v) : ∃ x, l[k / Enc.sz α]? = some x ∧ (enc x)[k % Enc.sz α]? = some v := by
  have hk := (List.getElem?_eq_some_iff.1 h).1
  rw [flat_len] at hk
  have hp := Enc.pos (α := α)
  have hi : k / Enc.sz α < l.length := (Nat.div_lt_iff_lt_mul hp).2 hk
  have hj : k % Enc.sz α < (enc l[k / Enc.sz α]).length := by rw [Enc.len]; exact Nat.mod_lt _ hp
  refine ⟨l[k / Enc.sz α], List.getElem?_eq_getElem hi, ?_⟩
  have := flat_get l _ _ _ _ (List.getElem?_eq_getElem hi) (List.getElem?_eq_getElem hj)
  rw [Nat.mul_comm, Nat.div_add_mod] at this
  rw [h] at this
  rw [List.getElem?_eq_getElem hj]; exact this.symm
theorem flat_set : ∀ (l : List α) (i : Nat) (x : α), i < l.length → (l.set i x).flatMap enc = (l.flatMap enc).take (i * Enc.sz α) ++ enc x ++ (l.flatMap enc).drop (i * Enc.sz α + Enc.sz α)
  | [], _, _, h => by simp at h
  | y :: l, 0, x, _ => by
    simp only [List.set_cons_zero, List.flatMap_cons, Nat.zero_mul, Nat.zero_add, List.take_zero, List.nil_append]
    rw [show Enc.sz α = (enc y).length from (Enc.len y).symm, List.drop_left]
  | y :: l, i + 1, x, h => by
    simp only [List.set_cons_succ, List.flatMap_cons]
    rw [flat_set l i x (by simpa using h)]
    have e1 : (i + 1) * Enc.sz α = (enc y).length + i * Enc.sz α := by rw [Enc.len, Nat.add_mul, Nat.one_mul, Nat.add_comm]
    rw [e1, Nat.add_assoc, List.take_length_add_append, List.drop_length_add_append]
    simp
theorem flat_one (l : List α) : ∀ v, v ∈ l.flatMap enc → v.oneCell' = true := fun v hv => by
  obtain ⟨x, _, hx⟩ := List.mem_flatMap.1 hv
  exact Enc.one x v hx
theorem flat_take (l : List α) (k : Nat) : (l.take k).flatMap enc = (l.flatMap enc).take (k * Enc.sz α) := by
  by_cases hk : k ≤ l.length
  · have h := congrArg (List.flatMap enc) (List.take_append_drop k l)
    rw [List.flatMap_append] at h
    rw [← h]
    have e : k * Enc.sz α = ((l.take k).flatMap enc).length := by rw [flat_len, List.length_take, Nat.min_eq_left hk]
    rw [e, List.take_left]
  · rw [List.take_of_length_le (by omega), List.take_of_length_le]
    rw [flat_len]; exact Nat.mul_le_mul_right _ (by omega)
end flat

def nth {α : Type} [Inhabited α] (l : List α) (i : Nat) : α := l.getD i default
theorem nth_some {α : Type} [Inhabited α] {l : List α} {i : Nat} (h : i < l.length) : l[i]? = some (nth l i) := by simp [nth, List.getD, List.getElem?_eq_getElem h]
theorem nth_get {α : Type} [Inhabited α] {l : List α} {i : Nat} (h : i < l.length) : nth l i = l[i] := by simp [nth, List.getD, List.getElem?_eq_getElem h]

/-! ### 3. Slices that read as lists -/
def RdL {α : Type} [Enc α] (sv : Value) (l : List α) (w : World) : Prop :=
  ∃ a n cap, sv = .slice a n cap ∧ l.length = n ∧ n ≤ cap ∧ cap ≤ maxLen ∧
    ∀ i x j v, l[i]? = some x → (enc x)[j]? = some v → ∃ b, a = some b ∧ w.cell? (b.add (i * Enc.sz α + j)) = some v

def OwnS (e : TypeId) (sz : Nat) (sv : Value) (xs : List Value) (w : World) (bs : List Nat) : Prop :=
  (sv = .slice none 0 0 ∧ xs = [] ∧ bs = []) ∨
  ∃ b n cap cur, sv = .slice (some ⟨b, 0, none⟩) n cap ∧ bs = [b] ∧ w.heap[b]? = some (.cells cur e (0, 0)) ∧ n ≤ cap ∧ cap ≤ maxLen ∧ cur.size = cap * sz ∧ xs.length = n * sz ∧ cur.toList.take (n * sz) = xs

theorem OwnS.loc {e : TypeId} {sz : Nat} {sv : Value} {xs : List Value} (w w' : World) (bs : List Nat) (h : OwnS e sz sv xs w bs) (hk : ∀ b ∈ bs, w'.heap[b]? = w.heap[b]?) : OwnS e sz sv xs w' bs := by
  rcases h with h | ⟨b, n, cap, cur, h1, h2, h3, h4⟩
  · exact .inl h
  · exact .inr ⟨b, n, cap, cur, h1, h2, (hk b (by simp [h2])).trans h3, h4⟩

/-- The call's own slice, whole: it reads as l. -/
def ownL {α : Type} [Enc α] (e : TypeId) (sv : Value) (l : List α) : Asn := ⟨OwnS e (Enc.sz α) sv (l.flatMap enc), OwnS.loc⟩
/-- The call's own block of cells. -/
def blk (b : Nat) (cs : List Value) (t : TypeId) : Asn := ⟨fun w bs => bs = [b] ∧ w.heap[b]? = some (.cells cs.toArray t (0, 0)), fun _ _ _ ⟨h1, h2⟩ hk => ⟨h1, (hk b (by simp [h1])).trans h2⟩⟩
/-- The call's own block, of whatever kind. -/
def obj (b : Nat) (o : Obj) : Asn := ⟨fun w bs => bs = [b] ∧ w.heap[b]? = some o, fun _ _ _ ⟨h1, h2⟩ hk => ⟨h1, (hk b (by simp [h1])).trans h2⟩⟩

theorem addr_add (b o k : Nat) : (⟨b, o, none⟩ : Addr).add k = ⟨b, o + k, none⟩ := by unfold Addr.add; split <;> simp_all
theorem addr_add_add (a : Addr) (i j : Nat) : (a.add i).add j = if i + j = 0 then a else { a with off := a.off + (i + j), spot := none } := by
  unfold Addr.add
  by_cases hi : i = 0 <;> by_cases hj : j = 0 <;> simp [hi, hj, Nat.add_assoc]
theorem addr_add_assoc (a : Addr) (i j : Nat) : (a.add i).add j = a.add (i + j) := by rw [addr_add_add]; rfl

theorem cell_at {w : World} {b i : Nat} {cur : Array Value} {e : TypeId} {fr : Nat × Nat} (h : w.heap[b]? = some (.cells cur e fr)) : w.cell? ⟨b, i, none⟩ = cur[i]? := by simp [World.cell?, h]

section own
variable {α : Type} [Enc α] {e : TypeId} {sv : Value} {l : List α} {w : World} {bs : List Nat}

theorem ownL.len {n cap : Nat} {a : Option Addr} (h : (ownL e (.slice a n cap) l).holds w bs) : n = l.length := by
  rcases h with ⟨h1, h2, _⟩ | ⟨b, n', cap', cur, h1, _, _, _, _, _, h5, _⟩
  · simp only [Value.slice.injEq] at h1
    have := flat_len l
    rw [h2] at this
    have hp := Enc.pos (α := α)
    have : l.length = 0 := by
      rcases Nat.mul_eq_zero.1 this.symm with h | h
      · exact h
      · omega
    omega
  · simp only [Value.slice.injEq] at h1
    rw [flat_len] at h5
    have := Nat.eq_of_mul_eq_mul_right (Enc.pos (α := α)) h5
    omega

theorem ownL.rd (h : (ownL e sv l).holds w bs) : RdL sv l w := by
  rcases h with ⟨h1, h2, _⟩ | ⟨b, n, cap, cur, h1, _, h3, h4, h5, h6, h7, h8⟩
  · have hl : l = [] := by
      have := flat_len l
      rw [h2] at this
      rcases Nat.mul_eq_zero.1 this.symm with h | h
      · exact List.eq_nil_of_length_eq_zero h
      · have := Enc.pos (α := α); omega
    subst hl
    exact ⟨none, 0, 0, h1, rfl, Nat.le_refl _, by simp [maxLen], fun i x j v hx => by simp at hx⟩
  · rw [flat_len] at h7
    have hn := Nat.eq_of_mul_eq_mul_right (Enc.pos (α := α)) h7
    refine ⟨_, n, cap, h1, hn, h4, h5, fun i x j v hx hv => ⟨_, rfl, ?_⟩⟩
    rw [addr_add, Nat.zero_add, cell_at h3]
    have h9 := flat_get l i x j v hx hv
    rw [← h8, List.getElem?_take] at h9
    split at h9
    · simpa using h9
    · simp at h9

theorem ownL.nil (w : World) : (ownL (α := α) e (.slice none 0 0) []).holds w [] := .inl ⟨rfl, rfl, rfl⟩
end own

theorem blk.cell {b : Nat} {cs : List Value} {t : TypeId} {w : World} {bs : List Nat} (h : (blk b cs t).holds w bs) (i : Nat) : w.cell? ⟨b, i, none⟩ = cs[i]? := by
  rw [cell_at h.2]; simp
end Go.Sx
