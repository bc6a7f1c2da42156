/-
  Parts of slices for the layer of symbolic frames. General lemmas, no program text.
-/
import Derived.Test.YtekikelejncgeaaSxEff
set_option autoImplicit false
set_option linter.unusedSimpArgs false
set_option linter.unusedVariables false
set_option linter.unusedSectionVars false
namespace Go.Sx
open Enc (enc val)

def SlV.sub (s : SlV) (sz lo hi : Nat) : SlV := ⟨if s.cap = lo then s.addr else s.addr.map (·.add (lo * sz)), hi - lo, s.cap - lo⟩
section
variable {α : Type} [Enc α]
theorem rd_lens {s : SlV} {l : List α} {w : World} (h : RdL s.v l w) : s.len = l.length ∧ s.len ≤ s.cap ∧ s.cap ≤ maxLen := by
  obtain ⟨a, n, cap, e, h1, h2, h3, _⟩ := h
  simp only [SlV.v, Value.slice.injEq] at e
  obtain ⟨rfl, rfl, rfl⟩ := e
  exact ⟨h1.symm, h2, h3⟩
theorem rd_sub {s : SlV} {l : List α} {w : World} (h : RdL s.v l w) {a b : Nat} (hab : a ≤ b) (hb : b ≤ l.length) : RdL (s.sub (Enc.sz α) a b).v ((l.take b).drop a) w := by
  obtain ⟨ad, n, cap, e, h1, h2, h3, h4⟩ := h
  simp only [SlV.v, Value.slice.injEq] at e
  obtain ⟨e1, e2, e3⟩ := e
  refine ⟨_, _, _, rfl, by simp [SlV.sub]; omega, by simp only [SlV.sub]; omega, by simp only [SlV.sub]; omega, fun i x j v hx hv => ?_⟩
  rw [List.getElem?_drop, List.getElem?_take] at hx
  have hib : a + i < b := by
    by_cases h : a + i < b
    · exact h
    · simp [h] at hx
  rw [if_pos hib] at hx
  obtain ⟨bb, hbb, hc⟩ := h4 (a + i) x j v hx hv
  have hne : ¬ s.cap = a := by rw [e3]; omega
  refine ⟨bb.add (a * Enc.sz α), ?_, ?_⟩
  · simp [SlV.sub, if_neg hne, e1, hbb]
  · rw [addr_add_assoc, ← hc]
    congr 2
    rw [Nat.add_mul, Nat.add_assoc]
theorem stb_sub {s : SlV} {l : List α} {w : World} {fp : List Nat} (h : Stb w fp (RdL s.v l)) {a b : Nat} (hab : a ≤ b) (hb : b ≤ l.length) : Stb w fp (RdL (s.sub (Enc.sz α) a b).v ((l.take b).drop a)) :=
  ⟨fun w' k => rd_sub (h.stb w' k) hab hb⟩
variable {P : Program} {n : Fr} {E : Env} {C : World → Prop} {cs : List Bool} {o : Oper}

theorem run_slice_of {t e : TypeId} {sz : Nat} [ht : SlT P t e] [hz : SzT P e sz] {s : SlV} {w : World} {a b : Nat} {lo hi : Option Value} (hb : (Instr.sliceBounds true s.len s.cap lo hi none).run P w = .ok (a, b, s.cap) w) :
    (Instr.sliceAt t s.v lo hi none).run P w = .ok (s.sub sz a b).v w := by
  have e1 := run_underlying (P := P) (w := w) ht.und
  simp [Instr.sliceAt, Instr.slice, e1, hb, hz.sz, Result.andThen, SlV.v, SlV.sub]
theorem q_slice2 {t e : TypeId} {sz : Nat} {x y z : Operand} {cx cy cz : List Bool} {s : SlV} {l : List α} {a b : Int} (ho : o.op = .slice t x (some y) (some z) none) (hx : evl E x = some (cx, s.v)) (hy : evl E y = some (cy, .int .i64 a)) (hz : evl E z = some (cz, .int .i64 b))
    [sx : Sub cx cs] [sy : Sub cy cs] [sz' : Sub cz cs] [ht : SlT P t e] [hs : SzT P e sz] (hrd : ∀ w, C w → RdL s.v l w) (h : AllT cs → 0 ≤ a ∧ a ≤ b ∧ b ≤ l.length) : OpR P n E C cs o (s.sub sz a.toNat b.toNat).v :=
  .of_run fun e he hc w hw => by
    obtain ⟨h1, h2, h3⟩ := h hc
    obtain ⟨l1, l2, l3⟩ := rd_lens (hrd w hw)
    unfold execOp; simp only [ho]
    have e1 := he.eval hx sx hc
    have e2 := he.eval hy sy hc
    have e3 := he.eval hz sz' hc
    have := run_slice_of (P := P) (t := t) (s := s) (w := w) (a := a.toNat) (b := b.toNat) (lo := some (.int .i64 a)) (hi := some (.int .i64 b)) (by
      have f1 := run_sliceBound (P := P) (w := w) .i64 b s.cap .sliceAcap (by omega) (by omega)
      have f2 := run_sliceBound (P := P) (w := w) .i64 a b.toNat .sliceB (by omega) (by omega)
      simp [Instr.sliceBounds, f1, f2, Result.andThen])
    simp [e1, e2, e3, this, Result.andThen]
theorem q_sliceH {t e : TypeId} {sz : Nat} {x z : Operand} {cx cz : List Bool} {s : SlV} {l : List α} {b : Int} (ho : o.op = .slice t x none (some z) none) (hx : evl E x = some (cx, s.v)) (hz : evl E z = some (cz, .int .i64 b))
    [sx : Sub cx cs] [sz' : Sub cz cs] [ht : SlT P t e] [hs : SzT P e sz] (hrd : ∀ w, C w → RdL s.v l w) (h : AllT cs → 0 ≤ b ∧ b ≤ l.length) : OpR P n E C cs o (s.sub sz 0 b.toNat).v :=
  .of_run fun e he hc w hw => by
    obtain ⟨h1, h3⟩ := h hc
    obtain ⟨l1, l2, l3⟩ := rd_lens (hrd w hw)
    unfold execOp; simp only [ho]
    have e1 := he.eval hx sx hc
    have e3 := he.eval hz sz' hc
    have := run_slice_of (P := P) (t := t) (s := s) (w := w) (a := 0) (b := b.toNat) (lo := none) (hi := some (.int .i64 b)) (by
      have f1 := run_sliceBound (P := P) (w := w) .i64 b s.cap .sliceAcap (by omega) (by omega)
      simp [Instr.sliceBounds, f1, Result.andThen])
    simp [e1, e3, this, Result.andThen]
theorem q_sliceL {t e : TypeId} {sz : Nat} {x y : Operand} {cx cy : List Bool} {s : SlV} {l : List α} {a : Int} (ho : o.op = .slice t x (some y) none none) (hx : evl E x = some (cx, s.v)) (hy : evl E y = some (cy, .int .i64 a))
    [sx : Sub cx cs] [sy : Sub cy cs] [ht : SlT P t e] [hs : SzT P e sz] (hrd : ∀ w, C w → RdL s.v l w) (h : AllT cs → 0 ≤ a ∧ a ≤ l.length) : OpR P n E C cs o (s.sub sz a.toNat l.length).v :=
  .of_run fun e he hc w hw => by
    obtain ⟨h1, h3⟩ := h hc
    obtain ⟨l1, l2, l3⟩ := rd_lens (hrd w hw)
    unfold execOp; simp only [ho]
    have e1 := he.eval hx sx hc
    have e2 := he.eval hy sy hc
    have := run_slice_of (P := P) (t := t) (s := s) (w := w) (a := a.toNat) (b := l.length) (lo := some (.int .i64 a)) (hi := none) (by
      have f2 := run_sliceBound (P := P) (w := w) .i64 a l.length .sliceB (by omega) (by omega)
      simp [Instr.sliceBounds, l1, f2, Result.andThen])
    simp [e1, e2, this, Result.andThen]
theorem q_nilCheck {x : Operand} {cx : List Bool} {a : Addr} (ho : o.op = .nilCheck x) (hx : evl E x = some (cx, .pointer (some a))) [hs : Sub cx cs] : OpR P n E C cs o (.pointer (some a)) :=
  .of_run fun e he hc w _ => by unfold execOp; simp only [ho]; rw [he.eval hx hs hc]; rfl
/-- A block of cells that stays. -/
def BlkAt (b : Nat) (cells : List Value) (t : TypeId) (w : World) : Prop := ∃ bs, (blk b cells t).holds w bs
theorem stb_blk {w0 w : World} {fp : List Nat} {H : List Asn} {b : Nat} {cells : List Value} {t : TypeId} (hw : Cl w0 fp H w) (h : blk b cells t ∈ H) : Stb w [] (BlkAt b cells t) := by
  obtain ⟨b2, hb⟩ := hw.split0.2.1 _ h
  exact ⟨fun w' k => ⟨b2, hb.stb w' k⟩⟩
theorem q_loadS {t t' : TypeId} {x : Operand} {cx : List Bool} {b k : Nat} {cells : List Value} {v : Value} (ho : o.op = .load t x) (hx : evl E x = some (cx, .pointer (some ⟨b, k, none⟩))) [hs : Sub cx cs] [ht : CellT P t]
    (hH : ∀ w, C w → BlkAt b cells t' w) (hv : cells[k]? = some v) : OpR P n E C cs o v :=
  .of_run fun a ha hc w hw => by
    obtain ⟨bs, hb⟩ := hH w hw
    unfold execOp; simp only [ho]; rw [ha.eval hx hs hc]
    simp [Instr.loadAt, Instr.sureAddr, loadVar, ht.agg w, run_load, blk.cell hb, hv, Result.andThen]
/-- A byte of a string. -/
def byteAt (b : ByteArray) (i : Nat) : Nat := ((b[i]?).getD 0).toNat
theorem byteAt_lt (b : ByteArray) (i : Nat) : byteAt b i < 256 := UInt8.toNat_lt _
theorem q_indexS {t : TypeId} {x y : Operand} {cx cy : List Bool} {b : ByteArray} {k : IntKind} {i : Int} (ho : o.op = .index t x y) (hx : evl E x = some (cx, .string b)) (hy : evl E y = some (cy, .int k i)) [sx : Sub cx cs] [sy : Sub cy cs]
    (ht : P.underlying t = some .string) (h : AllT cs → 0 ≤ i ∧ i < b.size) : OpR P n E C cs o (.int .u8 (byteAt b i.toNat)) :=
  .of_run fun a ha hc w hw => by
    unfold execOp; simp only [ho]; rw [ha.eval hx sx hc, ha.eval hy sy hc]
    obtain ⟨h1, h2⟩ := h hc
    have h3 : i.toNat < b.size := by omega
    have h4 : b[i.toNat]? = some b[i.toNat] := getElem?_pos b i.toNat h3
    simp [Instr.index, asIntOf, run_underlying ht, h1, h4, Result.andThen, byteAt]
end
end Go.Sx
