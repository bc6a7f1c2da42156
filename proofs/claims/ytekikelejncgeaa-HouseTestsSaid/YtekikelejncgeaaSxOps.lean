/-
  The operations in the layer of symbolic frames: what each one yields. General lemmas, no program text.
-/
import Derived.Test.YtekikelejncgeaaSxHeap
set_option autoImplicit false
set_option linter.unusedSimpArgs false
set_option linter.unusedVariables false
namespace Go.Sx
open Enc (enc val)

/-! ### 0. What the program's tables say, as classes -/
class SlT (P : Program) (t : TypeId) (e : outParam TypeId) : Prop where
  und : P.underlying t = some (.slice e)
class SzT (P : Program) (t : TypeId) (n : outParam Nat) : Prop where
  sz : ∀ w, (sizeOf t).run P w = .ok n w
class IntT (P : Program) (t : TypeId) (k : outParam IntKind) : Prop where
  und : P.underlying t = some (.int k)
class FldT (P : Program) (t : TypeId) (i : Nat) (off : outParam Nat) : Prop where
  fld : ∀ a w, (Instr.fieldAt t (.pointer (some a)) i).run P w = .ok (.pointer (some (a.add off))) w
class CanCall (P : Program) (f : FuncId) : Prop where
  run : ∀ args w, (callFunc f args).run P w = .ok (.enter f args) w
/-- The values of type t are those of α. -/
class HasTy (P : Program) (t : TypeId) (α : outParam Type) [Enc α] : Prop where
  sz : ∀ w, (sizeOf t).run P w = .ok (Enc.sz α) w
  load : ∀ (w : World) (a : Addr) (x : α), (∀ j v, (enc x)[j]? = some v → w.cell? (a.add j) = some v) → (loadVar t a).run P w = .ok (val x) w

/-- Values of one cell that are no aggregate. -/
class CellT (P : Program) (t : TypeId) : Prop where
  agg : ∀ w, (isAgg t).run P w = .ok false w
class AggT (P : Program) (t : TypeId) : Prop where
  agg : ∀ w, (isAgg t).run P w = .ok true w
/-- A struct: where its fields lie, and its zero value. -/
class StT (P : Program) (t : TypeId) (places : outParam (List (Nat × Nat))) (z : outParam (List Value)) : Prop where
  built : ∀ parts, P.built t parts = Instr.fill (places.toArray[·]?) z.toArray parts

section
variable {P : Program} {n : Fr} {E : Env} {C : World → Prop} {cs : List Bool} {o : Oper}

/-! ### 1. Plain operations -/
theorem q_move {x : Operand} {cx : List Bool} {v : Value} (ho : o.op = .move x) (hx : evl E x = some (cx, v)) [hs : Sub cx cs] : OpR P n E C cs o v :=
  .of_run fun a ha hc w _ => by unfold execOp; simp only [ho]; rw [ha.eval hx hs hc]; rfl
theorem q_assign {x : Operand} {cx : List Bool} {v : Value} (ho : o.op = .assign x) (hx : evl E x = some (cx, v)) [hs : Sub cx cs] : OpR P n E C cs o v :=
  .of_run fun a ha hc w _ => by unfold execOp; simp only [ho]; rw [ha.eval hx hs hc]; rfl

theorem bin_run {op : BinOp} {t t' : TypeId} {x y : Operand} {cx cy : List Bool} {u v r : Value} (ho : o.op = .binOp op t x y t') (hx : evl E x = some (cx, u)) (hy : evl E y = some (cy, v)) (sx : Sub cx cs) (sy : Sub cy cs)
    (hg : eqGuard op t x y u v = pure ()) (hr : ∀ w, (binOp op t u v).run P w = .ok r w) : OpR P n E C cs o r :=
  .of_run fun a ha hc w _ => by
    unfold execOp; simp only [ho]
    rw [ha.eval hx sx hc, ha.eval hy sy hc, hg]
    simp [hr w]
theorem q_add {t t' : TypeId} {x y : Operand} {cx cy : List Bool} {a b : Int} (ho : o.op = .binOp .add t x y t') (hx : evl E x = some (cx, .int .i64 a)) (hy : evl E y = some (cy, .int .i64 b)) [sx : Sub cx cs] [sy : Sub cy cs]
    (h : AllT cs → -9223372036854775808 ≤ a + b ∧ a + b ≤ 9223372036854775807) : OpR P n E C cs o (.int .i64 (a + b)) :=
  fun e he hc => bin_run (C := C) (r := .int .i64 (a + b)) ho hx hy sx sy rfl (fun w => by rw [binOp_add]; simp only [Op.intArith, Sem.run_pure]; rw [IntWalk.i64_in _ (h hc)]) e he hc
theorem q_sub {t t' : TypeId} {x y : Operand} {cx cy : List Bool} {a b : Int} (ho : o.op = .binOp .sub t x y t') (hx : evl E x = some (cx, .int .i64 a)) (hy : evl E y = some (cy, .int .i64 b)) [sx : Sub cx cs] [sy : Sub cy cs]
    (h : AllT cs → -9223372036854775808 ≤ a - b ∧ a - b ≤ 9223372036854775807) : OpR P n E C cs o (.int .i64 (a - b)) :=
  fun e he hc => bin_run (C := C) (r := .int .i64 (a - b)) ho hx hy sx sy rfl (fun w => by rw [binOp_sub]; simp only [Op.intArith, Sem.run_pure]; rw [IntWalk.i64_in _ (h hc)]) e he hc
theorem q_mul {t t' : TypeId} {x y : Operand} {cx cy : List Bool} {a b : Int} (ho : o.op = .binOp .mul t x y t') (hx : evl E x = some (cx, .int .i64 a)) (hy : evl E y = some (cy, .int .i64 b)) [sx : Sub cx cs] [sy : Sub cy cs]
    (h : AllT cs → -9223372036854775808 ≤ a * b ∧ a * b ≤ 9223372036854775807) : OpR P n E C cs o (.int .i64 (a * b)) :=
  fun e he hc => bin_run (C := C) (r := .int .i64 (a * b)) ho hx hy sx sy rfl (fun w => by rw [binOp_mul]; simp only [Op.intArith, Sem.run_pure]; rw [IntWalk.i64_in _ (h hc)]) e he hc
/-- With the wrap. -/
theorem q_add_w {k : IntKind} {t t' : TypeId} {x y : Operand} {cx cy : List Bool} {a b : Int} (ho : o.op = .binOp .add t x y t') (hx : evl E x = some (cx, .int k a)) (hy : evl E y = some (cy, .int k b)) [sx : Sub cx cs] [sy : Sub cy cs] :
    OpR P n E C cs o (.int k (k.wrap (a + b))) := bin_run ho hx hy sx sy rfl (fun w => by rw [binOp_add]; rfl)
theorem q_sub_w {k : IntKind} {t t' : TypeId} {x y : Operand} {cx cy : List Bool} {a b : Int} (ho : o.op = .binOp .sub t x y t') (hx : evl E x = some (cx, .int k a)) (hy : evl E y = some (cy, .int k b)) [sx : Sub cx cs] [sy : Sub cy cs] :
    OpR P n E C cs o (.int k (k.wrap (a - b))) := bin_run ho hx hy sx sy rfl (fun w => by rw [binOp_sub]; rfl)
theorem q_mul_w {k : IntKind} {t t' : TypeId} {x y : Operand} {cx cy : List Bool} {a b : Int} (ho : o.op = .binOp .mul t x y t') (hx : evl E x = some (cx, .int k a)) (hy : evl E y = some (cy, .int k b)) [sx : Sub cx cs] [sy : Sub cy cs] :
    OpR P n E C cs o (.int k (k.wrap (a * b))) := bin_run ho hx hy sx sy rfl (fun w => by rw [binOp_mul]; rfl)
/-- Quotient and remainder of numbers that are not negative. -/
theorem q_quo {t t' : TypeId} {x y : Operand} {cx cy : List Bool} {a b : Int} (ho : o.op = .binOp .quo t x y t') (hx : evl E x = some (cx, .int .i64 a)) (hy : evl E y = some (cy, .int .i64 b)) [sx : Sub cx cs] [sy : Sub cy cs]
    (h : AllT cs → 0 ≤ a ∧ a ≤ 9223372036854775807 ∧ 1 ≤ b) : OpR P n E C cs o (.int .i64 (a / b)) :=
  fun e he hc => bin_run (C := C) (r := .int .i64 (a / b)) ho hx hy sx sy rfl (fun w => by
    rw [binOp_quo]; have hh := h hc
    have hb : ¬ b = 0 := by omega
    simp only [Op.intDiv, hb, if_false, Sem.run_pure]
    rw [IntWalk.i64_quo a b hh]) e he hc
theorem q_rem {t t' : TypeId} {x y : Operand} {cx cy : List Bool} {a b : Int} (ho : o.op = .binOp .rem t x y t') (hx : evl E x = some (cx, .int .i64 a)) (hy : evl E y = some (cy, .int .i64 b)) [sx : Sub cx cs] [sy : Sub cy cs]
    (h : AllT cs → 0 ≤ a ∧ 1 ≤ b) : OpR P n E C cs o (.int .i64 (a % b)) :=
  fun e he hc => bin_run (C := C) (r := .int .i64 (a % b)) ho hx hy sx sy rfl (fun w => by
    rw [binOp_rem]; have hh := h hc
    have hb : ¬ b = 0 := by omega
    simp only [Op.intDiv, hb, if_false, Sem.run_pure]
    rw [IntWalk.rem_in a b hh.1]) e he hc
/-- Of whatever sign. -/
theorem q_quo_t {t t' : TypeId} {x y : Operand} {cx cy : List Bool} {a b : Int} (ho : o.op = .binOp .quo t x y t') (hx : evl E x = some (cx, .int .i64 a)) (hy : evl E y = some (cy, .int .i64 b)) [sx : Sub cx cs] [sy : Sub cy cs]
    (h : AllT cs → -9223372036854775808 ≤ a ∧ a ≤ 9223372036854775807 ∧ 1 ≤ b) : OpR P n E C cs o (.int .i64 (a.tdiv b)) :=
  fun e he hc => bin_run (C := C) (r := .int .i64 (a.tdiv b)) ho hx hy sx sy rfl (fun w => by
    rw [binOp_quo]; have hh := h hc
    have hb : ¬ b = 0 := by omega
    simp only [Op.intDiv, hb, if_false, Sem.run_pure]
    rw [IntWalk.i64_quo' a b hh]) e he hc
theorem q_rem_t {t t' : TypeId} {x y : Operand} {cx cy : List Bool} {k : IntKind} {a b : Int} (ho : o.op = .binOp .rem t x y t') (hx : evl E x = some (cx, .int k a)) (hy : evl E y = some (cy, .int k b)) [sx : Sub cx cs] [sy : Sub cy cs]
    (h : AllT cs → b ≠ 0) : OpR P n E C cs o (.int k (a.tmod b)) :=
  fun e he hc => bin_run (C := C) (r := .int k (a.tmod b)) ho hx hy sx sy rfl (fun w => by
    rw [binOp_rem]; simp only [Op.intDiv, h hc, if_false, Sem.run_pure]) e he hc
theorem q_lss {t t' : TypeId} {x y : Operand} {cx cy : List Bool} {k : IntKind} {a b : Int} (ho : o.op = .binOp .lss t x y t') (hx : evl E x = some (cx, .int k a)) (hy : evl E y = some (cy, .int k b)) [sx : Sub cx cs] [sy : Sub cy cs] :
    OpR P n E C cs o (.bool (decide (a < b))) := bin_run ho hx hy sx sy rfl (fun w => by rw [binOp_lss]; rfl)
theorem q_leq {t t' : TypeId} {x y : Operand} {cx cy : List Bool} {k : IntKind} {a b : Int} (ho : o.op = .binOp .leq t x y t') (hx : evl E x = some (cx, .int k a)) (hy : evl E y = some (cy, .int k b)) [sx : Sub cx cs] [sy : Sub cy cs] :
    OpR P n E C cs o (.bool (decide (a ≤ b))) := bin_run ho hx hy sx sy rfl (fun w => by rw [binOp_leq]; rfl)
theorem q_gtr {t t' : TypeId} {x y : Operand} {cx cy : List Bool} {k : IntKind} {a b : Int} (ho : o.op = .binOp .gtr t x y t') (hx : evl E x = some (cx, .int k a)) (hy : evl E y = some (cy, .int k b)) [sx : Sub cx cs] [sy : Sub cy cs] :
    OpR P n E C cs o (.bool (decide (b < a))) := bin_run ho hx hy sx sy rfl (fun w => by rw [binOp_gtr]; rfl)
theorem q_geq {t t' : TypeId} {x y : Operand} {cx cy : List Bool} {k : IntKind} {a b : Int} (ho : o.op = .binOp .geq t x y t') (hx : evl E x = some (cx, .int k a)) (hy : evl E y = some (cy, .int k b)) [sx : Sub cx cs] [sy : Sub cy cs] :
    OpR P n E C cs o (.bool (decide (b ≤ a))) := bin_run ho hx hy sx sy rfl (fun w => by rw [binOp_geq]; rfl)
theorem q_eql {t t' : TypeId} {x y : Operand} {cx cy : List Bool} {k : IntKind} {a b : Int} (ho : o.op = .binOp .eql t x y t') (hx : evl E x = some (cx, .int k a)) (hy : evl E y = some (cy, .int k b)) [sx : Sub cx cs] [sy : Sub cy cs] :
    OpR P n E C cs o (.bool (decide (a = b))) := bin_run ho hx hy sx sy (eqGuard_at_int ..) (fun w => by rw [binOp_eql]; simp only [Sem.run_pure]; congr 2)
theorem q_neq {t t' : TypeId} {x y : Operand} {cx cy : List Bool} {k : IntKind} {a b : Int} (ho : o.op = .binOp .neq t x y t') (hx : evl E x = some (cx, .int k a)) (hy : evl E y = some (cy, .int k b)) [sx : Sub cx cs] [sy : Sub cy cs] :
    OpR P n E C cs o (.bool (!decide (a = b))) := bin_run ho hx hy sx sy (eqGuard_at_int ..) (fun w => by rw [binOp_neq]; simp only [Sem.run_pure]; congr 2)
theorem q_eql_b {t t' : TypeId} {x y : Operand} {cx cy : List Bool} {a b : Bool} (ho : o.op = .binOp .eql t x y t') (hx : evl E x = some (cx, .bool a)) (hy : evl E y = some (cy, .bool b)) [sx : Sub cx cs] [sy : Sub cy cs]
    (ht : P.underlying t = some .bool) : OpR P n E C cs o (.bool (a == b)) := bin_run ho hx hy sx sy (eqGuard_at_bool ..) (fun w => run_eql_bool w t a b ht)
theorem q_neq_b {t t' : TypeId} {x y : Operand} {cx cy : List Bool} {a b : Bool} (ho : o.op = .binOp .neq t x y t') (hx : evl E x = some (cx, .bool a)) (hy : evl E y = some (cy, .bool b)) [sx : Sub cx cs] [sy : Sub cy cs]
    (ht : P.underlying t = some .bool) : OpR P n E C cs o (.bool (!(a == b))) := bin_run ho hx hy sx sy (eqGuard_at_bool ..) (fun w => run_neq_bool w t a b ht)
theorem q_shl {t t' : TypeId} {x y : Operand} {cx cy : List Bool} {k yk : IntKind} {a b : Int} (ho : o.op = .binOp .shl t x y t') (hx : evl E x = some (cx, .int k a)) (hy : evl E y = some (cy, .int yk b)) [sx : Sub cx cs] [sy : Sub cy cs]
    (h : AllT cs → 0 ≤ b ∧ b ≤ k.bits) : OpR P n E C cs o (.int k (k.wrap (a * 2 ^ b.toNat))) :=
  fun e he hc => bin_run (C := C) (r := .int k (k.wrap (a * 2 ^ b.toNat))) ho hx hy sx sy rfl (fun w => by rw [binOp_shl, shift_shl k yk a b (h hc).1 (h hc).2]; rfl) e he hc
theorem q_shr {t t' : TypeId} {x y : Operand} {cx cy : List Bool} {k yk : IntKind} {a b : Int} (ho : o.op = .binOp .shr t x y t') (hx : evl E x = some (cx, .int k a)) (hy : evl E y = some (cy, .int yk b)) [sx : Sub cx cs] [sy : Sub cy cs]
    (h : AllT cs → 0 ≤ b ∧ b ≤ k.bits) : OpR P n E C cs o (.int k (a / 2 ^ b.toNat)) :=
  fun e he hc => bin_run (C := C) (r := .int k (a / 2 ^ b.toNat)) ho hx hy sx sy rfl (fun w => by rw [binOp_shr, shift_shr k yk a b (h hc).1 (h hc).2]; rfl) e he hc
theorem q_and {t t' : TypeId} {x y : Operand} {cx cy : List Bool} {k : IntKind} {a b : Int} (ho : o.op = .binOp .and t x y t') (hx : evl E x = some (cx, .int k a)) (hy : evl E y = some (cy, .int k b)) [sx : Sub cx cs] [sy : Sub cy cs] :
    OpR P n E C cs o (.int k (bits .and k a b)) := bin_run ho hx hy sx sy rfl (fun w => by rw [binOp_and]; rfl)
theorem q_not {t : TypeId} {x : Operand} {cx : List Bool} {b : Bool} (ho : o.op = .unOp .not t x) (hx : evl E x = some (cx, .bool b)) [hs : Sub cx cs] : OpR P n E C cs o (.bool (!b)) :=
  .of_run fun a ha hc w _ => by unfold execOp; simp only [ho]; rw [ha.eval hx hs hc]; rfl
theorem q_neg {t : TypeId} {x : Operand} {cx : List Bool} {k : Int} (ho : o.op = .unOp .neg t x) (hx : evl E x = some (cx, .int .i64 k)) [hs : Sub cx cs] (h : AllT cs → -9223372036854775807 ≤ k ∧ k ≤ 9223372036854775808) :
    OpR P n E C cs o (.int .i64 (-k)) :=
  .of_run fun a ha hc w _ => by
    unfold execOp; simp only [ho]; rw [ha.eval hx hs hc]
    have := h hc
    simp only [Op.unary, Sem.run_bind, Op.intArith, Sem.run_pure, Result.andThen_ok]
    rw [IntWalk.i64_in _ (by omega), Int.zero_sub]
theorem AllT.cons {b : Bool} (hc : AllT cs) (hb : b = true) : AllT (b :: cs) := fun x hx => by
  rcases List.mem_cons.1 hx with rfl | h
  · exact hb
  · exact hc x h
theorem q_pick {x y z : Operand} {cx cy cz : List Bool} {g a b : Bool} (ho : o.op = .pick x y z) (hx : evl E x = some (cx, .bool g)) (hy : evl E y = some (cy, .bool a)) (hz : evl E z = some (cz, .bool b))
    [sx : Sub cx cs] [sy : Sub cy (g :: cs)] [sz : Sub cz ((!g) :: cs)] : OpR P n E C cs o (.bool (if g then a else b)) :=
  .of_run fun e he hc w _ => by
    unfold execOp; simp only [ho]; rw [he.eval hx sx hc]
    cases g with
    | true => rw [he.eval hy sy (hc.cons rfl)]; simp [asBool]
    | false => rw [he.eval hz sz (hc.cons rfl)]; simp [asBool]
theorem q_and2 {x y : Operand} {cx cy : List Bool} {g a : Bool} (ho : o.op = .pick x y (.const (.bool false))) (hx : evl E x = some (cx, .bool g)) (hy : evl E y = some (cy, .bool a))
    [sx : Sub cx cs] [sy : Sub cy (g :: cs)] : OpR P n E C cs o (.bool (g && a)) := by
  have := q_pick (P := P) (n := n) (C := C) (cs := cs) (b := false) ho hx hy rfl
  cases g <;> simpa using this
theorem q_or2 {x z : Operand} {cx cz : List Bool} {g b : Bool} (ho : o.op = .pick x (.const (.bool true)) z) (hx : evl E x = some (cx, .bool g)) (hz : evl E z = some (cz, .bool b))
    [sx : Sub cx cs] [sz : Sub cz ((!g) :: cs)] : OpR P n E C cs o (.bool (g || b)) := by
  have := q_pick (P := P) (n := n) (C := C) (cs := cs) (a := true) ho hx rfl hz
  cases g <;> simpa using this
theorem q_conv {s t : TypeId} {x : Operand} {cx : List Bool} {k k' : IntKind} {a : Int} (ho : o.op = .convert s t x) (hx : evl E x = some (cx, .int k a)) [hs : Sub cx cs] [h1 : IntT P s k] [h2 : IntT P t k'] :
    OpR P n E C cs o (.int k' (k'.wrap a)) :=
  .of_run fun e he hc w _ => by
    unfold execOp; simp only [ho]; rw [he.eval hx hs hc]
    simp [convert, run_underlying h1.und, run_underlying h2.und, Conv.intToInt]
theorem q_extract {x : Operand} {cx : List Bool} {vs : Array Value} {i : Nat} {v : Value} (ho : o.op = .extract x i) (hx : evl E x = some (cx, .tuple vs)) [hs : Sub cx cs] (hv : vs[i]? = some v) : OpR P n E C cs o v :=
  .of_run fun e he hc w _ => by unfold execOp; simp only [ho]; rw [he.eval hx hs hc]; simp [Instr.extract, hv]
theorem q_func {f : Fn} {captured : Array Operand} {vs : Array Value} (ho : o.op = .makeFunc f #[] captured) (hv : ∀ a, Sat n E a → AllT cs → captured.map a.eval = vs) : OpR P n E C cs o (.func f #[] vs) :=
  .of_run fun e he hc w _ => by unfold execOp; simp only [ho]; rw [hv e he hc]; simp [Instr.makeFunc]

/-- The operands of a list. -/
inductive Evs (E : Env) (cs : List Bool) : List Operand → List Value → Prop
  | nil : Evs E cs [] []
  | cons {x : Operand} {cx : List Bool} {v : Value} {xs : List Operand} {vs : List Value} (hx : evl E x = some (cx, v)) (hs : Sub cx cs) (h : Evs E cs xs vs) : Evs E cs (x :: xs) (v :: vs)
theorem Evs.eval {xs : List Operand} {vs : List Value} (h : Evs E cs xs vs) {a : Act} (ha : Sat n E a) (hc : AllT cs) : xs.map a.eval = vs := by
  induction h with
  | nil => rfl
  | cons hx hs _ ih => simp [ha.eval hx hs hc, ih]
theorem q_func_l {f : Fn} {l : List Operand} {vs : List Value} (ho : o.op = .makeFunc f #[] l.toArray) (hv : Evs E cs l vs) : OpR P n E C cs o (.func f #[] vs.toArray) :=
  q_func ho fun a ha hc => by simp [hv.eval ha hc]

theorem builtin_run {b : Builtin} {l : List Operand} {ts : Array TypeId} {vs : List Value} {v : Value} (ho : o.op = .call { callee := .builtin b, args := l.toArray, argTypes := ts }) (hv : Evs E cs l vs)
    (hr : ∀ w c, C w → AllT cs → (builtin b ts o.type c vs.toArray).run P w = .ok (.value v) w) : OpR P n E C cs o v :=
  .of_run fun e he hc w hw => by
    unfold execOp; simp only [ho]
    simp only [resolve, invoke, List.map_toArray, hv.eval he hc, Sem.run_bind, Sem.run_pure, Result.andThen_ok]
    exact hr w _ hw hc
theorem q_max {l : List Operand} {ts : Array TypeId} {a b : Int} {k : IntKind} (ho : o.op = .call { callee := .builtin .max, args := l.toArray, argTypes := ts }) (hv : Evs E cs l [.int k a, .int k b]) : OpR P n E C cs o (.int k (max a b)) :=
  builtin_run ho hv fun w c _ _ => by
    simp only [builtin, Sem.run_bind, Sem.run_pure]
    have : max a b = if b > a then b else a := by omega
    simp [run_max_int2, this]
theorem q_min {l : List Operand} {ts : Array TypeId} {a b : Int} {k : IntKind} (ho : o.op = .call { callee := .builtin .min, args := l.toArray, argTypes := ts }) (hv : Evs E cs l [.int k a, .int k b]) : OpR P n E C cs o (.int k (min a b)) :=
  builtin_run ho hv fun w c _ _ => by
    simp only [builtin, Sem.run_bind, Sem.run_pure]
    have : min a b = if b < a then b else a := by omega
    simp [run_min_int2, this]

/-! ### 2. Structs -/
theorem q_build {t : TypeId} {ps : List (Nat × Operand)} {vs : List Value} {cells z : List Value} {places : List (Nat × Nat)} (ho : o.op = .build t ps.toArray) (hv : Evs E cs (ps.map (·.2)) vs) [ht : StT P t places z]
    (hb0 : Instr.fill (places.toArray[·]?) z.toArray ((ps.map (·.1)).zip vs) = some cells.toArray) : OpR P n E C cs o (.agg cells.toArray) :=
  .of_run fun e he hc w _ => by
    have hb := (ht.built ((ps.map (·.1)).zip vs)).trans hb0
    clear hb0
    unfold execOp; simp only [ho]
    have h1 : ps.map (fun (i, x) => (i, e.eval x)) = (ps.map (·.1)).zip vs := by
      rw [← hv.eval he hc]
      clear ho hb hv
      induction ps with
      | nil => rfl
      | cons p ps ih => simp [ih]
    simp only [List.map_toArray, h1]
    simp [run_build (P := P) w t ((ps.map (·.1)).zip vs).toArray cells.toArray hb]
theorem q_fieldAddr {t : TypeId} {x : Operand} {i off : Nat} {cx : List Bool} {b k : Nat} (ho : o.op = .fieldAddr t x i) (hx : evl E x = some (cx, .pointer (some ⟨b, k, none⟩))) [hs : Sub cx cs] [h : FldT P t i off] :
    OpR P n E C cs o (.pointer (some ⟨b, k + off, none⟩)) :=
  .of_run fun e he hc w _ => by
    unfold execOp; simp only [ho]; rw [he.eval hx hs hc]
    simp [h.fld, addr_add]

/-! ### 3. Slices -/
/-- The address of cell off of element i. -/
def elP (sv : Value) (i sz off : Nat) : Value := match sv with
  | .slice (some a) _ _ => .pointer (some (a.add (i * sz + off)))
  | _ => undef
variable {α : Type} [Enc α]

theorem q_len {l : List Operand} {t : TypeId} {e : TypeId} {sv : Value} {xs : List α} (ho : o.op = .call { callee := .builtin .len, args := l.toArray, argTypes := #[t] }) (hv : Evs E cs l [sv]) [ht : SlT P t e]
    (hR : ∀ w, C w → RdL sv xs w) : OpR P n E C cs o (.int .i64 xs.length) :=
  builtin_run ho hv fun w c hw _ => by
    obtain ⟨a, m, cap, rfl, hl, _⟩ := hR w hw
    have := run_underlying ht.und w
    simp [builtin, Builtin.len_, this, hl, goInt]

theorem q_lenV {l : List Operand} {t : TypeId} {e : TypeId} {s : SlV} (ho : o.op = .call { callee := .builtin .len, args := l.toArray, argTypes := #[t] }) (hv : Evs E cs l [s.v]) [ht : SlT P t e] : OpR P n E C cs o (.int .i64 s.len) :=
  builtin_run ho hv fun w c hw _ => by
    have := run_underlying ht.und w
    simp [builtin, Builtin.len_, this, SlV.v, goInt]
theorem RdL.len {s : SlV} {xs : List α} {w : World} (h : RdL s.v xs w) : xs.length = s.len := by
  obtain ⟨a, m, cap, h1, hl, _⟩ := h
  simp only [SlV.v, Value.slice.injEq] at h1
  omega
theorem RdL.sl {v : Value} {xs : List α} {w : World} (h : RdL v xs w) : ∃ s : SlV, v = s.v := by
  obtain ⟨a, m, cap, h1, _⟩ := h
  exact ⟨⟨a, m, cap⟩, h1⟩
theorem q_index {t e : TypeId} {x y : Operand} {cx cy : List Bool} {sv : Value} {k : IntKind} {i : Int} {sz : Nat} {xs : List α} (ho : o.op = .indexAddr t x y) (hx : evl E x = some (cx, sv)) (hy : evl E y = some (cy, .int k i))
    [sx : Sub cx cs] [sy : Sub cy cs] [ht : SlT P t e] [hz : SzT P e sz] (hR : ∀ w, C w → RdL sv xs w) (h : AllT cs → 0 ≤ i ∧ i < xs.length) : OpR P n E C cs o (elP sv i.toNat sz 0) := by
  intro a ha hc w hw
  obtain ⟨ad, m, cap, rfl, hl, _, _, hcell⟩ := hR w hw
  have hh := h hc
  have hlt : i.toNat < xs.length := by omega
  have hex : ∃ b, ad = some b := by
    have hp := Enc.pos (α := α)
    have hj : 0 < (enc xs[i.toNat]).length := by rw [Enc.len]; exact hp
    obtain ⟨b, hb, _⟩ := hcell i.toNat xs[i.toNat] 0 _ (List.getElem?_eq_getElem hlt) (List.getElem?_eq_getElem hj)
    exact ⟨b, hb⟩
  obtain ⟨b, rfl⟩ := hex
  refine OpR.of_run (P := P) (n := n) (E := E) (C := C) (cs := cs) (fun a ha hc w _ => ?_) a ha hc w hw
  unfold execOp; simp only [ho]; rw [ha.eval hx sx hc, ha.eval hy sy hc]
  have h0 : (0 : Int) ≤ i ∧ i < (m : Int) := by omega
  simp [Instr.indexAt, run_underlying ht.und, h0, hz.sz, elP, asIntOf]
/-- The index as a natural number. -/
theorem q_indexN {t e : TypeId} {x y : Operand} {cx cy : List Bool} {sv : Value} {k : IntKind} {i : Nat} {sz : Nat} {xs : List α} (ho : o.op = .indexAddr t x y) (hx : evl E x = some (cx, sv)) (hy : evl E y = some (cy, .int k (i : Int)))
    [sx : Sub cx cs] [sy : Sub cy cs] [ht : SlT P t e] [hz : SzT P e sz] (hR : ∀ w, C w → RdL sv xs w) (h : AllT cs → i < xs.length) : OpR P n E C cs o (elP sv i sz 0) := by
  have := q_index (P := P) (n := n) (C := C) (cs := cs) ho hx hy hR (fun hc => ⟨by omega, by have := h hc; omega⟩)
  simpa using this
theorem q_fieldEl {t : TypeId} {x : Operand} {f off : Nat} {cx : List Bool} {sv : Value} {i sz k : Nat} {xs : List α} (ho : o.op = .fieldAddr t x f) (hx : evl E x = some (cx, elP sv i sz k)) [hs : Sub cx cs] [h : FldT P t f off]
    (hR : ∀ w, C w → RdL sv xs w) (hi : AllT cs → i < xs.length) : OpR P n E C cs o (elP sv i sz (k + off)) := by
  intro a ha hc w hw
  obtain ⟨ad, m, cap, rfl, hl, _, _, hcell⟩ := hR w hw
  have hlt := hi hc
  have hj : 0 < (enc xs[i]).length := by rw [Enc.len]; exact Enc.pos
  obtain ⟨b, rfl, _⟩ := hcell i xs[i] 0 _ (List.getElem?_eq_getElem hlt) (List.getElem?_eq_getElem hj)
  refine OpR.of_run (P := P) (n := n) (E := E) (C := C) (cs := cs) (fun a ha hc w _ => ?_) a ha hc w hw
  unfold execOp; simp only [ho]; rw [ha.eval hx hs hc]
  simp [h.fld, elP, addr_add_assoc, Nat.add_assoc]

theorem load_run {t : TypeId} {x : Operand} {cx : List Bool} {v : Value} {r : Value} (ho : o.op = .load t x) (hx : evl E x = some (cx, v)) (hs : Sub cx cs)
    (hr : AllT cs → ∀ w, C w → ∃ a, v = .pointer (some a) ∧ (loadVar t a).run P w = .ok r w) : OpR P n E C cs o r :=
  .of_run fun e he hc w hw => by
    obtain ⟨a, rfl, hl⟩ := hr hc w hw
    unfold execOp; simp only [ho]; rw [he.eval hx hs hc]
    simp [Instr.loadAt, Instr.sureAddr, hl]
/-- A whole element. -/
theorem q_loadEl [Inhabited α] {t : TypeId} {x : Operand} {cx : List Bool} {sv : Value} {i sz : Nat} {xs : List α} (ho : o.op = .load t x) (hx : evl E x = some (cx, elP sv i sz 0)) [hs : Sub cx cs] [ht : HasTy P t α]
    (hsz : sz = Enc.sz α) (hR : ∀ w, C w → RdL sv xs w) (hi : AllT cs → i < xs.length) : OpR P n E C cs o (val (nth xs i)) :=
  load_run ho hx hs fun hc w hw => by
    obtain ⟨ad, m, cap, rfl, hl, _, _, hcell⟩ := hR w hw
    have hlt := hi hc
    subst hsz
    have hj : 0 < (enc xs[i]).length := by rw [Enc.len]; exact Enc.pos
    obtain ⟨b, rfl, _⟩ := hcell i xs[i] 0 _ (List.getElem?_eq_getElem hlt) (List.getElem?_eq_getElem hj)
    refine ⟨_, rfl, ht.load w _ _ fun j v hv => ?_⟩
    obtain ⟨b', hb', h⟩ := hcell i _ j v (nth_some hlt) hv
    cases hb'
    rw [Nat.add_zero, addr_add_assoc]; exact h
/-- One cell of an element. -/
theorem q_loadFl [Inhabited α] {t : TypeId} {x : Operand} {cx : List Bool} {sv : Value} {i sz k : Nat} {xs : List α} {β : Type} [Enc β] {y : β} (ho : o.op = .load t x) (hx : evl E x = some (cx, elP sv i sz k)) [hs : Sub cx cs] [ht : HasTy P t β]
    (hsz : sz = Enc.sz α) (hR : ∀ w, C w → RdL sv xs w) (hi : AllT cs → i < xs.length) (hy : ∀ j v, (enc y)[j]? = some v → (enc (nth xs i))[k + j]? = some v) : OpR P n E C cs o (val y) :=
  load_run ho hx hs fun hc w hw => by
    obtain ⟨ad, m, cap, rfl, hl, _, _, hcell⟩ := hR w hw
    have hlt := hi hc
    subst hsz
    have hj : 0 < (enc xs[i]).length := by rw [Enc.len]; exact Enc.pos
    obtain ⟨b, rfl, _⟩ := hcell i xs[i] 0 _ (List.getElem?_eq_getElem hlt) (List.getElem?_eq_getElem hj)
    refine ⟨_, rfl, ht.load w _ _ fun j v hv => ?_⟩
    obtain ⟨b', hb', h⟩ := hcell i _ (k + j) v (nth_some hlt) (hy j v hv)
    cases hb'
    rw [addr_add_assoc, Nat.add_assoc]; exact h
/-- One cell of an element, by what the element's cells are. -/
theorem q_loadF [Inhabited α] {t : TypeId} {x : Operand} {cx : List Bool} {sv v : Value} {i sz k : Nat} {xs : List α} (ho : o.op = .load t x) (hx : evl E x = some (cx, elP sv i sz k)) [hs : Sub cx cs] [ht : CellT P t]
    (hsz : sz = Enc.sz α) (hR : ∀ w, C w → RdL sv xs w) (hi : AllT cs → i < xs.length) (hv : (enc (nth xs i))[k]? = some v) : OpR P n E C cs o v :=
  load_run ho hx hs fun hc w hw => by
    obtain ⟨ad, m, cap, rfl, hl, _, _, hcell⟩ := hR w hw
    have hlt := hi hc
    subst hsz
    obtain ⟨b, rfl, h⟩ := hcell i _ k v (nth_some hlt) hv
    refine ⟨_, rfl, ?_⟩
    simp [loadVar, ht.agg w, run_load, h]
/-- One cell of a block of the call's own. -/
theorem q_loadC {w0 : World} {fp : List Nat} {H : List Asn} {t t' : TypeId} {x : Operand} {cx : List Bool} {b k : Nat} {cells : List Value} {v : Value} (ho : o.op = .load t x) (hx : evl E x = some (cx, .pointer (some ⟨b, k, none⟩))) [hs : Sub cx cs] [ht : CellT P t]
    (hH : blk b cells t' ∈ H) (hv : cells[k]? = some v) : OpR P n E (Cl w0 fp H) cs o v :=
  load_run ho hx hs fun _ w hw => by
    obtain ⟨bs, hb⟩ := hw.get hH
    refine ⟨_, rfl, ?_⟩
    simp [loadVar, ht.agg w, run_load, blk.cell hb, hv]
/-- A whole aggregate out of a block of the call's own. -/
theorem q_loadA {w0 : World} {fp : List Nat} {H : List Asn} {t t' : TypeId} {x : Operand} {cx : List Bool} {b k sz : Nat} {cells : List Value} (ho : o.op = .load t x) (hx : evl E x = some (cx, .pointer (some ⟨b, k, none⟩))) [hs : Sub cx cs] [ht : AggT P t] [hz : SzT P t sz]
    (hH : blk b cells t' ∈ H) (hk : Nat.ble (k + sz) cells.length = true) : OpR P n E (Cl w0 fp H) cs o (.agg ((cells.drop k).take sz).toArray) :=
  load_run ho hx hs fun _ w hw => by
    obtain ⟨bs, hb⟩ := hw.get hH
    refine ⟨_, rfl, ?_⟩
    have hk' := Nat.le_of_ble_eq_true hk
    have hl : ((cells.drop k).take sz).length = sz := by simp; omega
    have := run_loadCells_list (P := P) w ⟨b, k, none⟩ ((cells.drop k).take sz) (fun j v hv => by
      rw [addr_add, blk.cell hb]
      rw [List.getElem?_take] at hv
      split at hv
      · rw [List.getElem?_drop] at hv; exact hv
      · simp at hv)
    rw [hl] at this
    simp [loadVar, ht.agg w, hz.sz w, this]
/-- Out of a block of the call's own. -/
theorem q_loadBlk {w0 : World} {fp : List Nat} {H : List Asn} {t t' : TypeId} {x : Operand} {cx : List Bool} {b k : Nat} {cells : List Value} {y : α} (ho : o.op = .load t x) (hx : evl E x = some (cx, .pointer (some ⟨b, k, none⟩))) [hs : Sub cx cs] [ht : HasTy P t α]
    (hH : blk b cells t' ∈ H) (hy : ∀ j v, (enc y)[j]? = some v → cells[k + j]? = some v) : OpR P n E (Cl w0 fp H) cs o (val y) :=
  load_run ho hx hs fun _ w hw => by
    obtain ⟨bs, hb⟩ := hw.get hH
    refine ⟨_, rfl, ht.load w _ _ fun j v hv => ?_⟩
    rw [addr_add, blk.cell hb]; exact hy j v hv

/-! ### 4. Calls -/
/-- A call that returns one value whatever the world of the class. -/
theorem q_call {f : FuncId} {l : List Operand} {ts : Array TypeId} {vs : List Value} {v : Value} (hf : CanCall P f) (ho : o.op = .call { callee := .value (.func f), args := l.toArray, argTypes := ts }) (hv : Evs E cs l vs)
    (h : AllT cs → ∀ w, C w → Calls P f vs.toArray w fun e w' => e = .returned v ∧ C w') : OpQ P n E C cs o v := by
  intro a ha hc w hw
  unfold Oper.quietAt execOp
  simp only [ho]
  simp only [resolve, Deferred.ofValue, Act.eval, invoke, List.map_toArray, hv.eval ha hc, Sem.run_bind, Sem.run_pure, Result.andThen_ok]
  simp [hf.run]
  exact ⟨rfl, h hc w hw⟩
theorem q_callv {f : FuncId} {cap : Array Value} {x : Operand} {cx : List Bool} {l : List Operand} {ts : Array TypeId} {vs : List Value} {v : Value} (hf : CanCall P f) (ho : o.op = .call { callee := .value x, args := l.toArray, argTypes := ts })
    (hx : evl E x = some (cx, .func (.func f) #[] cap)) [hs : Sub cx cs] (hv : Evs E cs l vs)
    (h : AllT cs → ∀ w, C w → Calls P f (vs.toArray ++ cap) w fun e w' => e = .returned v ∧ C w') : OpQ P n E C cs o v := by
  intro a ha hc w hw
  unfold Oper.quietAt execOp
  simp only [ho]
  simp only [resolve, ha.eval hx hs hc, Deferred.ofValue, invoke, List.map_toArray, hv.eval ha hc, Sem.run_bind, Sem.run_pure, Result.andThen_ok]
  simp [hf.run]
  exact ⟨rfl, h hc w hw⟩
end

/-! ### 5. Types, out of the tables -/
theorem hasTy_cell {P : Program} {t : TypeId} {α : Type} [Enc α] (hs : ∀ w, (sizeOf t).run P w = .ok 1 w) (ha : ∀ w, (isAgg t).run P w = .ok false w) (h1 : Enc.sz α = 1) (hv : ∀ x : α, enc x = [val x]) : HasTy P t α :=
  ⟨fun w => by rw [h1]; exact hs w, fun w a x hc => by
    have := hc 0 (val x) (by rw [hv]; rfl)
    have e : a.add 0 = a := by simp [Addr.add]
    rw [e] at this
    simp [loadVar, ha w, run_load, this]⟩
theorem hasTy_agg {P : Program} {t : TypeId} {α : Type} [Enc α] (hs : ∀ w, (sizeOf t).run P w = .ok (Enc.sz α) w) (ha : ∀ w, (isAgg t).run P w = .ok true w) (hv : ∀ x : α, val x = .agg (enc x).toArray) : HasTy P t α :=
  ⟨hs, fun w a x hc => by
    have := run_loadCells_list (P := P) w a (enc x) hc
    rw [Enc.len] at this
    simp [loadVar, ha w, hs w, this, hv]⟩

/-! ### 6. Bridges for the caller -/
theorem callq {P : Program} {f : FuncId} {args : Array Value} {v : Value} {w0 w : World} {fp : List Nat} {H : List Asn} (hw : Cl w0 fp H w)
    (h : Calls P f args w fun e w' => e = .returned v ∧ Cl w [] [] w') : Calls P f args w fun e w' => e = .returned v ∧ Cl w0 fp H w' :=
  h.mono fun _ w' ⟨he, hc⟩ => ⟨he, hw.split0.2.2 [] w' hc⟩
theorem stb_arg {w0 w : World} {fp : List Nat} {H : List Asn} {R : World → Prop} (hw : Cl w0 fp H w) (h : Stb w0 fp R) : Stb w [] R := hw.split0.1 R h
theorem stb_own {w0 w : World} {fp : List Nat} {H : List Asn} {α : Type} [Enc α] {e : TypeId} {sv : Value} {l : List α} (hw : Cl w0 fp H w) (h : ownL e sv l ∈ H) : Stb w [] (RdL sv l) := by
  obtain ⟨b2, hb⟩ := hw.split0.2.1 _ h
  exact ⟨fun w' k => ownL.rd (hb.stb w' k)⟩
theorem rd_own {w0 w : World} {fp : List Nat} {H : List Asn} {α : Type} [Enc α] {e : TypeId} {sv : Value} {l : List α} (hw : Cl w0 fp H w) (h : ownL e sv l ∈ H) : RdL sv l w := (stb_own hw h).here
theorem rd_len {α : Type} [Enc α] {sv : Value} {l : List α} {w : World} (h : RdL sv l w) : l.length ≤ 9223372036854775807 := by
  obtain ⟨_, n, cap, _, h1, h2, h3, _⟩ := h
  simp only [maxLen] at h3
  omega
end Go.Sx
