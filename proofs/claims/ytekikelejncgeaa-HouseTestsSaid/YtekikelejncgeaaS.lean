import Derived.Test.YtekikelejncgeaaR
import Derived.Laws.StructEq
set_option autoImplicit false
set_option linter.unusedSimpArgs false
set_option linter.unusedVariables false
set_option maxRecDepth 100000
namespace Go.Proofs.Ytekikelejncgeaa
open Go.Sx
open Enc (enc val)

theorem q_eqlS {P : Program} {n : Fr} {E : Env} {C : World → Prop} {cs : List Bool} {o : Oper} {t t' : TypeId} {x y : Operand} {cx cy : List Bool} {xs ys : Array Value} {r : Value} (ho : o.op = .binOp .eql t x y t') (hx : evl E x = some (cx, .agg xs)) (hy : evl E y = some (cy, .agg ys)) [sx : Sub cx cs] [sy : Sub cy cs]
    (hm : P.eqGuardType P.depth t = false) (hr : ∀ w, (binOp .eql t (.agg xs) (.agg ys)).run P w = .ok r w) : OpR P n E C cs o r :=
  .of_run fun a ha hc w _ => by
    unfold execOp; simp only [ho]
    rw [ha.eval hx sx hc, ha.eval hy sy hc]
    simp [run_eqGuard_agg w .eql t x y xs ys hm, hr w, Result.andThen]
theorem eq25 (a b : Chance) (w : World) : (binOp .eql 25 (val a) (val b)).run Try.prog w = .ok (.bool (decide (a = b))) w := by
  obtain ⟨a1, a2⟩ := a
  obtain ⟨b1, b2⟩ := b
  simp only [Enc.val, Chance.mk.injEq]
  simp [go_sem]
  by_cases h1 : a1 = b1 <;> by_cases h2 : a2 = b2 <;> simp [h1, h2]
theorem q_neqS {P : Program} {n : Fr} {E : Env} {C : World → Prop} {cs : List Bool} {o : Oper} {t t' : TypeId} {x y : Operand} {cx cy : List Bool} {xs ys : Array Value} {r : Value} (ho : o.op = .binOp .neq t x y t') (hx : evl E x = some (cx, .agg xs)) (hy : evl E y = some (cy, .agg ys)) [sx : Sub cx cs] [sy : Sub cy cs]
    (hm : P.eqGuardType P.depth t = false) (hr : ∀ w, (binOp .neq t (.agg xs) (.agg ys)).run P w = .ok r w) : OpR P n E C cs o r :=
  .of_run fun a ha hc w _ => by
    unfold execOp; simp only [ho]
    rw [ha.eval hx sx hc, ha.eval hy sy hc]
    simp [run_eqGuard_agg w .neq t x y xs ys hm, hr w, Result.andThen]
theorem neq44 (a b : Change) (w : World) : (binOp .neq 44 (val a) (val b)).run Try.prog w = .ok (.bool (!decide (a = b))) w := by
  obtain ⟨a1, a2, a3⟩ := a
  obtain ⟨b1, b2, b3⟩ := b
  simp only [Enc.val, Change.mk.injEq]
  simp [go_sem]
  by_cases h1 : a1 = b1 <;> by_cases h2 : a2 = b2 <;> by_cases h3 : a3 = b3 <;> simp [h1, h2, h3]
theorem eq44 (a b : Change) (w : World) : (binOp .eql 44 (val a) (val b)).run Try.prog w = .ok (.bool (decide (a = b))) w := by
  obtain ⟨a1, a2, a3⟩ := a
  obtain ⟨b1, b2, b3⟩ := b
  simp only [Enc.val, Change.mk.injEq]
  simp [go_sem]
  by_cases h1 : a1 = b1 <;> by_cases h2 : a2 = b2 <;> by_cases h3 : a3 = b3 <;> simp [h1, h2, h3]
theorem chips78 : chipsOk 7 8 = true ∧ chipsL 7 8 = [-1, 1, 1, -1, -1, -1, -1, -1] := by decide
theorem count123 : cntE [1, 2, 3] 4 = 0 ∧ countGE [1, 2, 3] 4 = 2 := by decide
theorem signs55 : signsOk 5 5 = true ∧ signsTo 5 5 5 6 = 2 := by decide
theorem square4 : squareE 4 = [[0, 1, 3, 2], [1, 2, 0, 3], [2, 3, 1, 0], [3, 0, 2, 1]] := by decide
theorem changes1 : chgErr [1, 2, 3, 4, 5] [1, 9, 3, 4, 0, 7] 1 = 0 ∧ changes [1, 2, 3, 4, 5] [1, 9, 3, 4, 0, 7] 1 = [⟨1, 2, 7⟩, ⟨4, 6, 5⟩] := by decide
theorem kChips (w : World) : Calls Try.prog 33 #[.int .i64 7, .int .i64 8] w fun e w' => ∃ s : SlV, e = .returned (.tuple #[s.v, .int .i64 0]) ∧ True ∧ Cl w [] [ownL 3 s.v ([-1, 1, 1, -1, -1, -1, -1, -1] : List Int)] w' := by
  have h := houseChips_spec 7 8 w
  simp only [chips78.1, if_true] at h
  have e : chipsL 7 (8 : Int).toNat = [-1, 1, 1, -1, -1, -1, -1, -1] := chips78.2
  rw [e] at h
  exact h
theorem kCount (s : SlV) (w : World) (hs : Stb w [] (RdL s.v ([1, 2, 3] : List Int))) : Calls Try.prog 28 #[s.v, .int .i64 4] w fun e w' => ∃ u : Unit, e = .returned (.tuple #[val (⟨2, 8⟩ : Chance), .int .i64 0]) ∧ True ∧ Cl w [] [] w' := by
  have h := count_spec s [1, 2, 3] 4 w hs (.inl (by decide))
  simp only [count123.1, count123.2, if_true] at h
  exact h
theorem kSigns (w : World) : Calls Try.prog 16 #[.int .i64 5, .int .i64 5] w fun e w' => ∃ u : Unit, e = .returned (.tuple #[val (⟨2, 32⟩ : Chance), .int .i64 0]) ∧ True ∧ Cl w [] [] w' := by
  have h := signs_spec 5 5 w
  simp only [signs55.1, if_true] at h
  have e : signsTo 5 5 (5 : Int).toNat ((5 : Int).toNat + 1) = 2 := signs55.2
  rw [e] at h
  exact h
def p3 : List Chance := [⟨1, 100⟩, ⟨1, 20⟩, ⟨1, 30⟩]
theorem holm3 {out : List Bool} (h : HolmOk p3 1 20 out) : out = [true, false, false] := by
  obtain ⟨ord, hp, hs, rfl⟩ := h
  have hl := hp.length_eq
  have hn : ord.Nodup := hp.nodup_iff.2 (by decide)
  have hm : ∀ v ∈ ord, v = 0 ∨ v = 1 ∨ v = 2 := fun v hv => by
    have := hp.mem_iff.1 hv
    have e : upTo p3.length = [0, 1, 2] := by decide
    rw [e] at this
    simpa using this
  match ord, hl with
  | [a, b, c], _ =>
    have s1 := hs 0 1 (by decide) (by decide) (by simp)
    have s2 := hs 1 2 (by decide) (by decide) (by simp)
    rcases hm a (by simp) with rfl | rfl | rfl <;> rcases hm b (by simp) with rfl | rfl | rfl <;> rcases hm c (by simp) with rfl | rfl | rfl <;>
      first
      | exact absurd hn (by decide)
      | exact absurd s1 (by decide)
      | exact absurd s2 (by decide)
      | decide
theorem kHolm (s : SlV) (w : World) (hs : Stb w [] (RdL s.v p3)) : Calls Try.prog 18 #[s.v, .int .i64 1, .int .i64 20] w fun e w' => ∃ y : SlV, e = .returned (.tuple #[y.v, .int .i64 0]) ∧ True ∧ Cl w [] [ownL 4 y.v [true, false, false]] w' := by
  have h := holm_spec s p3 1 20 w hs (.inl (by decide))
  have e : holmE p3 1 20 = 0 := by decide
  simp only [e, if_true] at h
  refine h.mono ?_
  rintro e w' ⟨⟨y, out⟩, he, ho, hc⟩
  rw [holm3 ho] at hc
  exact ⟨y, he, trivial, hc⟩
theorem kSquare (w : World) : Calls Try.prog 39 #[.int .i64 4] w fun e w' => ∃ y : SlV × SlV × SlV × SlV × SlV, e = .returned (.tuple #[y.1.v, .int .i64 0]) ∧ True ∧ Cl w [] [ownL 37 y.1.v [y.2.1, y.2.2.1, y.2.2.2.1, y.2.2.2.2], ownL 3 y.2.1.v ([0, 1, 3, 2] : List Int), ownL 3 y.2.2.1.v ([1, 2, 0, 3] : List Int), ownL 3 y.2.2.2.1.v ([2, 3, 1, 0] : List Int), ownL 3 y.2.2.2.2.v ([3, 0, 2, 1] : List Int)] w' := by
  have h := squareEven_spec 4 (by decide) (by decide) w
  refine h.mono ?_
  rintro e w' ⟨⟨y, rs⟩, he, hr, hc⟩
  rw [square4] at hr
  match rs, hr with
  | [(a, a'), (b, b'), (c, c'), (d, d')], hr =>
    simp only [List.map_cons, List.map_nil, List.cons.injEq, and_true] at hr
    obtain ⟨rfl, rfl, rfl, rfl⟩ := hr
    exact ⟨(y, a, b, c, d), he, trivial, hc⟩
theorem kChanges (sa sb : SlV) (w : World) (ha : Stb w [] (RdL sa.v ([1, 2, 3, 4, 5] : List Int))) (hb : Stb w [] (RdL sb.v ([1, 9, 3, 4, 0, 7] : List Int))) :
    Calls Try.prog 23 #[sa.v, sb.v, .int .i64 1] w fun e w' => ∃ s : SlV, e = .returned (.tuple #[s.v, .int .i64 0]) ∧ True ∧ Cl w [] [ownL 44 s.v ([⟨1, 2, 7⟩, ⟨4, 6, 5⟩] : List Change)] w' := by
  have h := changes_spec sa sb _ _ 1 w ha hb
  simp only [changes1.1, changes1.2, if_true] at h
  exact h
end Go.Proofs.Ytekikelejncgeaa
