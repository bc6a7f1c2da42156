/- Two effects that may come in either order; a cut of a slice by its length alone. -/
import Derived.Test.YtekikelejncgeaaSxSlice
set_option autoImplicit false
set_option linter.unusedSimpArgs false
set_option linter.unusedVariables false
namespace Go.Sx
open Go
variable {P : Program} {ops : Array Oper} {C : World → Prop} {n : Fr} {E : Env} {Q : Exit → Act → World → Prop} {cs : List Bool} {o : Oper}
/-- Operation i is the one that comes now. -/
def AWat (P : Program) (ops : Array Oper) (Q : Exit → Act → World → Prop) (S : World → Prop) (m : List Nat) (f : Nat) (listed : Array Bool) (i : Nat) (n : Fr) (E : Env) (C : World → Prop) : Prop :=
  ∀ a w, Sat n E a → C w → wpOp P ops Q i (fun a' w' => (m.contains i = false → S w → S w') ∧ AnyS P ops Q S m f (listed.setIfInBounds i true) a' w') a w
theorem aw_two {S : World → Prop} {m : List Nat} {f : Nat} {listed : Array Bool} (i j : Nat) (hr : Region.ready .any ops listed = [i, j]) (h1 : AWat P ops Q S m f listed i n E C) (h2 : AWat P ops Q S m f listed j n E C) : AW P ops Q S m (f + 1) listed n E C := by
  intro a w ha hw
  refine ⟨fun h0 => (by rw [hr] at h0; cases h0), fun k hk => ?_⟩
  rw [hr] at hk
  simp only [List.mem_cons, List.not_mem_nil, or_false] at hk
  rcases hk with rfl | rfl
  · exact h1 a w ha hw
  · exact h2 a w ha hw
theorem at_one {S : World → Prop} {m : List Nat} {f : Nat} {listed : Array Bool} (i : Nat) {o : Oper} {d : Nat} {R : Value → World → Prop} (hi : ops[i]? = some o) (hg : o.guard = none) (hd : o.dst = some d) (hn : Nat.ble (d + 1) n.sz = true)
    (hop : OpE P n E C o R) (hS : m.contains i = false → ∀ v w, R v w → S w) (h : ∀ v, AW P ops Q S m f (listed.setIfInBounds i true) n ((d, [], v) :: E) (R v)) : AWat P ops Q S m f listed i n E C := by
  intro a w ha hw
  unfold wpOp
  simp only [hi]
  rw [if_pos (by simp [Region.wanted, hg])]
  refine .inl ((hop a w ha hw).wp fun v w' hR => ⟨fun him _ => hS him v w' hR, ?_⟩)
  have := h v _ w' (ha.put (cs := []) (v := v) (Nat.le_of_ble_eq_true hn)) hR
  rw [hd]; exact this
theorem at_x {S : World → Prop} {m : List Nat} {f : Nat} {listed : Array Bool} {α : Type} {vf : α → Value} {C' : α → World → Prop} (i : Nat) {o : Oper} {d : Nat} (hi : ops[i]? = some o) (hg : o.guard = none) (hd : o.dst = some d) (hn : Nat.ble (d + 1) n.sz = true)
    (hop : OpE P n E C o (fun v w' => ∃ x, v = vf x ∧ C' x w')) (hS : m.contains i = false → ∀ x w, C' x w → S w) (h : ∀ x, AW P ops Q S m f (listed.setIfInBounds i true) n ((d, [], vf x) :: E) (C' x)) : AWat P ops Q S m f listed i n E C :=
  at_one i hi hg hd hn hop (fun hb v w ⟨x, _, hx⟩ => hS hb x w hx) fun _ => aw_ex fun x => aw_imp fun hv => by subst hv; exact h x
theorem q_slicePH {t e : TypeId} {sz : Nat} {x z : Operand} {cx cz : List Bool} {s : SlV} {m : Nat} {b : Int} (ho : o.op = .slice t x none (some z) none) (hx : evl E x = some (cx, s.v)) (hz : evl E z = some (cz, .int .i64 b))
    [sx : Sub cx cs] [sz' : Sub cz cs] [ht : SlT P t e] [hs : SzT P e sz] (hl : s.len = m ∧ s.len ≤ s.cap ∧ s.cap ≤ maxLen) (h : AllT cs → 0 ≤ b ∧ b ≤ m) : OpR P n E C cs o (s.sub sz 0 b.toNat).v :=
  .of_run fun e he hc w hw => by
    obtain ⟨h1, h3⟩ := h hc
    obtain ⟨l1, l2, l3⟩ := hl
    unfold execOp; simp only [ho]
    have e1 := he.eval hx sx hc
    have e3 := he.eval hz sz' hc
    have := run_slice_of (P := P) (t := t) (s := s) (w := w) (a := 0) (b := b.toNat) (lo := none) (hi := some (.int .i64 b)) (by
      have f1 := run_sliceBound (P := P) (w := w) .i64 b s.cap .sliceAcap (by omega) (by omega)
      simp [Instr.sliceBounds, f1, Result.andThen])
    simp [e1, e3, this, Result.andThen]
theorem q_slicePL {t e : TypeId} {sz : Nat} {x y : Operand} {cx cy : List Bool} {s : SlV} {m : Nat} {a : Int} (ho : o.op = .slice t x (some y) none none) (hx : evl E x = some (cx, s.v)) (hy : evl E y = some (cy, .int .i64 a))
    [sx : Sub cx cs] [sy : Sub cy cs] [ht : SlT P t e] [hs : SzT P e sz] (hl : s.len = m ∧ s.len ≤ s.cap ∧ s.cap ≤ maxLen) (h : AllT cs → 0 ≤ a ∧ a ≤ m) : OpR P n E C cs o (s.sub sz a.toNat m).v :=
  .of_run fun e he hc w hw => by
    obtain ⟨h1, h3⟩ := h hc
    obtain ⟨l1, l2, l3⟩ := hl
    unfold execOp; simp only [ho]
    have e1 := he.eval hx sx hc
    have e2 := he.eval hy sy hc
    have := run_slice_of (P := P) (t := t) (s := s) (w := w) (a := a.toNat) (b := m) (lo := some (.int .i64 a)) (hi := none) (by
      have f2 := run_sliceBound (P := P) (w := w) .i64 a m .sliceB (by omega) (by omega)
      simp [Instr.sliceBounds, l1, f2, Result.andThen])
    simp [e1, e2, this, Result.andThen]
end Go.Sx
