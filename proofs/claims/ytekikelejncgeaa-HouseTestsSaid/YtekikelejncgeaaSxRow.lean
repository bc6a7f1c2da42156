/-
  Rows of laws for the layer of symbolic frames: what was handed in reads the same behind a call that left memory alone, whatever its shape; slices of integers laid open as lists. General lemmas, no program text.
-/
import Derived.Test.YtekikelejncgeaaSxHeap
import Derived.WalkKit
import Derived.ProofKit
import Derived.OpenShut
import Derived.Carry
import Derived.ChangeOld
import Derived.ChangeSlices
set_option autoImplicit false
set_option linter.unusedSimpArgs false
set_option linter.unusedVariables false
set_option linter.unusedSectionVars false
namespace Go.Sx
open Go.ChangeShapes Go.WideShapes Go.ChangeAt Go.RowKit Go.WideElems

theorem trodAll_keep {H : Type} {enc : TypeId × Value → H} {P : Program} (hl : laidOutB P = true) {W W' : World} (hb : Below W.heap.size W W') (sp : Nat → Bool) :
    ∀ {ts : List TypeId} {vs : List Value} {ds : List (DataW H)} {ps : List MemPlace}, (∀ t ∈ ts, P.readableRec t = true ∧ t < P.types.size) → DataW.TrodAll enc P W 0 (fun _ => true) true ts vs ds ps →
      (∀ x ∈ ps, x.block < W.heap.size) → (∀ x ∈ ps, sp x.block = true) → DataW.TrodAll enc P W' 0 sp true ts vs ds ps
  | [], [], [], _, _, h, _, _ => h
  | t :: ts, v :: vs, d :: ds, ps, ht, ⟨p, q, ⟨n, h1⟩, h2, e⟩, hlt, hsp => by
    have ht0 := ht t (by simp)
    have hp : ∀ x ∈ p, x.block < W.heap.size := fun x hx => hlt x (by rw [e]; simp [hx])
    have hq : ∀ x ∈ q, x.block < W.heap.size := fun x hx => hlt x (by rw [e]; simp [hx])
    exact ⟨p, q, ⟨n, DataW.trod_stays (kids_book hl ht0.1) (book_sized ht0.1) (fun h => by cases h) ⟨ht0.2, book_self t⟩ h1 (fun x hx => hb.same (hp x hx)) (fun x hx => hsp x (by rw [e]; simp [hx]))⟩,
      trodAll_keep hl hb sp (fun t ht' => ht t (by simp [ht'])) h2 hq (fun x hx => hsp x (by rw [e]; simp [hx])), e⟩

theorem cell_lt {w : World} {a : Addr} {v : Value} (h : w.cell? a = some v) : a.block < w.heap.size := by
  cases hh : w.heap[a.block]? with
  | none => unfold World.cell? at h; simp [hh] at h
  | some o => exact (Array.getElem?_eq_some_iff.1 hh).1
/-- What reads as a list does so as long as old blocks stay. -/
theorem rd_stb {α : Type} [Enc α] {sv : Value} {l : List α} {w : World} (h : RdL sv l w) : Stb w [] (RdL sv l) := by
  obtain ⟨a, n, cap, h1, h2, h3, h4, h5⟩ := h
  refine ⟨fun w' k => ⟨a, n, cap, h1, h2, h3, h4, fun i x j v hx hv => ?_⟩⟩
  obtain ⟨b, hb, hc⟩ := h5 i x j v hx hv
  refine ⟨b, hb, ?_⟩
  rw [World.cell?_of_block (w := w) (k.block _ (cell_lt hc) (by simp)), hc]
theorem below_of {w w' : World} {H : List Asn} (h : Cl w [] H w') : RowKit.Below w.heap.size w w' := h.chg.below
/-- A slice of integers that came in. -/
theorem open_sl {H : Type} {enc : TypeId × Value → H} {P : Program} {W : World} {r : Reach} {b0 : Nat} {t e : TypeId} {v : Value} {d : DataW H} {ps : List MemPlace} (ht : P.underlying t = some (.slice e)) (he : P.underlying e = some (.int .i64)) (hc : P.cellsOf e = 1)
    (hval : Value.okWide P W r b0 t v) (hd : DataW.Trod enc P W 0 (fun _ => true) true t v d ps) : ∃ (s : SlV) (l : List Int), v = s.v ∧ Stb W [] (RdL s.v l) := by
  obtain ⟨a0, len, cap, rfl⟩ := okWide_slice ht hval
  obtain ⟨n, hn⟩ := hd
  rcases open_ints ht he hc hn with ⟨hcs, _⟩ | ⟨a, len', cap', zs, hcs, _, hl, hm, hz, _, hcell, _⟩
  · refine ⟨⟨a0, len, cap⟩, [], rfl, rd_stb ?_⟩
    simp [Value.cells] at hcs
    obtain ⟨rfl, rfl, rfl⟩ := hcs
    exact ⟨none, 0, 0, rfl, rfl, Nat.le_refl _, by simp [maxLen], fun i x j v hx => by simp at hx⟩
  · simp [Value.cells] at hcs
    obtain ⟨rfl, rfl, rfl⟩ := hcs
    refine ⟨⟨some a, len, cap⟩, zs.take len, rfl, rd_stb ⟨some a, len, cap, rfl, by simp; simp at hz; omega, hl, hm, fun i x j v hx hv => ⟨a, rfl, ?_⟩⟩⟩
    rw [List.getElem?_take] at hx
    split at hx
    · have hlt := (List.getElem?_eq_some_iff.1 hx).1
      have := hcell i hlt
      simp [List.getElem?_eq_getElem hlt] at hx
      have hj : j = 0 ∧ v = .int .i64 x := by
        cases j with
        | zero => simpa [Enc.enc, eq_comm] using hv
        | succ j => simp [Enc.enc] at hv
      obtain ⟨rfl, rfl⟩ := hj
      show W.cell? (a.add (i * 1 + 0)) = _
      rw [Nat.mul_one, Nat.add_zero, this]
      simp [List.getD, List.getElem?_eq_getElem hlt, hx]
    · simp at hx
end Go.Sx
