import Derived.Test.YtekikelejncgeaaUS
set_option autoImplicit false
set_option linter.unusedSimpArgs false
set_option linter.unusedVariables false
set_option maxRecDepth 100000
namespace Go.Proofs.Ytekikelejncgeaa
open Go.Sx
open Enc (enc val)

theorem rej_mono {p : List Chance} {num den : Int} {i j : Int} {k : Nat} (hi : 1 ≤ (nth p i.toNat).all) (hj : 1 ≤ (nth p j.toNat).all) (hden : 0 ≤ den * ((p.length : Int) - k)) (h : 0 ≤ cvC p j i) (hr : Rej p num den i k) : Rej p num den j k := by
  have h1 : (nth p i.toNat).of * (nth p j.toNat).all ≤ (nth p j.toNat).of * (nth p i.toNat).all := by
    unfold cvC cmpC cmp3 at h
    split at h <;> first | omega | (split at h <;> omega)
  unfold Rej at hr ⊢
  generalize (nth p i.toNat).all = A at *
  generalize (nth p j.toNat).all = B at *
  generalize (nth p i.toNat).of = X at *
  generalize (nth p j.toNat).of = Y at *
  rw [Int.mul_assoc] at hr ⊢
  generalize den * ((p.length : Int) - k) = D at *
  have h2 : num * A * B < X * D * B := Int.mul_lt_mul_of_pos_right hr (by omega)
  have h3 : X * B * D ≤ Y * A * D := Int.mul_le_mul_of_nonneg_right h1 hden
  have e1 : X * D * B = X * B * D := by rw [Int.mul_assoc, Int.mul_comm D B, ← Int.mul_assoc]
  have e2 : num * A * B = num * B * A := by rw [Int.mul_assoc, Int.mul_comm A B, ← Int.mul_assoc]
  have e3 : Y * A * D = Y * D * A := by rw [Int.mul_assoc, Int.mul_comm A D, ← Int.mul_assoc]
  have h4 : num * B * A < Y * D * A := by omega
  exact Int.lt_of_mul_lt_mul_right h4 (by omega)
theorem rej_down {p : List Chance} {num den : Int} {i : Int} {k s : Nat} (hs : s ≤ k) (hof : 0 ≤ (nth p i.toNat).of) (hden : 0 ≤ den) (hr : Rej p num den i k) : Rej p num den i s := by
  unfold Rej at hr ⊢
  have := Int.mul_le_mul_of_nonneg_left (show (p.length : Int) - k ≤ (p.length : Int) - s by omega) (Int.mul_nonneg hof hden)
  omega
/-- A place that one order marks, the other marks too. -/
theorem holm_sub {p : List Chance} {num den : Int} (hok : ∀ c ∈ p, okC c ∧ 1 ≤ c.all) (hden : 0 ≤ den) (ho : PreO (domC p) (cvC p)) {o1 o2 : List Int} (hp1 : o1.Perm (upTo p.length)) (hp2 : o2.Perm (upTo p.length)) (s1 : SrtC (cvC p) o1 0 o1.length) (s2 : SrtC (cvC p) o2 0 o2.length) {t : Nat} (ht : t < o1.length) (hm : ∀ s, s ≤ t → ¬ Rej p num den (nth o1 s) s) :
    ∃ t', t' < o2.length ∧ nth o2 t' = nth o1 t ∧ ∀ s, s ≤ t' → ¬ Rej p num den (nth o2 s) s := by
  have hp := hp1.trans hp2.symm
  have hl := hp.length_eq
  have hln : o1.length = p.length := by rw [hp1.length_eq]; simp [upTo]
  have hdu : ∀ k, k < (upTo p.length).length → domC p (nth (upTo p.length) k) := fun k hk => by
    have : k < p.length := by simpa [upTo] using hk
    rw [upTo_nth _ _ this]; exact ⟨by omega, by omega⟩
  have hd1 := perm_dom hp1 hdu
  have hd2 := perm_dom hp2 hdu
  have hall : ∀ i, domC p i → 1 ≤ (nth p i.toNat).all ∧ 0 ≤ (nth p i.toNat).of := fun i hi => by
    obtain ⟨a, b⟩ := hi
    have := hok (nth p i.toNat) (by rw [nth_get (by omega)]; exact List.getElem_mem _)
    exact ⟨this.2, this.1.1.1⟩
  have hD : ∀ k : Nat, k < o1.length → 0 ≤ den * ((p.length : Int) - k) := fun k hk => Int.mul_nonneg hden (by omega)
  obtain ⟨t', ht', e⟩ : ∃ t', t' < o2.length ∧ nth o2 t' = nth o1 t := by
    have := hp.mem_iff.1 (List.getElem_mem ht)
    obtain ⟨i, hi, e⟩ := List.mem_iff_getElem.1 this
    exact ⟨i, hi, by rw [nth_get hi, nth_get ht, e]⟩
  refine ⟨t', ht', e, fun s hs hr => ?_⟩
  have al := sorted_alike ho hp hd1 s1 s2 s (by omega)
  have a1 := hall _ (hd1 s (by omega))
  have a2 := hall _ (hd2 s (by omega))
  by_cases hst : s ≤ t
  · exact hm s hst (rej_mono a2.1 a1.1 (hD s (by omega)) al hr)
  · -- t < s ≤ t': the place's chance is refused at s, so at t
    have f := srt_le ho hd2 (Nat.le_refl _) s2 (p := s) (q := t') (Nat.zero_le _) hs ht'
    have at' := hall _ (hd2 t' ht')
    have r1 := rej_mono a2.1 at'.1 (hD s (by omega)) f hr
    rw [e] at r1
    exact hm t (Nat.le_refl _) (rej_down (by omega) (hall _ (hd1 t ht)).2 hden r1)
theorem holm_one {p : List Chance} {num den : Int} (hok : ∀ c ∈ p, okC c ∧ 1 ≤ c.all) (hden : 0 ≤ den) {out1 out2 : List Bool} (h1 : HolmOk p num den out1) (h2 : HolmOk p num den out2) : out1 = out2 := by
  obtain ⟨o1, p1, s1, rfl⟩ := h1
  obtain ⟨o2, p2, s2, rfl⟩ := h2
  have ho := cvC_pre hok
  have hm : ∀ o : List Int, o.Perm (upTo p.length) → ∀ i ∈ o, 0 ≤ i ∧ i.toNat < (List.replicate p.length false).length := fun o hp i hi => by
    have := hp.mem_iff.1 hi
    simp only [upTo, List.mem_map, List.mem_range] at this
    obtain ⟨a, b, rfl⟩ := this
    simp; omega
  apply List.ext_getElem (by rw [holmGo_len, holmGo_len])
  intro x hx1 hx2
  rw [← nth_get hx1, ← nth_get hx2]
  rw [Bool.eq_iff_iff, holmGo_iff p num den o1 0 _ (hm o1 p1), holmGo_iff p num den o2 0 _ (hm o2 p2)]
  simp only [Nat.zero_add]
  constructor
  · rintro (h | ⟨t, h3, h4, h5⟩)
    · exact .inl h
    · obtain ⟨t', g1, g2, g3⟩ := holm_sub hok hden ho p1 p2 s1 s2 h3 h5
      exact .inr ⟨t', g1, g2.trans h4, g3⟩
  · rintro (h | ⟨t, h3, h4, h5⟩)
    · exact .inl h
    · obtain ⟨t', g1, g2, g3⟩ := holm_sub hok hden ho p2 p1 s2 s1 h3 h5
      exact .inr ⟨t', g1, g2.trans h4, g3⟩
end Go.Proofs.Ytekikelejncgeaa
