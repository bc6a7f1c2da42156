import Derived.Test.YtekikelejncgeaaUR
set_option autoImplicit false
set_option linter.unusedSimpArgs false
set_option linter.unusedVariables false
set_option maxRecDepth 100000
namespace Go.Proofs.Ytekikelejncgeaa
open Go.Sx
open Enc (enc val)

/-! two sorted orders are alike in every place -/
theorem sorted_alike {dom : Int → Prop} {cv : Int → Int → Int} (ho : PreO dom cv) {o1 o2 : List Int} (hp : o1.Perm o2) (hd : ∀ k, k < o1.length → dom (nth o1 k)) (s1 : SrtC cv o1 0 o1.length) (s2 : SrtC cv o2 0 o2.length) (k : Nat) (hk : k < o1.length) : 0 ≤ cv (nth o1 k) (nth o2 k) := by
  have hl := hp.length_eq
  have hd2 := perm_dom hp.symm hd
  by_cases hn : cv (nth o1 k) (nth o2 k) < 0
  · exfalso
    have hc := hp.countP_eq fun x => decide (0 ≤ cv (nth o1 k) x)
    have c1 : (o1.take (k + 1)).countP (fun x => decide (0 ≤ cv (nth o1 k) x)) = k + 1 := by
      rw [List.countP_eq_length.2, List.length_take, Nat.min_eq_left (by omega)]
      intro x hx
      obtain ⟨i, hi, e⟩ := List.mem_iff_getElem.1 hx
      simp at hi
      rw [List.getElem_take] at e
      rw [decide_eq_true_eq, ← e, ← nth_get (by omega)]
      exact srt_le ho hd (Nat.le_refl _) s1 (Nat.zero_le _) (by omega) hk
    have c2 : (o2.drop k).countP (fun x => decide (0 ≤ cv (nth o1 k) x)) = 0 := by
      rw [List.countP_eq_zero]
      intro x hx
      obtain ⟨i, hi, e⟩ := List.mem_iff_getElem.1 hx
      simp at hi
      rw [List.getElem_drop] at e
      rw [decide_eq_true_eq, ← e, ← nth_get (by omega)]
      intro h
      have h2 := srt_le ho hd2 (Nat.le_refl _) s2 (p := k) (q := k + i) (Nat.zero_le _) (by omega) (by omega)
      have := ho.trans _ _ _ (hd2 k (by omega)) (hd2 (k + i) (by omega)) (hd k hk) h2 h
      omega
    generalize (fun x => decide (0 ≤ cv (nth o1 k) x)) = P at hc c1 c2
    have d1 : o1.countP P = (o1.take (k + 1)).countP P + (o1.drop (k + 1)).countP P := by rw [← List.countP_append, List.take_append_drop]
    have d2 : o2.countP P = (o2.take k).countP P + (o2.drop k).countP P := by rw [← List.countP_append, List.take_append_drop]
    have d3 : (o2.take k).countP P ≤ (o2.take k).length := List.countP_le_length
    rw [List.length_take] at d3
    omega
  · omega

/-! which places Holm's procedure marks -/
def Rej (p : List Chance) (num den : Int) (i : Int) (k : Nat) : Prop := num * (nth p i.toNat).all < (nth p i.toNat).of * den * ((p.length : Int) - k)
instance (p : List Chance) (num den : Int) (i : Int) (k : Nat) : Decidable (Rej p num den i k) := inferInstanceAs (Decidable (num * (nth p i.toNat).all < (nth p i.toNat).of * den * ((p.length : Int) - k)))
theorem holmGo_len (p : List Chance) (num den : Int) : ∀ (ord : List Int) (k : Nat) (out : List Bool), (holmGo p num den ord k out).length = out.length
  | [], _, _ => rfl
  | i :: ord, k, out => by
    rw [holmGo]; split
    · rfl
    · rw [holmGo_len]; simp
theorem holmGo_iff (p : List Chance) (num den : Int) : ∀ (ord : List Int) (k : Nat) (out : List Bool), (∀ i ∈ ord, 0 ≤ i ∧ i.toNat < out.length) → ∀ x : Nat, nth (holmGo p num den ord k out) x = true ↔ (nth out x = true ∨ ∃ t, t < ord.length ∧ nth ord t = (x : Int) ∧ ∀ s, s ≤ t → ¬ Rej p num den (nth ord s) (k + s))
  | [], k, out, _, x => by simp [holmGo]
  | i :: ord, k, out, hd, x => by
    have hi := hd i (by simp)
    rw [holmGo]
    by_cases h : Rej p num den i k
    · rw [if_pos (show _ < _ from h)]
      constructor
      · exact .inl
      · rintro (h1 | ⟨t, _, _, h2⟩)
        · exact h1
        · exact absurd h (h2 0 (Nat.zero_le _))
    · rw [if_neg (show ¬ (_ < _) from h), holmGo_iff p num den ord (k + 1) _ (fun j hj => by simpa using hd j (by simp [hj])) x, nth_set _ _ _ _ hi.2]
      constructor
      · rintro (h1 | ⟨t, h1, h2, h3⟩)
        · split at h1
          · rename_i e
            exact .inr ⟨0, by simp, by show i = (x : Int); omega, fun s hs => by obtain rfl : s = 0 := by omega
                                                                                 exact h⟩
          · exact .inl h1
        · refine .inr ⟨t + 1, by simpa using h1, h2, fun s hs => ?_⟩
          cases s with
          | zero => exact h
          | succ s => have := h3 s (by omega); rw [show k + (s + 1) = k + 1 + s by omega]; exact this
      · rintro (h1 | ⟨t, h1, h2, h3⟩)
        · left; split
          · rfl
          · exact h1
        · cases t with
          | zero =>
            left
            rw [if_pos]
            have : i = (x : Int) := h2
            omega
          | succ t =>
            refine .inr ⟨t, by simpa using h1, h2, fun s hs => ?_⟩
            have := h3 (s + 1) (by omega)
            rw [show k + (s + 1) = k + 1 + s by omega] at this; exact this
end Go.Proofs.Ytekikelejncgeaa
