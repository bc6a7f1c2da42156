import Derived.Test.YtekikelejncgeaaUQ
set_option autoImplicit false
set_option linter.unusedSimpArgs false
set_option linter.unusedVariables false
set_option maxRecDepth 100000
namespace Go.Proofs.Ytekikelejncgeaa
open Go.Sx
open Enc (enc val)

/-! ### Holm's marks do not depend on the order of equal chances -/
def HeadOk (cv : Int → Int → Int) (ord : List Int) (i : Int) (j : Nat) : Prop := j ≤ ord.length ∧ ∀ k, j ≤ k → k < ord.length → cv i (nth ord k) < 0
def insAt (ord : List Int) (i : Int) (j : Nat) : List Int := ord.take j ++ [i] ++ ord.drop j
theorem insAt_perm (ord : List Int) (i : Int) (j : Nat) : (insAt ord i j).Perm (ord ++ [i]) := by
  unfold insAt
  rw [List.append_assoc]
  refine (List.perm_middle (l₁ := ord.take j) (a := i) (l₂ := ord.drop j)).trans ?_
  rw [List.take_append_drop]
  exact (List.perm_append_singleton i ord).symm
theorem insAt_len (ord : List Int) (i : Int) (j : Nat) : (insAt ord i j).length = ord.length + 1 := by rw [(insAt_perm ord i j).length_eq]; simp
theorem insAt_nth (ord : List Int) (i : Int) (j : Nat) (hj : j ≤ ord.length) (k : Nat) (hk : k ≤ ord.length) : nth (insAt ord i j) k = if k < j then nth ord k else if k = j then i else nth ord (k - 1) := by
  rw [nth_get (by rw [insAt_len]; omega)]
  simp only [insAt]
  by_cases h1 : k < j
  · rw [if_pos h1, List.getElem_append_left (by simp; omega), List.getElem_append_left (by simp; omega), nth_get (by omega)]; simp
  · rw [if_neg h1]
    by_cases h2 : k = j
    · subst h2
      rw [if_pos rfl, List.getElem_append_left (by simp; omega), List.getElem_append_right (by simp; omega)]; simp
    · rw [if_neg h2, List.getElem_append_right (by simp; omega), nth_get (by omega)]
      simp only [List.getElem_drop]; congr 1; simp; omega
theorem ins_srt {dom : Int → Prop} {cv : Int → Int → Int} (ho : PreO dom cv) {ord : List Int} {i : Int} {j : Nat} (hd : ∀ k, k < ord.length → dom (nth ord k)) (hi : dom i) (hs : SrtC cv ord 0 ord.length) (H : HeadOk cv ord i j) (hj : 0 < j → ¬ cv i (nth ord (j - 1)) < 0) : SrtC cv (insAt ord i j) 0 (ord.length + 1) := by
  obtain ⟨h1, h2⟩ := H
  intro p q e1 e2 e3
  rw [insAt_nth ord i j h1 p (by omega), insAt_nth ord i j h1 q (by omega)]
  by_cases q1 : q < j
  · rw [if_pos q1, if_pos (by omega)]; exact hs p q e1 e2 (by omega)
  · rw [if_neg q1]
    by_cases q2 : q = j
    · rw [if_pos q2, if_pos (by omega)]
      have f1 := hj (by omega)
      have f2 := srt_le ho hd (Nat.le_refl _) hs (p := p) (q := j - 1) e1 (by omega) (by omega)
      exact ho.trans _ _ _ (hd p (by omega)) (hd (j - 1) (by omega)) hi f2 (by omega)
    · rw [if_neg q2]
      by_cases p1 : p < j
      · rw [if_pos p1]; exact hs _ _ (by omega) (by omega) (by omega)
      · rw [if_neg p1]
        by_cases p2 : p = j
        · rw [if_pos p2]; exact ho.tot _ _ hi (hd _ (by omega)) (h2 (q - 1) (by omega) (by omega))
        · rw [if_neg p2]; exact hs _ _ (by omega) (by omega) (by omega)
end Go.Proofs.Ytekikelejncgeaa
