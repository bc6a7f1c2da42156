import Derived.Test.YtekikelejncgeaaUK
set_option autoImplicit false
set_option linter.unusedSimpArgs false
set_option linter.unusedVariables false
set_option maxRecDepth 100000
namespace Go.Proofs.Ytekikelejncgeaa
open Go.Sx
open Enc (enc val)

section
variable {dom : Int → Prop} {cv : Int → Int → Int} {l : List Int} {a m b : Nat}
theorem srt_le (ho : PreO dom cv) (hd : ∀ k, k < l.length → dom (nth l k)) (hb : b ≤ l.length) (h : SrtC cv l a b) {p q : Nat} (h1 : a ≤ p) (h2 : p ≤ q) (h3 : q < b) : 0 ≤ cv (nth l q) (nth l p) := by
  by_cases e : p = q
  · subst e
    by_cases hn : cv (nth l p) (nth l p) < 0
    · exact ho.tot _ _ (hd _ (by omega)) (hd _ (by omega)) hn
    · omega
  · exact h p q h1 (by omega) h3
/-- What a turn in the middle leaves. -/
structure Runs (cv : Int → Int → Int) (u : List Int) (a s mid e b : Nat) : Prop where
  r1 : SrtC cv u a s
  r2 : SrtC cv u s mid
  r3 : SrtC cv u mid e
  r4 : SrtC cv u e b
  cross : ∀ x y, a ≤ x → x < mid → mid ≤ y → y < b → 0 ≤ cv (nth u y) (nth u x)
theorem rot_runs (ho : PreO dom cv) (hd : ∀ k, k < l.length → dom (nth l k)) (hb : b ≤ l.length) (h1 : SrtC cv l a m) (h2 : SrtC cv l m b) {lo hi mid s e : Nat} (hs : a ≤ s ∧ s ≤ m ∧ s ≤ mid ∧ mid ≤ e ∧ m ≤ e ∧ e ≤ b) (he : e + s = mid + m)
    (H : MidOk cv l lo hi (mid + m - 1) s s) (hlo : lo = s → s = a ∨ e = b) (hhi : s = hi → s = mid ∨ s = m) {u : List Int} (hu : IsRot l u s m e) : Runs cv u a s mid e b := by
  have g1 : ∀ k, k < s → nth u k = nth l k := fun k hk => by rw [hu k, if_neg (by omega), if_neg (by omega)]
  have g2 : ∀ k, s ≤ k → k < mid → nth u k = nth l (k + (m - s)) := fun k h3 h4 => by rw [hu k, if_pos (by omega)]
  have g3 : ∀ k, mid ≤ k → k < e → nth u k = nth l (k - (e - m)) := fun k h3 h4 => by rw [hu k, if_neg (by omega), if_pos (by omega)]
  have g4 : ∀ k, e ≤ k → nth u k = nth l k := fun k hk => by rw [hu k, if_neg (by omega), if_neg (by omega)]
  refine ⟨fun p q e1 e2 e3 => ?_, fun p q e1 e2 e3 => ?_, fun p q e1 e2 e3 => ?_, fun p q e1 e2 e3 => ?_, fun x y e1 e2 e3 e4 => ?_⟩
  · rw [g1 p (by omega), g1 q (by omega)]; exact h1 _ _ (by omega) (by omega) (by omega)
  · rw [g2 p (by omega) (by omega), g2 q (by omega) (by omega)]; exact h2 _ _ (by omega) (by omega) (by omega)
  · rw [g3 p (by omega) (by omega), g3 q (by omega) (by omega)]; exact h1 _ _ (by omega) (by omega) (by omega)
  · rw [g4 p (by omega), g4 q (by omega)]; exact h2 _ _ (by omega) (by omega) (by omega)
  · by_cases c1 : x < s <;> by_cases c2 : y < e
    · rw [g1 x c1, g3 y e3 c2]; exact h1 _ _ (by omega) (by omega) (by omega)
    · rw [g1 x c1, g4 y (by omega)]
      obtain ⟨⟨b1, b2, b3⟩, hup, _⟩ := H
      have hne : ¬ lo = s := fun hq => by have := hlo hq; omega
      have f := hup (s - 1) (by omega) (by omega)
      rw [show mid + m - 1 - (s - 1) = e by omega] at f
      have f1 := srt_le ho hd (by omega) h1 (p := x) (q := s - 1) e1 (by omega) (by omega)
      have f2 := srt_le ho hd hb h2 (p := e) (q := y) (by omega) (by omega) e4
      exact le3 ho hd (x := x) (y := s - 1) (z := y) (by omega) (by omega) (by omega) f1 (le3 ho hd (x := s - 1) (y := e) (z := y) (by omega) (by omega) (by omega) f f2)
    · rw [g2 x (by omega) e2, g3 y e3 c2]
      obtain ⟨⟨b1, b2, b3⟩, _, hdn⟩ := H
      have hne : ¬ s = hi := fun hq => by have := hhi hq; omega
      have f := hdn s (Nat.le_refl _) (by omega)
      rw [show mid + m - 1 - s = e - 1 by omega] at f
      have f0 := ho.tot _ _ (hd (e - 1) (by omega)) (hd s (by omega)) f
      have f1 := srt_le ho hd hb h2 (p := x + (m - s)) (q := e - 1) (by omega) (by omega) (by omega)
      have f2 := srt_le ho hd (by omega) h1 (p := s) (q := y - (e - m)) (by omega) (by omega) (by omega)
      exact le3 ho hd (x := x + (m - s)) (y := e - 1) (z := y - (e - m)) (by omega) (by omega) (by omega) f1 (le3 ho hd (x := e - 1) (y := s) (z := y - (e - m)) (by omega) (by omega) (by omega) f0 f2)
    · rw [g2 x (by omega) e2, g4 y (by omega)]; exact h2 _ _ (by omega) (by omega) (by omega)
theorem rot_none {l : List Int} {s m e : Nat} (h : s = m ∨ e = m) (hs : s ≤ m) (he : m ≤ e) : IsRot l l s m e := by
  intro k
  repeat' split
  all_goals first | (exfalso; omega) | (congr 1; omega) | rfl
theorem srt_out {u v : List Int} {c d p q : Nat} (h : Mix u v c d) (hpq : d ≤ p ∨ q ≤ c) (hs : SrtC cv u p q) : SrtC cv v p q := fun x y h1 h2 h3 => by
  rw [h.out x (by omega), h.out y (by omega)]; exact hs x y h1 h2 h3
theorem join_srt {u v w : List Int} {mid : Nat} (ham : a ≤ mid) (hmb : mid ≤ b) (hb : b ≤ u.length) (hc : ∀ x y, a ≤ x → x < mid → mid ≤ y → y < b → 0 ≤ cv (nth u y) (nth u x)) (h1 : Mix u v a mid) (s1 : SrtC cv v a mid) (h2 : Mix v w mid b) (s2 : SrtC cv w mid b) : SrtC cv w a b := by
  intro p q e1 e2 e3
  have hl := h1.len
  by_cases c1 : q < mid
  · rw [h2.out p (by omega), h2.out q (by omega)]; exact s1 p q e1 e2 c1
  · by_cases c2 : mid ≤ p
    · exact s2 p q c2 e2 e3
    · obtain ⟨y, hy, ey⟩ := h2.src (by omega) hmb q ⟨by omega, e3⟩
      rw [h2.out p (by omega), ey, h1.out y (by omega)]
      obtain ⟨x, hx, ex⟩ := h1.src (by omega) ham p ⟨e1, by omega⟩
      rw [ex]
      exact hc x y hx.1 hx.2 hy.1 hy.2
end
end Go.Proofs.Ytekikelejncgeaa
