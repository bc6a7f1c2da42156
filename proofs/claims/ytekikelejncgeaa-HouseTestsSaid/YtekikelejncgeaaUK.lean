import Derived.Test.YtekikelejncgeaaUJ
set_option autoImplicit false
set_option linter.unusedSimpArgs false
set_option linter.unusedVariables false
set_option maxRecDepth 100000
namespace Go.Proofs.Ytekikelejncgeaa
open Go.Sx
open Enc (enc val)

/-! ### merging two runs: plain facts -/
theorem Mix.src {l l' : List Int} {a b : Nat} (h : Mix l l' a b) (hb : b ≤ l.length) (hab : a ≤ b) (k : Nat) (hk : a ≤ k ∧ k < b) : ∃ x, (a ≤ x ∧ x < b) ∧ nth l' k = nth l x := by
  have hl := h.len
  have e1 : l'.take a = l.take a := by
    apply List.ext_getElem (by simp [hl])
    intro i h1 h2
    have h3 : i < a := by simp at h1; omega
    have := h.out i (.inl h3)
    rw [nth_get (by omega), nth_get (by omega)] at this
    simpa using this
  have e2 : l'.drop b = l.drop b := by
    apply List.ext_getElem (by simp [hl])
    intro i h1 h2
    have h3 : b + i < l.length := by simp at h2; omega
    have := h.out (b + i) (.inr (by omega))
    rw [nth_get (by omega), nth_get (by omega)] at this
    simpa using this
  have cut : ∀ m : List Int, m = m.take a ++ ((m.drop a).take (b - a) ++ m.drop b) := fun m => by
    conv => lhs; rw [← List.take_append_drop a m, ← List.take_append_drop (b - a) (m.drop a), List.drop_drop, show a + (b - a) = b by omega]
  have hp := h.perm
  rw [cut l', cut l, e1, e2] at hp
  have hp2 := (List.perm_append_right_iff _).1 ((List.perm_append_left_iff _).1 hp)
  have hm : nth l' k ∈ (l'.drop a).take (b - a) := by
    rw [nth_get (by omega)]
    refine List.mem_iff_getElem.2 ⟨k - a, by simp; omega, ?_⟩
    simp only [List.getElem_take, List.getElem_drop]; congr 1; omega
  obtain ⟨i, hi, e⟩ := List.mem_iff_getElem.1 (hp2.mem_iff.1 hm)
  simp at hi
  refine ⟨a + i, by omega, ?_⟩
  rw [← e, nth_get (by omega)]
  simp
section
variable {dom : Int → Prop} {cv : Int → Int → Int} {l : List Int} {a m b : Nat}
theorem mid_eq (x : Int) (h : 0 ≤ x ∧ x ≤ 4000000) : IntKind.i64.wrap (IntKind.u64.wrap x / 2 ^ (1 : Int).toNat) = x / 2 := by
  simp only [IntKind.wrap, IntKind.signed, IntKind.bits]; simp; omega
/-- x ≤ y by cv. -/
theorem le3 (ho : PreO dom cv) (hd : ∀ k, k < l.length → dom (nth l k)) {x y z : Nat} (hx : x < l.length) (hy : y < l.length) (hz : z < l.length) (h1 : 0 ≤ cv (nth l y) (nth l x)) (h2 : 0 ≤ cv (nth l z) (nth l y)) : 0 ≤ cv (nth l z) (nth l x) :=
  ho.trans _ _ _ (hd _ hx) (hd _ hy) (hd _ hz) h1 h2
/-- A sorted run reads so also at equal places, but for a place itself. -/
structure LoOk (cv : Int → Int → Int) (l : List Int) (a m b i j : Nat) : Prop where
  bd : m ≤ i ∧ i ≤ j ∧ j ≤ b
  lo : ∀ k, m ≤ k → k < i → cv (nth l k) (nth l a) < 0
  hi : ∀ k, j ≤ k → k < b → 0 ≤ cv (nth l k) (nth l a)
theorem lo_up (ho : PreO dom cv) (hd : ∀ k, k < l.length → dom (nth l k)) (ham : a < m) (hb : b ≤ l.length) (h2 : SrtC cv l m b) {i j h : Nat} (H : LoOk cv l a m b i j) (hi : i ≤ h) (hj : h < j) (hc : cv (nth l h) (nth l a) < 0) : LoOk cv l a m b (h + 1) j := by
  obtain ⟨⟨e1, e2, e3⟩, hlo, hhi⟩ := H
  refine ⟨by omega, fun k hk1 hk2 => ?_, hhi⟩
  by_cases e : k = h
  · rw [e]; exact hc
  · by_cases hn : 0 ≤ cv (nth l k) (nth l a)
    · have := le3 ho hd (x := a) (y := k) (z := h) (by omega) (by omega) (by omega) hn (h2 k h hk1 (by omega) (by omega))
      omega
    · omega
theorem lo_dn (ho : PreO dom cv) (hd : ∀ k, k < l.length → dom (nth l k)) (ham : a < m) (hb : b ≤ l.length) (h2 : SrtC cv l m b) {i j h : Nat} (H : LoOk cv l a m b i j) (hi : i ≤ h) (hj : h < j) (hc : ¬ cv (nth l h) (nth l a) < 0) : LoOk cv l a m b i h := by
  obtain ⟨⟨e1, e2, e3⟩, hlo, hhi⟩ := H
  refine ⟨by omega, hlo, fun k hk1 hk2 => ?_⟩
  by_cases e : k = h
  · rw [e]; omega
  · exact le3 ho hd (x := a) (y := h) (z := k) (by omega) (by omega) (by omega) (by omega) (h2 h k (by omega) (by omega) (by omega))
/-- The first of a run moved up to k. -/
def UpTo (l u : List Int) (a k : Nat) : Prop := ∀ x, nth u x = if a ≤ x ∧ x < k then nth l (x + 1) else if x = k then nth l a else nth l x
theorem up_step {u : List Int} {k : Nat} (h : UpTo l u a k) (hl : u.length = l.length) (ha : a ≤ k) (hk : k + 1 < l.length) : UpTo l (swp u k (k + 1)) a (k + 1) := by
  intro x
  rw [swp_nth (by omega) (by omega), h, h, h]
  repeat' split
  all_goals first | (exfalso; omega) | (congr 1; omega) | rfl
theorem up_srt (ho : PreO dom cv) (hd : ∀ k, k < l.length → dom (nth l k)) (ham : m = a + 1) (hb : b ≤ l.length) (h2 : SrtC cv l m b) {u : List Int} {i : Nat} (H : LoOk cv l a m b i i) (h : UpTo l u a (i - 1)) : SrtC cv u a b := by
  obtain ⟨⟨e1, e2, e3⟩, hlo, hhi⟩ := H
  intro p q hp hpq hq
  rw [h p, h q]
  by_cases q1 : q < i - 1
  · rw [if_pos (by omega), if_pos (by omega)]
    exact h2 _ _ (by omega) (by omega) (by omega)
  · rw [if_neg (show ¬ (a ≤ q ∧ q < i - 1) by omega)]
    by_cases q2 : q = i - 1
    · rw [if_pos q2, if_pos (by omega)]
      exact ho.tot _ _ (hd _ (by omega)) (hd _ (by omega)) (hlo (p + 1) (by omega) (by omega))
    · rw [if_neg q2]
      by_cases p1 : p < i - 1
      · rw [if_pos (by omega)]; exact h2 _ _ (by omega) (by omega) (by omega)
      · rw [if_neg (by omega)]
        by_cases p2 : p = i - 1
        · rw [if_pos p2]; exact hhi q (by omega) hq
        · rw [if_neg p2]; exact h2 _ _ (by omega) (by omega) (by omega)
structure HiOk (cv : Int → Int → Int) (l : List Int) (a m i j : Nat) : Prop where
  bd : a ≤ i ∧ i ≤ j ∧ j ≤ m
  lo : ∀ k, a ≤ k → k < i → 0 ≤ cv (nth l m) (nth l k)
  hi : ∀ k, j ≤ k → k < m → cv (nth l m) (nth l k) < 0
theorem hi_up (ho : PreO dom cv) (hd : ∀ k, k < l.length → dom (nth l k)) (hb : m < l.length) (h1 : SrtC cv l a m) {i j h : Nat} (H : HiOk cv l a m i j) (hi : i ≤ h) (hj : h < j) (hc : ¬ cv (nth l m) (nth l h) < 0) : HiOk cv l a m (h + 1) j := by
  obtain ⟨⟨e1, e2, e3⟩, hlo, hhi⟩ := H
  refine ⟨by omega, fun k hk1 hk2 => ?_, hhi⟩
  by_cases e : k = h
  · rw [e]; omega
  · exact le3 ho hd (x := k) (y := h) (z := m) (by omega) (by omega) (by omega) (h1 k h hk1 (by omega) (by omega)) (by omega)
theorem hi_dn (ho : PreO dom cv) (hd : ∀ k, k < l.length → dom (nth l k)) (hb : m < l.length) (h1 : SrtC cv l a m) {i j h : Nat} (H : HiOk cv l a m i j) (hi : i ≤ h) (hj : h < j) (hc : cv (nth l m) (nth l h) < 0) : HiOk cv l a m i h := by
  obtain ⟨⟨e1, e2, e3⟩, hlo, hhi⟩ := H
  refine ⟨by omega, hlo, fun k hk1 hk2 => ?_⟩
  by_cases e : k = h
  · rw [e]; exact hc
  · by_cases hn : 0 ≤ cv (nth l m) (nth l k)
    · have := le3 ho hd (x := h) (y := k) (z := m) (by omega) (by omega) (by omega) (h1 h k (by omega) (by omega) (by omega)) hn
      omega
    · omega
/-- The last of a run moved down to k. -/
def DnTo (l u : List Int) (m k : Nat) : Prop := ∀ x, nth u x = if k < x ∧ x ≤ m then nth l (x - 1) else if x = k then nth l m else nth l x
theorem dn_step {u : List Int} {k : Nat} (h : DnTo l u m k) (hl : u.length = l.length) (h0 : 0 < k) (hk : k ≤ m) (hm : m < l.length) : DnTo l (swp u k (k - 1)) m (k - 1) := by
  intro x
  rw [swp_nth (by omega) (by omega), h, h, h]
  repeat' split
  all_goals first | (exfalso; omega) | (congr 1; omega) | rfl
theorem dn_srt (ho : PreO dom cv) (hd : ∀ k, k < l.length → dom (nth l k)) (hmb : b = m + 1) (hb : b ≤ l.length) (h1 : SrtC cv l a m) {u : List Int} {i : Nat} (H : HiOk cv l a m i i) (h : DnTo l u m i) : SrtC cv u a b := by
  obtain ⟨⟨e1, e2, e3⟩, hlo, hhi⟩ := H
  intro p q hp hpq hq
  rw [h p, h q]
  by_cases q1 : q < i
  · rw [if_neg (by omega), if_neg (by omega), if_neg (by omega), if_neg (by omega)]
    exact h1 _ _ (by omega) (by omega) (by omega)
  · by_cases q2 : q = i
    · rw [if_neg (show ¬ (i < q ∧ q ≤ m) by omega), if_pos q2, if_neg (by omega), if_neg (by omega)]
      exact hlo p hp (by omega)
    · rw [if_pos (show i < q ∧ q ≤ m by omega)]
      by_cases p1 : p < i
      · rw [if_neg (by omega), if_neg (by omega)]; exact h1 _ _ (by omega) (by omega) (by omega)
      · by_cases p2 : p = i
        · rw [if_neg (by omega), if_pos p2]
          exact ho.tot _ _ (hd _ (by omega)) (hd _ (by omega)) (hhi (q - 1) (by omega) (by omega))
        · rw [if_pos (by omega)]; exact h1 _ _ (by omega) (by omega) (by omega)
/-- The search in the middle. -/
structure MidOk (cv : Int → Int → Int) (l : List Int) (lo hi p s r : Nat) : Prop where
  bd : lo ≤ s ∧ s ≤ r ∧ r ≤ hi
  up : ∀ c, lo ≤ c → c < s → 0 ≤ cv (nth l (p - c)) (nth l c)
  dn : ∀ c, r ≤ c → c < hi → cv (nth l (p - c)) (nth l c) < 0
theorem mid_up (ho : PreO dom cv) (hd : ∀ k, k < l.length → dom (nth l k)) (hb : b ≤ l.length) (h1 : SrtC cv l a m) (h2 : SrtC cv l m b) {lo hi p s r c : Nat} (hr : ∀ c, lo ≤ c → c < hi → (a ≤ c ∧ c < m) ∧ m ≤ p - c ∧ p - c < b ∧ c ≤ p) (H : MidOk cv l lo hi p s r) (hs : s ≤ c) (hc : c < r) (h : ¬ cv (nth l (p - c)) (nth l c) < 0) : MidOk cv l lo hi p (c + 1) r := by
  obtain ⟨⟨e1, e2, e3⟩, hu, hv⟩ := H
  refine ⟨by omega, fun k hk1 hk2 => ?_, hv⟩
  by_cases e : k = c
  · rw [e]; omega
  · have g1 := hr k hk1 (by omega)
    have g2 := hr c (by omega) (by omega)
    have f1 := h1 k c (by omega) (by omega) (by omega)
    have f2 := h2 (p - c) (p - k) (by omega) (by omega) (by omega)
    exact le3 ho hd (x := k) (y := c) (z := p - k) (by omega) (by omega) (by omega) f1 (le3 ho hd (x := c) (y := p - c) (z := p - k) (by omega) (by omega) (by omega) (by omega) f2)
theorem mid_dn (ho : PreO dom cv) (hd : ∀ k, k < l.length → dom (nth l k)) (hb : b ≤ l.length) (h1 : SrtC cv l a m) (h2 : SrtC cv l m b) {lo hi p s r c : Nat} (hr : ∀ c, lo ≤ c → c < hi → (a ≤ c ∧ c < m) ∧ m ≤ p - c ∧ p - c < b ∧ c ≤ p) (H : MidOk cv l lo hi p s r) (hs : s ≤ c) (hc : c < r) (h : cv (nth l (p - c)) (nth l c) < 0) : MidOk cv l lo hi p s c := by
  obtain ⟨⟨e1, e2, e3⟩, hu, hv⟩ := H
  refine ⟨by omega, hu, fun k hk1 hk2 => ?_⟩
  by_cases e : k = c
  · rw [e]; exact h
  · by_cases hn : 0 ≤ cv (nth l (p - k)) (nth l k)
    · have g1 := hr k (by omega) hk2
      have g2 := hr c (by omega) (by omega)
      have f1 := h1 c k (by omega) (by omega) (by omega)
      have f2 := h2 (p - k) (p - c) (by omega) (by omega) (by omega)
      have := le3 ho hd (x := c) (y := k) (z := p - c) (by omega) (by omega) (by omega) f1 (le3 ho hd (x := k) (y := p - k) (z := p - c) (by omega) (by omega) (by omega) hn f2)
      omega
    · omega
end
end Go.Proofs.Ytekikelejncgeaa
