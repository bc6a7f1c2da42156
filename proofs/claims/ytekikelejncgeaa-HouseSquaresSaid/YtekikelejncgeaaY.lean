import Derived.Test.YtekikelejncgeaaW
set_option autoImplicit false
set_option linter.unusedSimpArgs false
set_option linter.unusedVariables false
set_option maxRecDepth 100000
namespace Go.Proofs.Ytekikelejncgeaa
open Go.Sx
open Enc (enc val)

/-! ### marked waves: what is reckoned -/
def corrTo (a c : List Int) (o : Nat) : Nat → Int
  | 0 => 0
  | k + 1 => corrTo a c o k + nth a (o + k) * nth c k
def addTo (a c : List Int) (o : Nat) (x : Int) : Nat → List Int
  | 0 => a
  | k + 1 => (addTo a c o x k).set (o + k) (nth (addTo a c o x k) (o + k) + x * nth c k)
def sgn (b : Bool) : Int := if b then 1 else -1
def stepP (mg : Int) (P : Nat) (c : List Int) (o : Nat) (sg : Int) (y : List Int × Int) : List Int × Int :=
  if mg ≤ sg * corrTo y.1 c o P then y else (addTo y.1 c o ((mg - sg * corrTo y.1 c o P + P - 1) / P * sg) P, max y.2 ((mg - sg * corrTo y.1 c o P + P - 1) / P))
def cF (m : Stamp) : List Int := ((chipsL m.key (2 * m.period).toNat).take m.period.toNat).drop 0
def cO (m : Stamp) : List Int := ((chipsL m.key (2 * m.period).toNat).take (chipsL m.key (2 * m.period).toNat).length).drop m.period.toNat
def frameN (m : Stamp) : Nat := (m.bits.toNat + 17) * m.period.toNat
def pc (m : Stamp) (p : Nat) : List Int := if p = 0 then cF m else cO m
def psg (word : List Bool) (p : Nat) : Int := if p = 0 then 1 else sgn (nth word (p - 1))
def periods (m : Stamp) (word : List Bool) (f : Nat) : Nat → (List Int × Int) → List Int × Int
  | 0, y => y
  | p + 1, y => stepP m.margin m.period.toNat (pc m p) (f + p * m.period.toNat) (psg word p) (periods m word f p y)
def frames (m : Stamp) (word : List Bool) : Nat → (List Int × Int) → List Int × Int
  | 0, y => y
  | j + 1, y => periods m word (j * frameN m) (m.bits.toNat + 17) (frames m word j y)
def signL (a : List Int) (m : Stamp) (msg : Int) : List Int × Int := frames m (wordL m msg) (a.length / frameN m) (a, 0)

def IsChips (c : List Int) : Prop := ∀ i, i < c.length → nth c i = 1 ∨ nth c i = -1
theorem chips_is (s : Int) (n : Nat) : IsChips (chipsL s n) := fun i hi => by
  rw [chipsL_len] at hi
  rw [chips_nth s n i hi]
  split <;> simp
theorem is_sub {c : List Int} (h : IsChips c) (a b : Nat) : IsChips ((c.take b).drop a) := fun i hi => by
  rw [nth_get hi]
  simp only [List.length_drop, List.length_take] at hi
  rw [List.getElem_drop, List.getElem_take]
  have := h (a + i) (by omega)
  rwa [nth_get (by omega)] at this
theorem cF_is (m : Stamp) : IsChips (cF m) := is_sub (chips_is _ _) _ _
theorem cO_is (m : Stamp) : IsChips (cO m) := is_sub (chips_is _ _) _ _
theorem cF_len {m : Stamp} (h : rightS m = true) : (cF m).length = m.period.toNat := by
  have := rightS_bd h
  simp only [cF, List.length_drop, List.length_take, chipsL_len]; omega
theorem cO_len {m : Stamp} (h : rightS m = true) : (cO m).length = m.period.toNat := by
  have := rightS_bd h
  simp only [cO, List.length_drop, List.length_take, chipsL_len]; omega
theorem pc_is (m : Stamp) (p : Nat) : IsChips (pc m p) := by unfold pc; split; exact cF_is m; exact cO_is m
theorem pc_len {m : Stamp} (h : rightS m = true) (p : Nat) : (pc m p).length = m.period.toNat := by unfold pc; split; exact cF_len h; exact cO_len h
theorem psg_is (word : List Bool) (p : Nat) : psg word p = 1 ∨ psg word p = -1 := by
  unfold psg sgn; split; simp; split <;> simp

theorem mul_pm {x s B : Int} (hs : s = 1 ∨ s = -1) (h : -B ≤ x ∧ x ≤ B) : -B ≤ x * s ∧ x * s ≤ B ∧ (x * s = x ∨ x * s = -x) := by
  rcases hs with rfl | rfl <;> omega
theorem pm_mul {x s B : Int} (hs : s = 1 ∨ s = -1) (h : -B ≤ x ∧ x ≤ B) : -B ≤ s * x ∧ s * x ≤ B ∧ (s * x = x ∨ s * x = -x) := by
  rcases hs with rfl | rfl <;> omega
theorem corr_bd {a c : List Int} {o : Nat} {B : Int} (hc : IsChips c) : ∀ k, k ≤ c.length → (∀ i, o ≤ i → i < o + k → -B ≤ nth a i ∧ nth a i ≤ B) → -(B * k) ≤ corrTo a c o k ∧ corrTo a c o k ≤ B * k
  | 0, _, _ => by simp [corrTo]
  | k + 1, hk, h => by
    have h1 := corr_bd hc k (by omega) fun i hi hi' => h i hi (by omega)
    have h2 := mul_pm (hc k (by omega)) (h (o + k) (by omega) (by omega))
    simp only [corrTo]
    rw [show B * ((k + 1 : Nat) : Int) = B * k + B by rw [Int.natCast_add, Int.mul_add]; simp]
    omega
theorem corr_bd0 {a c : List Int} {o : Nat} (hc : IsChips c) (hl : c.length ≤ 256) {k : Nat} (hk : k ≤ c.length) (h : ∀ i, -4000000000 ≤ nth a i ∧ nth a i ≤ 4000000000) : -1024000000000 ≤ corrTo a c o k ∧ corrTo a c o k ≤ 1024000000000 := by
  have := corr_bd (a := a) (o := o) (B := 4000000000) hc k hk fun i _ _ => h i
  omega
theorem addTo_len (a c : List Int) (o : Nat) (x : Int) : ∀ k, (addTo a c o x k).length = a.length
  | 0 => rfl
  | k + 1 => by simp only [addTo, List.length_set]; exact addTo_len a c o x k
theorem addTo_nth (a c : List Int) (o : Nat) (x : Int) : ∀ k, o + k ≤ a.length → ∀ i, nth (addTo a c o x k) i = if o ≤ i ∧ i < o + k then nth a i + x * nth c (i - o) else nth a i
  | 0, _, i => by simp only [addTo]; rw [if_neg (by omega)]
  | k + 1, h, i => by
    have ih := addTo_nth a c o x k (by omega)
    simp only [addTo]
    rw [nth_set _ _ _ _ (by rw [addTo_len]; omega)]
    by_cases hi : i = o + k
    · subst hi
      rw [if_pos rfl, if_pos (by omega), ih, if_neg (by omega), show o + k - o = k by omega]
    · rw [if_neg hi, ih]
      by_cases h2 : o ≤ i ∧ i < o + k
      · rw [if_pos h2, if_pos (by omega)]
      · rw [if_neg h2, if_neg (by omega)]
theorem corr_congr {a b c : List Int} {o : Nat} : ∀ k, (∀ i, o ≤ i → i < o + k → nth a i = nth b i) → corrTo a c o k = corrTo b c o k
  | 0, _ => rfl
  | k + 1, h => by simp only [corrTo]; rw [corr_congr k fun i h1 h2 => h i h1 (by omega), h (o + k) (by omega) (by omega)]
theorem nth_sub (a : List Int) (lo hi i : Nat) (h : lo + i < hi) (h2 : hi ≤ a.length) : nth ((a.take hi).drop lo) i = nth a (lo + i) := by
  rw [nth_get (by simp; omega), nth_get (by omega)]
  simp
theorem corr_sub {a c : List Int} {lo hi : Nat} (h2 : hi ≤ a.length) : ∀ k, lo + k ≤ hi → corrTo ((a.take hi).drop lo) c 0 k = corrTo a c lo k
  | 0, _ => rfl
  | k + 1, h => by simp only [corrTo, Nat.zero_add]; rw [corr_sub h2 k (by omega), nth_sub a lo hi k (by omega) h2]
/-- Marked up to o. -/
structure Good (a0 : List Int) (o : Nat) (y : List Int × Int) : Prop where
  len : y.1.length = a0.length
  rest : ∀ i, o ≤ i → nth y.1 i = nth a0 i
  bd : ∀ i, -4000000000 ≤ nth y.1 i ∧ nth y.1 i ≤ 4000000000
  depth : 0 ≤ y.2 ∧ y.2 ≤ 4000000000
theorem Good.later {a0 : List Int} {o o' : Nat} {y : List Int × Int} (h : Good a0 o y) (ho : o ≤ o') : Good a0 o' y := ⟨h.len, fun i hi => h.rest i (by omega), h.bd, h.depth⟩
theorem good0 {a : List Int} (h : okS a = true) : Good a 0 (a, 0) := ⟨rfl, fun _ _ => rfl, fun i => by have := okS_nth h i; simp only; omega, by simp⟩
/-- What the step reckons with. -/
theorem step_bd {a0 : List Int} (ha : okS a0 = true) {m : Stamp} (hm : rightS m = true) {c : List Int} (hc : IsChips c) (hl : c.length = m.period.toNat) {o : Nat} {y : List Int × Int} (h : Good a0 o y) {sg : Int} (hs : sg = 1 ∨ sg = -1) :
    -8388608 ≤ corrTo y.1 c o m.period.toNat ∧ corrTo y.1 c o m.period.toNat ≤ 8388608 ∧ -8388608 ≤ sg * corrTo y.1 c o m.period.toNat ∧ sg * corrTo y.1 c o m.period.toNat ≤ 8388608 := by
  have hb := rightS_bd hm
  have h1 := corr_bd (a := y.1) (o := o) (B := 32768) hc m.period.toNat (by omega) fun i hi _ => by rw [h.rest i hi]; have := okS_nth ha i; omega
  have h2 : -8388608 ≤ corrTo y.1 c o m.period.toNat ∧ corrTo y.1 c o m.period.toNat ≤ 8388608 := by omega
  have h3 := pm_mul (B := 8388608) hs h2
  omega
theorem quo_bd {x : Int} {P : Nat} (hP : 4 ≤ P) (h : 0 ≤ x ∧ x ≤ 1100000000) : 0 ≤ x / P ∧ x / P ≤ 1100000000 := by
  have h1 := Int.ediv_nonneg h.1 (show (0 : Int) ≤ P by omega)
  have h2 := Int.ediv_le_self (P : Int) h.1
  omega
theorem step_good {a0 : List Int} (ha : okS a0 = true) {m : Stamp} (hm : rightS m = true) {c : List Int} (hc : IsChips c) (hl : c.length = m.period.toNat) {o : Nat} {y : List Int × Int} (h : Good a0 o y) (ho : o + m.period.toNat ≤ a0.length) {sg : Int} (hs : sg = 1 ∨ sg = -1) :
    Good a0 (o + m.period.toNat) (stepP m.margin m.period.toNat c o sg y) := by
  have hb := rightS_bd hm
  have hk := step_bd ha hm hc hl h hs
  unfold stepP
  by_cases h1 : m.margin ≤ sg * corrTo y.1 c o m.period.toNat
  · rw [if_pos h1]; exact h.later (by omega)
  · rw [if_neg h1]
    generalize hd : (m.margin - sg * corrTo y.1 c o m.period.toNat + m.period.toNat - 1) / m.period.toNat = d
    have hd' : 0 ≤ d ∧ d ≤ 1100000000 := by rw [← hd]; exact quo_bd (by omega) (by omega)
    have hn := addTo_nth y.1 c o (d * sg) m.period.toNat (by rw [h.len]; exact ho)
    refine ⟨by simp only [addTo_len]; exact h.len, fun i hi => ?_, fun i => ?_, ?_⟩
    · simp only [hn]; rw [if_neg (by omega)]; exact h.rest i (by omega)
    · simp only [hn]
      split
      · rename_i hi
        rw [h.rest i (by omega)]
        have h2 := okS_nth ha i
        have h3 := mul_pm (B := 1100000000) hs (x := d) (by omega)
        have h4 := mul_pm (B := 1100000000) (hc (i - o) (by omega)) (x := d * sg) (by omega)
        omega
      · exact h.bd i
    · simp only
      have := h.depth
      omega
theorem frameN_eq {m : Stamp} (hm : rightS m = true) : (m.bits + 17) * m.period = frameN m := by
  have hb := rightS_bd hm
  simp only [frameN]
  rw [Int.natCast_mul]
  congr 1 <;> omega
theorem frameN_bd {m : Stamp} (hm : rightS m = true) : 72 ≤ frameN m ∧ frameN m ≤ 8448 := by
  have hb := rightS_bd hm
  simp only [frameN]
  have h1 : 18 * 4 ≤ (m.bits.toNat + 17) * m.period.toNat := Nat.mul_le_mul (by omega) (by omega)
  have h2 : (m.bits.toNat + 17) * m.period.toNat ≤ 33 * 256 := Nat.mul_le_mul (by omega) (by omega)
  omega
theorem per_le {m : Stamp} (p : Nat) (hp : p < m.bits.toNat + 17) : p * m.period.toNat + m.period.toNat ≤ frameN m := by
  have := Nat.mul_le_mul_right m.period.toNat (show p + 1 ≤ m.bits.toNat + 17 by omega)
  rw [Nat.add_mul, Nat.one_mul] at this
  exact this
theorem periods_good {a0 : List Int} (ha : okS a0 = true) {m : Stamp} (hm : rightS m = true) {word : List Bool} {f : Nat} (hf : f + frameN m ≤ a0.length) {y : List Int × Int} (h : Good a0 f y) : ∀ p, p ≤ m.bits.toNat + 17 → Good a0 (f + p * m.period.toNat) (periods m word f p y)
  | 0, _ => by simpa [periods] using h
  | p + 1, hp => by
    have hl := per_le (m := m) p (by omega)
    have := step_good ha hm (pc_is m p) (pc_len hm p) (periods_good ha hm (word := word) hf h p (by omega)) (by omega) (psg_is word p)
    rw [show f + (p + 1) * m.period.toNat = f + p * m.period.toNat + m.period.toNat by rw [Nat.add_mul, Nat.one_mul]; omega]
    exact this
theorem frame_le {m : Stamp} {n j : Nat} (h : j < n / frameN m) : j * frameN m + frameN m ≤ n := by
  have h1 := Nat.mul_le_mul_right (frameN m) (show j + 1 ≤ n / frameN m by omega)
  have h2 := Nat.div_mul_le_self n (frameN m)
  rw [Nat.add_mul, Nat.one_mul] at h1
  omega
theorem frames_good {a0 : List Int} (ha : okS a0 = true) {m : Stamp} (hm : rightS m = true) {word : List Bool} : ∀ j, j ≤ a0.length / frameN m → Good a0 (j * frameN m) (frames m word j (a0, 0))
  | 0, _ => by simpa [frames] using good0 ha
  | j + 1, hj => by
    have hl := frame_le (m := m) (n := a0.length) (j := j) (by omega)
    have := periods_good ha hm (word := word) hl (frames_good ha hm (word := word) j (by omega)) (m.bits.toNat + 17) (Nat.le_refl _)
    rw [show (j + 1) * frameN m = j * frameN m + (m.bits.toNat + 17) * m.period.toNat by rw [Nat.add_mul, Nat.one_mul]; rfl]
    exact this
end Go.Proofs.Ytekikelejncgeaa
