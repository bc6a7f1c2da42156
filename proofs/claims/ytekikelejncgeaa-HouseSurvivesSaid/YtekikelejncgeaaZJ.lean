import Derived.Test.YtekikelejncgeaaZI
set_option autoImplicit false
set_option linter.unusedSimpArgs false
set_option linter.unusedVariables false
set_option maxRecDepth 100000
namespace Go.Proofs.Ytekikelejncgeaa
open Go.Sx
open Enc (enc val)

/-! ### the theorem of marks -/
theorem step_keep {mg : Int} {P : Nat} {c : List Int} {o : Nat} {sg : Int} {y : List Int × Int} (ho : o + P ≤ y.1.length) (i : Nat) (hi : i < o ∨ o + P ≤ i) : nth (stepP mg P c o sg y).1 i = nth y.1 i := by
  unfold stepP
  split
  · rfl
  · simp only
    rw [addTo_nth _ _ _ _ _ ho, if_neg (by omega)]
theorem step_len (mg : Int) (P : Nat) (c : List Int) (o : Nat) (sg : Int) (y : List Int × Int) : (stepP mg P c o sg y).1.length = y.1.length := by
  unfold stepP
  split
  · rfl
  · exact addTo_len _ _ _ _ _
theorem corr_add {a c : List Int} {o : Nat} {x : Int} {P : Nat} (hc : IsChips c) (hP : P ≤ c.length) (ho : o + P ≤ a.length) : ∀ k, k ≤ P → corrTo (addTo a c o x P) c o k = corrTo a c o k + x * k
  | 0, _ => by simp [corrTo]
  | k + 1, hk => by
    have ih := corr_add (x := x) hc hP ho k (by omega)
    simp only [corrTo]
    rw [ih, addTo_nth _ _ _ _ _ ho, if_pos (by omega), show o + k - o = k by omega]
    have e : (nth a (o + k) + x * nth c k) * nth c k = nth a (o + k) * nth c k + x := by
      rcases hc k (by omega) with h | h <;> rw [h] <;> omega
    rw [e, show x * ((k + 1 : Nat) : Int) = x * k + x by rw [Int.natCast_add, Int.mul_add]; simp]
    omega
theorem ceil_le {x : Int} {P : Nat} (hP : 0 < P) (h : 0 < x) : x ≤ (x + P - 1) / P * P := by
  have h1 := Int.emod_add_mul_ediv (x + P - 1) P
  have h2 := Int.emod_lt_of_pos (x + P - 1) (show (0 : Int) < P by omega)
  rw [Int.mul_comm] at h1
  omega
theorem step_mark {mg : Int} {P : Nat} {c : List Int} {o : Nat} {sg : Int} {y : List Int × Int} (hc : IsChips c) (hl : c.length = P) (hP : 0 < P) (ho : o + P ≤ y.1.length) (hs : sg = 1 ∨ sg = -1) : mg ≤ sg * corrTo (stepP mg P c o sg y).1 c o P := by
  unfold stepP
  by_cases h : mg ≤ sg * corrTo y.1 c o P
  · rw [if_pos h]; exact h
  · rw [if_neg h]
    simp only
    rw [corr_add hc (by omega) ho P (Nat.le_refl _)]
    have h1 := ceil_le (x := mg - sg * corrTo y.1 c o P) hP (by omega)
    generalize (mg - sg * corrTo y.1 c o P + P - 1) / (P : Int) = d at h1
    have e : sg * (corrTo y.1 c o P + d * sg * P) = sg * corrTo y.1 c o P + d * P := by
      rcases hs with rfl | rfl
      · simp
      · rw [show d * -1 * (P : Int) = -(d * P) by rw [Int.mul_neg, Int.mul_one, Int.neg_mul]]
        generalize d * (P : Int) = z
        omega
    omega
/-- How far a sample is changed. -/
theorem step_depth {a0 : List Int} {m : Stamp} {c : List Int} (hm : rightS m = true) (ha : okS a0 = true) (hc : IsChips c) (hl : c.length = m.period.toNat) {o : Nat} {sg : Int} {y : List Int × Int} (hg : Good a0 o y) (ho : o + m.period.toNat ≤ a0.length) (hs : sg = 1 ∨ sg = -1)
    (h : ∀ i, -y.2 ≤ nth y.1 i - nth a0 i ∧ nth y.1 i - nth a0 i ≤ y.2) : ∀ i, -(stepP m.margin m.period.toNat c o sg y).2 ≤ nth (stepP m.margin m.period.toNat c o sg y).1 i - nth a0 i ∧ nth (stepP m.margin m.period.toNat c o sg y).1 i - nth a0 i ≤ (stepP m.margin m.period.toNat c o sg y).2 := by
  intro i
  have hk := step_bd ha hm hc hl hg hs
  have hb := rightS_bd hm
  unfold stepP
  by_cases h1 : m.margin ≤ sg * corrTo y.1 c o m.period.toNat
  · rw [if_pos h1]; exact h i
  · rw [if_neg h1]
    generalize hd : (m.margin - sg * corrTo y.1 c o m.period.toNat + m.period.toNat - 1) / m.period.toNat = d
    have hd' : 0 ≤ d ∧ d ≤ 1100000000 := by rw [← hd]; exact quo_bd (by omega) (by omega)
    simp only
    rw [addTo_nth _ _ _ _ _ (by rw [hg.len]; exact ho)]
    have hi := h i
    split
    · rename_i h2
      rw [hg.rest i h2.1]
      have h3 := mul_pm (B := d) hs (x := d) (by omega)
      have h4 := mul_pm (B := d) (hc (i - o) (by omega)) (x := d * sg) (by omega)
      omega
    · omega

/-- The margin holds in period p of the frame at f. -/
def MarkAt (m : Stamp) (word : List Bool) (y : List Int × Int) (f p : Nat) : Prop := m.margin ≤ psg word p * corrTo y.1 (pc m p) (f + p * m.period.toNat) m.period.toNat
theorem periods_len (m : Stamp) (word : List Bool) (f : Nat) (y : List Int × Int) : ∀ p, (periods m word f p y).1.length = y.1.length
  | 0 => rfl
  | p + 1 => by simp only [periods, step_len]; exact periods_len m word f y p
theorem periods_keep {m : Stamp} (word : List Bool) {f : Nat} {y : List Int × Int} (hf : f + frameN m ≤ y.1.length) : ∀ p, p ≤ m.bits.toNat + 17 → ∀ i, i < f ∨ f + frameN m ≤ i → nth (periods m word f p y).1 i = nth y.1 i
  | 0, _, _, _ => rfl
  | p + 1, hp, i, hi => by
    have h1 := per_in (m := m) (p := p) (by omega) hf
    have h2 := per_le (m := m) p (by omega)
    simp only [periods]
    rw [step_keep (by rw [periods_len]; exact h1) i (by omega)]
    exact periods_keep word hf p (by omega) i hi
theorem mark_congr {m : Stamp} {word : List Bool} {y z : List Int × Int} {f p : Nat} (h : ∀ i, f + p * m.period.toNat ≤ i → i < f + p * m.period.toNat + m.period.toNat → nth y.1 i = nth z.1 i) (hm : MarkAt m word y f p) : MarkAt m word z f p := by
  unfold MarkAt at hm ⊢
  rwa [← corr_congr (a := y.1) (b := z.1) _ h]
theorem periods_mark {m : Stamp} (hm : rightS m = true) (word : List Bool) {f : Nat} {y : List Int × Int} (hf : f + frameN m ≤ y.1.length) : ∀ p, p ≤ m.bits.toNat + 17 → ∀ p', p' < p → MarkAt m word (periods m word f p y) f p'
  | 0, _, p', hp' => by omega
  | p + 1, hp, p', hp' => by
    have hb := rightS_bd hm
    have h1 := per_in (m := m) (p := p) (by omega) hf
    have hlen := periods_len m word f y p
    by_cases he : p' = p
    · subst he
      exact step_mark (pc_is m p') (pc_len hm p') (by omega) (by rw [hlen]; exact h1) (psg_is word p')
    · have ih := periods_mark hm word hf p (by omega) p' (by omega)
      refine mark_congr (fun i h2 h3 => ?_) ih
      have h4 := Nat.mul_le_mul_right m.period.toNat (show p' + 1 ≤ p by omega)
      rw [Nat.add_mul, Nat.one_mul] at h4
      simp only [periods]
      exact (step_keep (by rw [hlen]; exact h1) i (by omega)).symm
theorem periods_depth {a0 : List Int} {m : Stamp} (hm : rightS m = true) (ha : okS a0 = true) (word : List Bool) {f : Nat} {y : List Int × Int} (hf : f + frameN m ≤ a0.length) (hg : Good a0 f y) (h : ∀ i, -y.2 ≤ nth y.1 i - nth a0 i ∧ nth y.1 i - nth a0 i ≤ y.2) :
    ∀ p, p ≤ m.bits.toNat + 17 → ∀ i, -(periods m word f p y).2 ≤ nth (periods m word f p y).1 i - nth a0 i ∧ nth (periods m word f p y).1 i - nth a0 i ≤ (periods m word f p y).2
  | 0, _ => h
  | p + 1, hp => step_depth hm ha (pc_is m p) (pc_len hm p) (periods_good ha hm hf hg p (by omega)) (per_in (by omega) hf) (psg_is word p) (periods_depth hm ha word hf hg h p (by omega))
theorem frames_len (m : Stamp) (word : List Bool) (y : List Int × Int) : ∀ j, (frames m word j y).1.length = y.1.length
  | 0 => rfl
  | j + 1 => by simp only [frames, periods_len]; exact frames_len m word y j
theorem frames_mark {m : Stamp} (hm : rightS m = true) (word : List Bool) {y : List Int × Int} : ∀ j, j ≤ y.1.length / frameN m → ∀ j', j' < j → ∀ p, p < m.bits.toNat + 17 → MarkAt m word (frames m word j y) (j' * frameN m) p
  | 0, _, j', hj', _, _ => by omega
  | j + 1, hj, j', hj', p, hp => by
    have hf : j * frameN m + frameN m ≤ (frames m word j y).1.length := by rw [frames_len]; exact frame_le (by omega)
    by_cases he : j' = j
    · subst he
      exact periods_mark hm word hf _ (Nat.le_refl _) p hp
    · have ih := frames_mark hm word (y := y) j (by omega) j' (by omega) p hp
      refine mark_congr (fun i h2 h3 => ?_) ih
      have h4 := Nat.mul_le_mul_right (frameN m) (show j' + 1 ≤ j by omega)
      rw [Nat.add_mul, Nat.one_mul] at h4
      have h5 := per_le (m := m) p hp
      simp only [frames]
      exact (periods_keep word hf _ (Nat.le_refl _) i (by omega)).symm
theorem frames_depth {a0 : List Int} {m : Stamp} (hm : rightS m = true) (ha : okS a0 = true) (word : List Bool) : ∀ j, j ≤ a0.length / frameN m → ∀ i, -(frames m word j (a0, 0)).2 ≤ nth (frames m word j (a0, 0)).1 i - nth a0 i ∧ nth (frames m word j (a0, 0)).1 i - nth a0 i ≤ (frames m word j (a0, 0)).2
  | 0, _, i => by simp [frames]
  | j + 1, hj, i => periods_depth hm ha word (frame_le (by omega)) (frames_good ha hm j (by omega)) (frames_depth hm ha word j (by omega)) _ (Nat.le_refl _) i
theorem step_id {mg : Int} {P : Nat} {c : List Int} {o : Nat} {sg : Int} {y : List Int × Int} (h : mg ≤ sg * corrTo y.1 c o P) : stepP mg P c o sg y = y := by rw [stepP, if_pos h]
theorem periods_id {m : Stamp} {word : List Bool} {f : Nat} {y : List Int × Int} (h : ∀ p, p < m.bits.toNat + 17 → MarkAt m word y f p) : ∀ p, p ≤ m.bits.toNat + 17 → periods m word f p y = y
  | 0, _ => rfl
  | p + 1, hp => by simp only [periods]; rw [periods_id h p (by omega)]; exact step_id (h p (by omega))
theorem frames_id {m : Stamp} {word : List Bool} {y : List Int × Int} {n : Nat} (h : ∀ j, j < n → ∀ p, p < m.bits.toNat + 17 → MarkAt m word y (j * frameN m) p) : ∀ j, j ≤ n → frames m word j y = y
  | 0, _ => rfl
  | j + 1, hj => by simp only [frames]; rw [frames_id h j (by omega)]; exact periods_id (h j (by omega)) _ (Nat.le_refl _)
theorem sign_marks {a : List Int} {m : Stamp} (hm : rightS m = true) (msg : Int) : ∀ j, j < a.length / frameN m → ∀ p, p < m.bits.toNat + 17 → MarkAt m (wordL m msg) (signL a m msg) (j * frameN m) p :=
  fun j hj p hp => frames_mark hm (wordL m msg) (y := (a, 0)) _ (Nat.le_refl _) j hj p hp
theorem sign_len {a : List Int} {m : Stamp} {msg : Int} : (signL a m msg).1.length = a.length := frames_len _ _ _ _
theorem sign_again {a : List Int} {m : Stamp} (hm : rightS m = true) (msg : Int) : signL (signL a m msg).1 m msg = ((signL a m msg).1, 0) := by
  have h := sign_marks (a := a) hm msg
  have h2 : signL (signL a m msg).1 m msg = frames m (wordL m msg) (a.length / frameN m) ((signL a m msg).1, 0) := by rw [signL, sign_len]
  rw [h2]
  exact frames_id (y := ((signL a m msg).1, 0)) (n := a.length / frameN m) (fun j hj p hp => h j hj p hp) _ (Nat.le_refl _)

/-! ### what is found there -/
theorem msgL_nth (n : Nat) (msg : Int) (k i : Nat) (h : i < k) : nth (msgL n msg k) i = bitOf msg (n - 1 - i) := by
  rw [nth_get (by rw [msgL_len]; exact h)]; simp [msgL]
theorem nth_left {α : Type} [Inhabited α] {a b : List α} {i : Nat} (h : i < a.length) : nth (a ++ b) i = nth a i := by
  rw [nth_get (by simp; omega), nth_get h, List.getElem_append_left h]
theorem msgOf_word {n : Nat} {msg : Int} (t : List Bool) (h : 0 ≤ msg ∧ msg < 2 ^ n) : ∀ i, i ≤ n → msgOf (msgL n msg n ++ t) i = msg / 2 ^ (n - i)
  | 0, _ => by simp only [msgOf, Nat.sub_zero]; exact (Int.ediv_eq_zero_of_lt h.1 h.2).symm
  | i + 1, hi => by
    simp only [msgOf]
    rw [msgOf_word t h i (by omega), nth_left (by rw [msgL_len]; omega), msgL_nth n msg n i (by omega)]
    rw [show ((n : Int) - 1 - i) = ((n - (i + 1) : Nat) : Int) by omega]
    simp only [bitOf, Int.toNat_natCast, decide_eq_true_eq]
    have e : n - i = n - (i + 1) + 1 := by omega
    rw [e, Int.pow_succ, ← Int.ediv_ediv_of_nonneg (Int.pow_nonneg (by decide))]
    generalize msg / 2 ^ (n - (i + 1)) = z
    split <;> omega
theorem msgOf_wordL {m : Stamp} {msg : Int} (h : okMsg m msg = true) : msgOf (wordL m msg) m.bits.toNat = msg := by
  simp [okMsg] at h
  have := msgOf_word (tailL m.key msg 16) h m.bits.toNat (Nat.le_refl _)
  simpa [wordL] using this
/-- Where the margin holds, the message is found. -/
theorem found_of {w : List Int} {m : Stamp} {msg thr : Int} (hg : okMsg m msg = true) {f : Nat} (ht : 1 ≤ thr) (h : ∀ p, p < m.bits.toNat + 17 → thr ≤ psg (wordL m msg) p * bitK w m f p) : foundAt w m thr f = true ∧ msgAt w m thr f = msg := by
  have hwl := wordL_len (m := m) (msg := msg)
  have h0 : thr ≤ bitK w m f 0 := by have := h 0 (by omega); simpa [psg] using this
  have hk : ∀ i, i < m.bits.toNat + 16 → badK w m thr f (i + 1) = false ∧ decide (thr ≤ bitK w m f (i + 1)) = nth (wordL m msg) i := fun i hi => by
    have h1 := h (i + 1) (by omega)
    rw [psg_succ] at h1
    cases hb : nth (wordL m msg) i with
    | true =>
      rw [hb, if_pos rfl] at h1
      simp only [badK, Bool.and_eq_false_iff, decide_eq_false_iff_not, decide_eq_true_eq]
      omega
    | false =>
      rw [hb, if_neg (by simp)] at h1
      simp only [badK, Bool.and_eq_false_iff, decide_eq_false_iff_not]
      omega
  have hbits : bitsTo w m thr f (m.bits.toNat + 16) = wordL m msg := eq_of_nth (by rw [bitsTo_len, hwl]) fun i hi => by
    rw [bitsTo_len] at hi
    rw [bitsTo_nth _ _ _ _ _ _ hi]
    exact (hk i hi).2
  have hma : msgAt w m thr f = msg := by rw [msgAt, hbits]; exact msgOf_wordL hg
  refine ⟨?_, hma⟩
  have hany : anyBad w m thr f (m.bits.toNat + 16) = false := anyBad_false.2 fun j hj => (hk j hj).1
  unfold foundAt
  rw [hany, hbits, msgOf_wordL hg]
  simp [h0]
theorem found_mem {w : List Int} {m : Stamp} {thr : Int} {f : Nat} (h : foundAt w m thr f = true) : ∀ k, f < k → (⟨f, msgAt w m thr f⟩ : Find) ∈ findTo w m thr k
  | 0, hk => by omega
  | k + 1, hk => by
    simp only [findTo, List.mem_append]
    by_cases he : f = k
    · subst he; right; rw [if_pos h]; simp
    · left; exact found_mem h k (by omega)
end Go.Proofs.Ytekikelejncgeaa
