import Derived.Test.YtekikelejncgeaaUF
set_option autoImplicit false
set_option linter.unusedSimpArgs false
set_option linter.unusedVariables false
set_option maxRecDepth 100000
namespace Go.Proofs.Ytekikelejncgeaa
open Go.Sx
open Enc (enc val)

/-! ### the square is balanced -/
theorem zig_nth (n i : Nat) (hi : i < n) : nth (zig n) i = zag n i := by
  rw [zig_eq n (by omega), nth_get (by rw [zagL_len]; exact hi)]; simp [zagL]
theorem zag_bd (n i : Nat) (hi : i < n) : 0 ≤ zag n i ∧ zag n i < n := by
  unfold zag; split
  · omega
  · split <;> omega
theorem zag_inj (n i j : Nat) (hi : i < n) (hj : j < n) (h : zag n i = zag n j) : i = j := by
  unfold zag at h
  split at h <;> split at h <;> first | omega | (split at h <;> first | omega | (split at h <;> omega))
theorem zig_base (n : Nat) (hn : 1 ≤ n) : Base (zig n) n :=
  ⟨zig_len n hn, fun i hi => by rw [zig_nth n i hi]; exact zag_bd n i hi, fun i j hi hj h => by rw [zig_nth n i hi, zig_nth n j hj] at h; exact zag_inj n i j hi hj h⟩
theorem rev_nth (n i : Nat) (hi : i < n) : nth (zig n).reverse i = zag n (n - 1 - i) := by
  have hl := zig_len n (by omega)
  rw [← zig_nth n (n - 1 - i) (by omega), nth_get (by simp [hl]; exact hi), nth_get (by omega), List.getElem_reverse]
  congr 1; omega
theorem rev_base (n : Nat) (hn : 1 ≤ n) : Base (zig n).reverse n :=
  ⟨by simp [zig_len n hn], fun i hi => by rw [rev_nth n i hi]; exact zag_bd n _ (by omega), fun i j hi hj h => by
    rw [rev_nth n i hi, rev_nth n j hj] at h
    have := zag_inj n _ _ (by omega) (by omega) h
    omega⟩
theorem zag_dif (n i : Nat) (h0 : 0 < i) (hi : i < n) : (zag n i - zag n (i - 1)) % n = if i % 2 = 1 then (i : Int) else (n : Int) - i := by
  by_cases h : i % 2 = 1
  · rw [if_pos h]
    by_cases h1 : i = 1
    · subst h1
      rw [show zag n 1 - zag n (1 - 1) = 1 by simp [zag]]
      exact Int.emod_eq_of_lt (by omega) (by omega)
    · rw [show zag n i - zag n (i - 1) = (i : Int) - n by unfold zag; rw [if_neg (by omega), if_pos h, if_neg (by omega), if_neg (by omega)]; omega, Int.sub_emod_right]
      exact Int.emod_eq_of_lt (by omega) (by omega)
  · rw [if_neg h, show zag n i - zag n (i - 1) = (n : Int) - i by unfold zag; rw [if_neg (by omega), if_neg h, if_neg (by omega), if_pos (by omega)]; omega]
    exact Int.emod_eq_of_lt (by omega) (by omega)
theorem zag_dif' (n i : Nat) (h0 : 0 < i) (hi : i < n) : (zag n (n - 1 - i) - zag n (n - 1 - (i - 1))) % n = if (n - i) % 2 = 1 then (i : Int) else (n : Int) - i := by
  obtain ⟨k, hk⟩ : ∃ k, k = n - i := ⟨_, rfl⟩
  rw [show n - 1 - i = k - 1 by omega, show n - 1 - (i - 1) = k by omega, ← hk]
  by_cases h : k % 2 = 1
  · rw [if_pos h]
    by_cases h1 : k = 1
    · subst h1
      rw [show zag n (1 - 1) - zag n 1 = (i : Int) - n by simp [zag]; omega, Int.sub_emod_right]
      exact Int.emod_eq_of_lt (by omega) (by omega)
    · rw [show zag n (k - 1) - zag n k = (i : Int) by unfold zag; rw [if_neg (show ¬ k - 1 = 0 by omega), if_neg (show ¬ (k - 1) % 2 = 1 by omega), if_neg (show ¬ k = 0 by omega), if_pos h]; omega]
      exact Int.emod_eq_of_lt (by omega) (by omega)
  · rw [if_neg h, show zag n (k - 1) - zag n k = ((n : Int) - i) - n by unfold zag; rw [if_neg (show ¬ k - 1 = 0 by omega), if_pos (show (k - 1) % 2 = 1 by omega), if_neg (show ¬ k = 0 by omega), if_neg h]; omega, Int.sub_emod_right]
    exact Int.emod_eq_of_lt (by omega) (by omega)
theorem difN_zig (n : Nat) (d : Int) (t : Nat) (ht : d % n = t) (h1 : 1 ≤ t) (h2 : t < n) : difN (zig n) n d = ind (t % 2 = 1) + ind ((n - t) % 2 = 0) := by
  have e : difN (zig n) n d = sumN (fun i => ind (i = t ∧ i % 2 = 1) + ind (i = n - t ∧ i % 2 = 0)) n := sumN_congr fun i hi => by
    rw [ht]
    by_cases h0 : 0 < i
    · rw [zig_nth n i hi, zig_nth n (i - 1) (by omega), zag_dif n i h0 hi]
      unfold ind
      by_cases h : i % 2 = 1
      · rw [if_pos h, if_neg (show ¬ (i = n - t ∧ i % 2 = 0) by omega)]
        by_cases h3 : i = t
        · rw [if_pos ⟨h0, by omega⟩, if_pos ⟨h3, h⟩]; rfl
        · rw [if_neg (by omega), if_neg (by omega)]; rfl
      · rw [if_neg h, if_neg (show ¬ (i = t ∧ i % 2 = 1) by omega)]
        by_cases h3 : i = n - t
        · rw [if_pos ⟨h0, by omega⟩, if_pos ⟨h3, by omega⟩]; rfl
        · rw [if_neg (by omega), if_neg (by omega)]; rfl
    · unfold ind
      rw [if_neg (by omega), if_neg (by omega), if_neg (by omega)]; rfl
  rw [e, sumN_add, sumN_one t (fun i => i % 2 = 1), sumN_one (n - t) (fun i => i % 2 = 0), if_pos h2, if_pos (by omega)]
theorem difN_rev (n : Nat) (d : Int) (t : Nat) (ht : d % n = t) (h1 : 1 ≤ t) (h2 : t < n) : difN (zig n).reverse n d = ind ((n - t) % 2 = 1) + ind (t % 2 = 0) := by
  have e : difN (zig n).reverse n d = sumN (fun i => ind (i = t ∧ (n - i) % 2 = 1) + ind (i = n - t ∧ (n - i) % 2 = 0)) n := sumN_congr fun i hi => by
    rw [ht]
    by_cases h0 : 0 < i
    · rw [rev_nth n i hi, rev_nth n (i - 1) (by omega), zag_dif' n i h0 hi]
      unfold ind
      by_cases h : (n - i) % 2 = 1
      · rw [if_pos h, if_neg (show ¬ (i = n - t ∧ (n - i) % 2 = 0) by omega)]
        by_cases h3 : i = t
        · rw [if_pos ⟨h0, by omega⟩, if_pos ⟨h3, h⟩]; rfl
        · rw [if_neg (by omega), if_neg (by omega)]; rfl
      · rw [if_neg h, if_neg (show ¬ (i = t ∧ (n - i) % 2 = 1) by omega)]
        by_cases h3 : i = n - t
        · rw [if_pos ⟨h0, by omega⟩, if_pos ⟨h3, by omega⟩]; rfl
        · rw [if_neg (by omega), if_neg (by omega)]; rfl
    · unfold ind
      rw [if_neg (by omega), if_neg (by omega), if_neg (by omega)]; rfl
  rw [e, sumN_add, sumN_one t (fun i => (n - i) % 2 = 1), sumN_one (n - t) (fun i => (n - i) % 2 = 0), if_pos h2, if_pos (by omega), show n - (n - t) = t by omega]
theorem sq_len (n : Nat) : (squareR n).length = if n % 2 = 1 then n + n else n := by
  unfold squareR; split <;> simp [squareE]
theorem sq_nth1 (n j : Nat) (hj : j < n) : nth (squareR n) j = rowZ (zig n) n j := by
  rw [squareR, nth_append_l _ _ _ (by simp [squareE, hj]), nth_get (by simp [squareE, hj])]; simp [squareE, sqRow, rowZ]
theorem sq_nth2 (n j : Nat) (hj : j < n) (ho : n % 2 = 1) : nth (squareR n) (n + j) = rowZ (zig n).reverse n j := by
  have hl : (squareE n).length = n := by simp [squareE]
  rw [squareR, if_pos ho, nth_get (by simp [hl]; omega), List.getElem_append_right (by omega)]
  simp [squareE, sqRow, rowZ]
theorem sq_places (n x y : Nat) (hx : x < n) (hy : y < n) : planF (squareR n) n (squareR n).length ⟨x, y⟩ = if n % 2 = 1 then 2 else 1 := by
  rw [planF_sum _ n x y hy, sq_len]
  have h1 : sumN (fun j => ind ((x : Int) = nth (nth (squareR n) j) y)) n = 1 := by
    rw [← places_one (zig_base n (by omega)) hx hy]; exact sumN_congr fun j hj => by rw [sq_nth1 n j hj]
  by_cases ho : n % 2 = 1
  · rw [if_pos ho, if_pos ho, sumN_split, h1, show sumN (fun i => ind ((x : Int) = nth (nth (squareR n) (n + i)) y)) n = 1 by
      rw [← places_one (rev_base n (by omega)) hx hy]; exact sumN_congr fun j hj => by rw [sq_nth2 n j hj ho]]
    rfl
  · rw [if_neg ho, if_neg ho, h1]
theorem sq_pairs (n x y : Nat) (hx : x < n) (hy : y < n) (hxy : x ≠ y) : planG (squareR n) n (squareR n).length ⟨x, y⟩ = if n % 2 = 1 then 2 else 1 := by
  rw [planG_sum _ n x y, sq_len]
  obtain ⟨t, ht⟩ := Int.eq_ofNat_of_zero_le (Int.emod_nonneg ((y : Int) - x) (show (n : Int) ≠ 0 by omega))
  have h2 : t < n := by have := Int.emod_lt_of_pos ((y : Int) - x) (show (0 : Int) < n by omega); omega
  have h1 : 1 ≤ t := by
    by_cases h : t = 0
    · subst h
      have : ((y : Int)) % n = (x : Int) % n := Int.emod_eq_emod_iff_emod_sub_eq_zero.2 ht
      rw [Int.emod_eq_of_lt (by omega) (by omega), Int.emod_eq_of_lt (by omega) (by omega)] at this
      omega
    · omega
  have e1 : sumN (fun j => sumN (fun i => ind (0 < i ∧ (x : Int) = nth (nth (squareR n) j) (i - 1) ∧ (y : Int) = nth (nth (squareR n) j) i)) n) n = ind (t % 2 = 1) + ind ((n - t) % 2 = 0) := by
    rw [← difN_zig n _ t ht h1 h2, ← pairs_dif (zig_base n (by omega)) hx hy]; exact sumN_congr fun j hj => by rw [sq_nth1 n j hj]
  by_cases ho : n % 2 = 1
  · rw [if_pos ho, if_pos ho, sumN_split, e1, show sumN (fun j => sumN (fun i => ind (0 < i ∧ (x : Int) = nth (nth (squareR n) (n + j)) (i - 1) ∧ (y : Int) = nth (nth (squareR n) (n + j)) i)) n) n = ind ((n - t) % 2 = 1) + ind (t % 2 = 0) by
      rw [← difN_rev n _ t ht h1 h2, ← pairs_dif (rev_base n (by omega)) hx hy]; exact sumN_congr fun j hj => by rw [sq_nth2 n j hj ho]]
    unfold ind
    by_cases h3 : t % 2 = 1
    · rw [if_pos h3, if_pos (by omega), if_neg (by omega), if_neg (by omega)]; rfl
    · rw [if_neg h3, if_neg (by omega), if_pos (by omega), if_pos (by omega)]; rfl
  · rw [if_neg ho, if_neg ho, e1]
    unfold ind
    by_cases h3 : t % 2 = 1
    · rw [if_pos h3, if_neg (by omega)]; rfl
    · rw [if_neg h3, if_pos (by omega)]; rfl
theorem bal_square (n : Nat) (hn : 1 ≤ n ∧ n ≤ 60) : Bal (squareR n) n := by
  have hl := sq_len n
  refine ⟨by omega, by rw [hl]; split <;> omega, fun i hi => ?_, fun x y hx hy => ?_, fun x y hx hy hxy => ?_⟩
  · rw [show (n : Int).toNat = n from rfl]
    by_cases h : i < n
    · rw [sq_nth1 n i h]; exact rowZ_good (by omega) (zig_base n hn.1) i
    · rw [hl] at hi
      split at hi
      · rename_i ho
        obtain ⟨j, rfl⟩ : ∃ j, i = n + j := ⟨i - n, by omega⟩
        rw [sq_nth2 n j (by omega) ho]; exact rowZ_good (by omega) (rev_base n hn.1) j
      · omega
  · rw [show (n : Int).toNat = n from rfl] at hx hy ⊢
    rw [sq_places n x y hx hy, show (⟨0, 0⟩ : P2) = ⟨((0 : Nat) : Int), ((0 : Nat) : Int)⟩ from rfl, sq_places n 0 0 (by omega) (by omega)]
  · rw [show (n : Int).toNat = n from rfl] at hx hy ⊢
    rw [sq_pairs n x y hx hy hxy, show (⟨0, 1⟩ : P2) = ⟨((0 : Nat) : Int), ((1 : Nat) : Int)⟩ from rfl, sq_pairs n 0 1 (by omega) (by omega) (by omega)]
end Go.Proofs.Ytekikelejncgeaa
