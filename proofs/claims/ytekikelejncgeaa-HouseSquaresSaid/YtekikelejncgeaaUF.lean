import Derived.Test.YtekikelejncgeaaUB
import Derived.Test.YtekikelejncgeaaUE
set_option autoImplicit false
set_option linter.unusedSimpArgs false
set_option linter.unusedVariables false
set_option maxRecDepth 100000
namespace Go.Proofs.Ytekikelejncgeaa
open Go.Sx
open Enc (enc val)

/-! ### the square is balanced: plain counting -/
def sumN (f : Nat → Int) : Nat → Int
  | 0 => 0
  | k + 1 => sumN f k + f k
def ind (p : Prop) [Decidable p] : Int := if p then 1 else 0
theorem ind_congr {p q : Prop} [Decidable p] [Decidable q] (h : p ↔ q) : ind p = ind q := by unfold ind; simp only [h]
theorem sumN_congr {f g : Nat → Int} : ∀ {k : Nat}, (∀ i, i < k → f i = g i) → sumN f k = sumN g k
  | 0, _ => rfl
  | k + 1, h => by rw [sumN, sumN, sumN_congr fun i hi => h i (by omega), h k (by omega)]
theorem sumN_add (f g : Nat → Int) : ∀ k, sumN (fun i => f i + g i) k = sumN f k + sumN g k
  | 0 => rfl
  | k + 1 => by simp only [sumN]; rw [sumN_add f g k]; omega
theorem sumN_zero : ∀ k, sumN (fun _ => 0) k = 0
  | 0 => rfl
  | k + 1 => by rw [sumN, sumN_zero k]; rfl
theorem sumN_split (f : Nat → Int) (a : Nat) : ∀ b, sumN f (a + b) = sumN f a + sumN (fun i => f (a + i)) b
  | 0 => by simp [sumN]
  | b + 1 => by rw [show a + (b + 1) = a + b + 1 by omega, sumN, sumN, sumN_split f a b]; omega
theorem sumN_swap (f : Nat → Nat → Int) (m : Nat) : ∀ k, sumN (fun i => sumN (f i) m) k = sumN (fun j => sumN (fun i => f i j) k) m
  | 0 => by simp only [sumN]; rw [sumN_zero]
  | k + 1 => by
    rw [sumN, sumN_swap f m k, ← sumN_add]
    exact sumN_congr fun i _ => rfl
theorem sumN_one (c : Nat) (p : Nat → Prop) [DecidablePred p] : ∀ k, sumN (fun i => ind (i = c ∧ p i)) k = if c < k then ind (p c) else 0
  | 0 => by simp [sumN]
  | k + 1 => by
    rw [sumN, sumN_one c p k]
    by_cases h1 : c < k
    · rw [if_pos h1, if_pos (by omega)]
      have : ¬ (k = c ∧ p k) := fun h => by omega
      simp [ind, this]
    · rw [if_neg h1]
      by_cases h2 : k = c
      · subst h2; rw [if_pos (by omega)]; simp [ind]
      · rw [if_neg (by omega)]; simp [ind, h2]

theorem rowF_sum (row : List Int) (f : P2 → Int) (q : P2) : ∀ k, rowF row f k q = f q + sumN (fun i => ind (q = ⟨nth row i, i⟩)) k
  | 0 => by simp [rowF, sumN]
  | k + 1 => by
    rw [rowF, bump, sumN, rowF_sum row f q k]
    unfold ind
    split <;> omega
theorem rowG_sum (row : List Int) (f : P2 → Int) (q : P2) : ∀ k, rowG row f k q = f q + sumN (fun i => ind (0 < i ∧ q = ⟨nth row (i - 1), nth row i⟩)) k
  | 0 => by simp [rowG, sumN]
  | k + 1 => by
    rw [rowG, sumN, ← Int.add_assoc, ← rowG_sum row f q k]
    by_cases hk : 0 < k
    · rw [if_pos hk, bump]
      unfold ind
      by_cases hq : q = ⟨nth row (k - 1), nth row k⟩
      · rw [if_pos hq, if_pos ⟨hk, hq⟩]
      · rw [if_neg hq, if_neg fun h => hq h.2]; omega
    · rw [if_neg hk, ind, if_neg fun h => hk h.1]; omega
theorem planF_sum (plan : List (List Int)) (n : Nat) (x y : Nat) (hy : y < n) : ∀ L, planF plan n L ⟨x, y⟩ = sumN (fun j => ind ((x : Int) = nth (nth plan j) y)) L
  | 0 => rfl
  | L + 1 => by
    rw [planF, rowF_sum, planF_sum plan n x y hy L, sumN]
    congr 1
    have h1 : sumN (fun i => ind ((⟨x, y⟩ : P2) = ⟨nth (nth plan L) i, i⟩)) n = sumN (fun i => ind (i = y ∧ (x : Int) = nth (nth plan L) i)) n := sumN_congr fun i _ => ind_congr ⟨fun h => by
      simp only [P2.mk.injEq] at h; exact ⟨by omega, h.1⟩, fun h => by simp only [P2.mk.injEq]; exact ⟨h.2, by omega⟩⟩
    rw [h1, sumN_one y (fun i => (x : Int) = nth (nth plan L) i), if_pos hy]
theorem planG_sum (plan : List (List Int)) (n : Nat) (x y : Nat) : ∀ L, planG plan n L ⟨x, y⟩ = sumN (fun j => sumN (fun i => ind (0 < i ∧ (x : Int) = nth (nth plan j) (i - 1) ∧ (y : Int) = nth (nth plan j) i)) n) L
  | 0 => rfl
  | L + 1 => by
    rw [planG, rowG_sum, planG_sum plan n x y L, sumN]
    congr 1
    exact sumN_congr fun i _ => ind_congr (by simp only [P2.mk.injEq])

/-! rows (z_i + r) mod n -/
theorem mod_iff {n : Nat} (hn : 0 < n) (c : Int) {x j : Nat} (hx : x < n) (hj : j < n) : (x : Int) = (c + j) % n ↔ j = ((x - c) % (n : Int)).toNat := by
  have hn' : (0 : Int) < n := by omega
  constructor
  · intro h
    have h1 : (x : Int) - c = (j : Int) - n * ((c + j) / n) := by
      have := Int.emod_add_mul_ediv (c + j) n
      omega
    rw [h1, Int.sub_mul_emod_self_left, Int.emod_eq_of_lt (by omega) (by omega)]; omega
  · intro h
    have h0 := Int.emod_nonneg ((x : Int) - c) (show (n : Int) ≠ 0 by omega)
    have h1 : c + (j : Int) = (x : Int) - n * ((x - c) / n) := by
      have := Int.emod_add_mul_ediv ((x : Int) - c) n
      omega
    rw [h1, Int.sub_mul_emod_self_left, Int.emod_eq_of_lt (by omega) (by omega)]
def rowZ (z : List Int) (n r : Nat) : List Int := z.map fun v => (v + r) % n
structure Base (z : List Int) (n : Nat) : Prop where
  len : z.length = n
  bd : ∀ i, i < n → 0 ≤ nth z i ∧ nth z i < n
  inj : ∀ i j, i < n → j < n → nth z i = nth z j → i = j
theorem rowZ_nth {z : List Int} {n : Nat} (hz : Base z n) (r i : Nat) (hi : i < n) : nth (rowZ z n r) i = (nth z i + r) % n := by
  rw [nth_get (by simp [rowZ, hz.len, hi]), nth_get (by rw [hz.len]; exact hi)]; simp [rowZ]
theorem seen_iff {row : List Int} {n : Nat} (hr : ∀ i, i < n → 0 ≤ nth row i ∧ nth row i < n) : ∀ k, k ≤ n → ∀ v, v < n → nth (seenTo row n k) v = true → ∃ i, i < k ∧ nth row i = (v : Int)
  | 0, _, v, hv, h => by rw [seenTo, nth_get (by simpa using hv)] at h; simp at h
  | k + 1, hk, v, hv, h => by
    have hb := hr k (by omega)
    rw [seenTo, nth_set _ _ _ _ (by rw [seenTo_len]; omega)] at h
    by_cases e : v = (nth row k).toNat
    · exact ⟨k, by omega, by omega⟩
    · rw [if_neg e] at h
      obtain ⟨i, hi, hv'⟩ := seen_iff hr k (by omega) v hv h
      exact ⟨i, by omega, hv'⟩
theorem rowZ_good {z : List Int} {n : Nat} (hn : 0 < n) (hz : Base z n) (r : Nat) : GoodRow n (rowZ z n r) := by
  have hb : ∀ i, i < n → 0 ≤ nth (rowZ z n r) i ∧ nth (rowZ z n r) i < n := fun i hi => by
    rw [rowZ_nth hz r i hi]
    exact ⟨Int.emod_nonneg _ (by omega), Int.emod_lt_of_pos _ (by omega)⟩
  refine ⟨by simp [rowZ, hz.len], fun j hj => ⟨by have := hb j hj; omega, ?_⟩⟩
  have hbj := hb j hj
  by_cases h : nth (seenTo (rowZ z n r) n j) (nth (rowZ z n r) j).toNat = true
  · obtain ⟨i, hi, h2⟩ := seen_iff hb j (by omega) _ (by omega) h
    have h3 : nth (rowZ z n r) i = nth (rowZ z n r) j := by omega
    rw [rowZ_nth hz r i (by omega), rowZ_nth hz r j hj] at h3
    have h4 : (nth z i) % (n : Int) = (nth z j) % (n : Int) := by
      have := Int.emod_eq_emod_iff_emod_sub_eq_zero.1 h3
      rw [show nth z i + (r : Int) - (nth z j + r) = nth z i - nth z j by omega] at this
      exact Int.emod_eq_emod_iff_emod_sub_eq_zero.2 this
    have b1 := hz.bd i (by omega)
    have b2 := hz.bd j hj
    rw [Int.emod_eq_of_lt b1.1 b1.2, Int.emod_eq_of_lt b2.1 b2.2] at h4
    have := hz.inj i j (by omega) hj h4
    omega
  · simpa using h
theorem places_one {z : List Int} {n : Nat} (hz : Base z n) {x y : Nat} (hx : x < n) (hy : y < n) : sumN (fun j => ind ((x : Int) = nth (rowZ z n j) y)) n = 1 := by
  have h1 : sumN (fun j => ind ((x : Int) = nth (rowZ z n j) y)) n = sumN (fun j => ind (j = (((x : Int) - nth z y) % (n : Int)).toNat ∧ True)) n := sumN_congr fun j hj => ind_congr (by
    rw [rowZ_nth hz j y hy, mod_iff (by omega) _ hx hj]; simp)
  have h0 := Int.emod_nonneg ((x : Int) - nth z y) (show (n : Int) ≠ 0 by omega)
  have h2 := Int.emod_lt_of_pos ((x : Int) - nth z y) (show (0 : Int) < n by omega)
  rw [h1, sumN_one _ (fun _ => True), if_pos (by omega)]; simp [ind]
/-- How often a difference comes. -/
def difN (z : List Int) (n : Nat) (d : Int) : Int := sumN (fun i => ind (0 < i ∧ d % n = (nth z i - nth z (i - 1)) % n)) n
theorem pairs_dif {z : List Int} {n : Nat} (hz : Base z n) {x y : Nat} (hx : x < n) (hy : y < n) :
    sumN (fun j => sumN (fun i => ind (0 < i ∧ (x : Int) = nth (rowZ z n j) (i - 1) ∧ (y : Int) = nth (rowZ z n j) i)) n) n = difN z n ((y : Int) - x) := by
  rw [sumN_swap]
  refine sumN_congr fun i hi => ?_
  have hn : (n : Int) ≠ 0 := by omega
  have h0 := Int.emod_nonneg ((x : Int) - nth z (i - 1)) hn
  have h1 := Int.emod_lt_of_pos ((x : Int) - nth z (i - 1)) (show (0 : Int) < n by omega)
  have h2 := Int.emod_nonneg ((y : Int) - nth z i) hn
  have e1 : sumN (fun j => ind (0 < i ∧ (x : Int) = nth (rowZ z n j) (i - 1) ∧ (y : Int) = nth (rowZ z n j) i)) n = sumN (fun j => ind (j = (((x : Int) - nth z (i - 1)) % (n : Int)).toNat ∧ (0 < i ∧ j = (((y : Int) - nth z i) % (n : Int)).toNat))) n :=
    sumN_congr fun j hj => ind_congr (by
      rw [rowZ_nth hz j _ (by omega), rowZ_nth hz j _ hi, mod_iff (by omega) _ hx hj, mod_iff (by omega) _ hy hj]
      constructor
      · rintro ⟨a, b, c⟩; exact ⟨b, a, c⟩
      · rintro ⟨a, b, c⟩; exact ⟨b, a, c⟩)
  rw [e1, sumN_one _ (fun j => 0 < i ∧ j = (((y : Int) - nth z i) % (n : Int)).toNat), if_pos (by omega)]
  refine ind_congr ⟨fun ⟨a, b⟩ => ⟨a, ?_⟩, fun ⟨a, b⟩ => ⟨a, ?_⟩⟩
  · have h3 : ((x : Int) - nth z (i - 1)) % n = ((y : Int) - nth z i) % n := by omega
    have := Int.emod_eq_emod_iff_emod_sub_eq_zero.1 h3
    refine (Int.emod_eq_emod_iff_emod_sub_eq_zero.2 ?_).symm
    rw [← this]; congr 1; omega
  · have := Int.emod_eq_emod_iff_emod_sub_eq_zero.1 b.symm
    have h3 : ((x : Int) - nth z (i - 1)) % n = ((y : Int) - nth z i) % n := Int.emod_eq_emod_iff_emod_sub_eq_zero.2 (by rw [← this]; congr 1; omega)
    omega
end Go.Proofs.Ytekikelejncgeaa
