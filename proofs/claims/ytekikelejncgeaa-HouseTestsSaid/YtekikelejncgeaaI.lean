import Derived.Test.YtekikelejncgeaaH
set_option autoImplicit false
set_option linter.unusedSimpArgs false
set_option linter.unusedVariables false
set_option maxRecDepth 100000
namespace Go.Proofs.Ytekikelejncgeaa
open Go.Sx
open Enc (enc val)

/-! ### the plain law of Count -/
def sumK (f : Int → Int) : List Int → Int
  | [] => 0
  | k :: K => f k + sumK f K
theorem sumK_perm (f : Int → Int) {K K' : List Int} (h : K.Perm K') : sumK f K = sumK f K' := by
  induction h with
  | nil => rfl
  | cons e _ ih => simp only [sumK, ih]
  | swap e e' L => simp only [sumK]; omega
  | trans _ _ h1 h2 => exact h1.trans h2
theorem sumK_append (f : Int → Int) : ∀ K K' : List Int, sumK f (K ++ K') = sumK f K + sumK f K'
  | [], K' => by simp [sumK]
  | k :: K, K' => by simp only [List.cons_append, sumK, sumK_append f K K']; omega
theorem sumK_congr {f g : Int → Int} : ∀ {K : List Int}, (∀ k ∈ K, f k = g k) → sumK f K = sumK g K
  | [], _ => rfl
  | k :: K, h => by rw [sumK, sumK, h k (by simp), sumK_congr fun k hk => h k (by simp [hk])]
theorem sumK_add (f g : Int → Int) : ∀ K : List Int, sumK (fun k => f k + g k) K = sumK f K + sumK g K
  | [] => rfl
  | k :: K => by simp only [sumK, sumK_add f g K]; omega
theorem sumK_map (f : Int → Int) (m : Int → Int) : ∀ K : List Int, sumK f (K.map m) = sumK (fun k => f (m k)) K
  | [] => rfl
  | k :: K => by simp only [List.map_cons, sumK, sumK_map f m K]
theorem sumK_nn {f : Int → Int} : ∀ {K : List Int}, (∀ k ∈ K, 0 ≤ f k) → 0 ≤ sumK f K
  | [], _ => by simp [sumK]
  | k :: K, h => by
    have := sumK_nn (f := f) (K := K) fun k hk => h k (by simp [hk])
    have := h k (by simp)
    simp only [sumK]; omega
theorem sumK_zero {f : Int → Int} : ∀ {K : List Int}, (∀ k ∈ K, f k = 0) → sumK f K = 0
  | [], _ => rfl
  | k :: K, h => by rw [sumK, h k (by simp), sumK_zero fun k hk => h k (by simp [hk])]; rfl
theorem sumK_one {K : List Int} (hn : K.Nodup) {a : Int} (ha : a ∈ K) (g : Int → Int) : sumK (fun s => (if s = a then 1 else 0) * g s) K = g a := by
  induction K with
  | nil => simp at ha
  | cons k K ih =>
    simp only [List.nodup_cons] at hn
    simp only [sumK]
    by_cases h : k = a
    · subst h
      rw [if_pos rfl, Int.one_mul, sumK_zero, Int.add_zero]
      intro k' hk'
      have : ¬ k' = k := fun e => hn.1 (by rw [← e]; exact hk')
      rw [if_neg this, Int.zero_mul]
    · have ha' : a ∈ K := by
        rcases List.mem_cons.1 ha with e | e
        · exact absurd e.symm h
        · exact e
      rw [if_neg h, Int.zero_mul, Int.zero_add, ih hn.2 ha']
/-- The sum of g over all choices of signs. -/
def wsumTo (x : List Int) : Nat → (Int → Int) → Int
  | 0, g => g 0
  | k + 1, g => wsumTo x k (fun u => g (u + nth x k)) + wsumTo x k (fun u => g (u - nth x k))
theorem nodup_map {f : Int → Int} (hf : ∀ a b, f a = f b → a = b) {K : List Int} (hn : K.Nodup) : (K.map f).Nodup :=
  List.pairwise_map.2 (hn.imp fun h e => h (hf _ _ e))
theorem wsum_keys (x : List Int) : ∀ (k : Nat) (K : List Int) (g : Int → Int), K.Nodup → (∀ s, waysTo x k s ≠ 0 → s ∈ K) → sumK (fun s => waysTo x k s * g s) K = wsumTo x k g
  | 0, K, g, hn, hK => by
    have h0 : (0 : Int) ∈ K := hK 0 (by simp [waysTo])
    simp only [waysTo, wsumTo]
    exact sumK_one hn h0 g
  | k + 1, K, g, hn, hK => by
    have b := waysTo_bd x k
    have e1 : sumK (fun s => waysTo x (k + 1) s * g s) K = sumK (fun s => waysTo x k (s - nth x k) * g s) K + sumK (fun s => waysTo x k (s + nth x k) * g s) K := by
      rw [← sumK_add]
      exact sumK_congr fun s _ => by simp only [waysTo]; rw [Int.add_mul]
    have i1 := wsum_keys x k (K.map (· - nth x k)) (fun u => g (u + nth x k)) (nodup_map (fun a b h => by omega) hn) (fun s hs => by
      refine List.mem_map.2 ⟨s + nth x k, hK _ ?_, by omega⟩
      have h1 := b s
      have h2 := b (s + nth x k + nth x k)
      simp only [waysTo, Int.add_sub_cancel]
      omega)
    have i2 := wsum_keys x k (K.map (· + nth x k)) (fun u => g (u - nth x k)) (nodup_map (fun a b h => by omega) hn) (fun s hs => by
      refine List.mem_map.2 ⟨s - nth x k, hK _ ?_, by omega⟩
      have h1 := b s
      have h2 := b (s - nth x k - nth x k)
      simp only [waysTo, Int.sub_add_cancel]
      omega)
    rw [sumK_map] at i1 i2
    rw [e1, wsumTo, ← i1, ← i2]
    congr 1
    · exact sumK_congr fun s _ => by rw [Int.sub_add_cancel]
    · exact sumK_congr fun s _ => by rw [Int.add_sub_cancel]
def wsumL : List Int → (Int → Int) → Int
  | [], g => g 0
  | v :: xs, g => wsumL xs (fun u => g (v + u)) + wsumL xs (fun u => g (u - v))
theorem wsumL_snoc (v : Int) : ∀ (xs : List Int) (g : Int → Int), wsumL (xs ++ [v]) g = wsumL xs (fun u => g (u + v)) + wsumL xs (fun u => g (u - v))
  | [], g => by simp [wsumL]
  | y :: xs, g => by
    simp only [List.cons_append, wsumL, wsumL_snoc v xs]
    have e1 : (fun u => g (y + (u + v))) = fun u => g (y + u + v) := by funext u; congr 1; omega
    have e2 : (fun u => g (y + (u - v))) = fun u => g (y + u - v) := by funext u; congr 1; omega
    have e3 : (fun u => g (u + v - y)) = fun u => g (u - y + v) := by funext u; congr 1; omega
    have e4 : (fun u => g (u - v - y)) = fun u => g (u - y - v) := by funext u; congr 1; omega
    rw [e1, e2, e3, e4]; omega
theorem wsumTo_eq (x : List Int) : ∀ (k : Nat) (g : Int → Int), k ≤ x.length → wsumTo x k g = wsumL (x.take k) g
  | 0, g, _ => by simp [wsumTo, wsumL]
  | k + 1, g, h => by
    have e : x.take (k + 1) = x.take k ++ [nth x k] := by rw [List.take_add_one, List.getElem?_eq_getElem (by omega), nth_get (by omega)]; rfl
    rw [e, wsumL_snoc, wsumTo, wsumTo_eq x k _ (by omega), wsumTo_eq x k _ (by omega)]
theorem wsumL_append : ∀ (xs ys : List Int) (g : Int → Int), wsumL (xs ++ ys) g = wsumL xs (fun a => wsumL ys (fun b => g (a + b)))
  | [], ys, g => by simp [wsumL]
  | y :: xs, ys, g => by
    simp only [List.cons_append, wsumL, wsumL_append xs ys]
    have e1 : (fun a => wsumL ys fun b => g (y + (a + b))) = fun a => wsumL ys fun b => g (y + a + b) := by funext a; congr 1; funext b; congr 1; omega
    have e2 : (fun a => wsumL ys fun b => g (a + b - y)) = fun a => wsumL ys fun b => g (a - y + b) := by funext a; congr 1; funext b; congr 1; omega
    rw [e1, e2]
theorem wsumL_const (c : Int) : ∀ xs : List Int, wsumL xs (fun _ => c) = 2 ^ xs.length * c
  | [] => by simp [wsumL]
  | x :: xs => by simp only [wsumL, wsumL_const c xs, List.length_cons, Int.pow_succ, Int.mul_comm _ 2, Int.mul_assoc]; omega
theorem wsumL_mono {g h : Int → Int} : ∀ {xs : List Int}, (∀ u, g u ≤ h u) → wsumL xs g ≤ wsumL xs h := by
  intro xs
  induction xs generalizing g h with
  | nil => intro hh; exact hh 0
  | cons x xs ih =>
    intro hh
    have h1 := ih (g := fun u => g (x + u)) (h := fun u => h (x + u)) fun u => hh _
    have h2 := ih (g := fun u => g (u - x)) (h := fun u => h (u - x)) fun u => hh _
    simp only [wsumL]; omega
/-- In how many ways the sum with signs is at least t. -/
def countGE (x : List Int) (t : Int) : Int := wsumL x fun u => if t ≤ u then 1 else 0
theorem countGE_bd (x : List Int) (t : Int) : 0 ≤ countGE x t ∧ countGE x t ≤ 2 ^ x.length := by
  have h1 := wsumL_mono (xs := x) (g := fun _ => 0) (h := fun u => if t ≤ u then 1 else 0) fun u => by split <;> omega
  have h2 := wsumL_mono (xs := x) (h := fun _ => 1) (g := fun u => if t ≤ u then 1 else 0) fun u => by split <;> omega
  rw [wsumL_const] at h1 h2
  unfold countGE
  omega
theorem SumOk.support {x : List Int} {k : Nat} {l : List (Int × Int)} (h : SumOk x k l) (s : Int) (hs : waysTo x k s ≠ 0) : s ∈ l.map (·.1) := by
  rcases Classical.em (s ∈ l.map (·.1)) with hm | hm
  · exact hm
  · rw [← h.get, getZ_out hm] at hs
    exact absurd rfl hs
end Go.Proofs.Ytekikelejncgeaa
