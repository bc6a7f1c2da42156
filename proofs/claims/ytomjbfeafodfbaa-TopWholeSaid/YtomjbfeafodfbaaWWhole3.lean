import Derived.Test.YtomjbfeafodfbaaWWhole2

/- Covers: sets of small numbers as bits, the greedy cover, sums over sets. Plain lemmas, no program text. -/
set_option autoImplicit false
set_option linter.unusedSimpArgs false
set_option linter.unusedVariables false
namespace Go.Sx
def sumB (f : Nat → Bool) : Nat → Nat
  | 0 => 0
  | k + 1 => sumB f k + (f k).toNat
theorem popN_last : ∀ (k a : Nat), popN (k + 1) a = popN k a + (a.testBit k).toNat
  | 0, a => by simp only [popN, Nat.testBit_zero]; by_cases h : a % 2 = 1 <;> simp [h]; omega
  | k + 1, a => by
    rw [popN, popN_last k (a / 2), popN, Nat.testBit_succ, Nat.add_assoc]
theorem popN_sum (a : Nat) : ∀ k, popN k a = sumB a.testBit k
  | 0 => rfl
  | k + 1 => by rw [popN_last, sumB, popN_sum a k]
theorem sumB_congr {f g : Nat → Bool} : ∀ {k : Nat}, (∀ i, i < k → f i = g i) → sumB f k = sumB g k
  | 0, _ => rfl
  | k + 1, h => by rw [sumB, sumB, sumB_congr (fun i hi => h i (by omega)), h k (by omega)]
theorem sumB_add {f g h : Nat → Bool} : ∀ {k : Nat}, (∀ i, i < k → (f i).toNat = (g i).toNat + (h i).toNat) → sumB f k = sumB g k + sumB h k
  | 0, _ => rfl
  | k + 1, e => by
    have := sumB_add (k := k) (fun i hi => e i (by omega))
    have := e k (by omega)
    simp only [sumB]; omega
theorem sumB_le {f g : Nat → Bool} : ∀ {k : Nat}, (∀ i, i < k → f i = true → g i = true) → sumB f k ≤ sumB g k
  | 0, _ => Nat.le_refl _
  | k + 1, e => by
    have := sumB_le (k := k) (fun i hi => e i (by omega))
    have := e k (by omega)
    simp only [sumB]
    cases hf : f k <;> cases hg : g k <;> simp_all <;> omega
theorem sumB_zero {f : Nat → Bool} : ∀ {k : Nat}, sumB f k = 0 ↔ ∀ i, i < k → f i = false
  | 0 => by simp [sumB]
  | k + 1 => by
    simp only [sumB, Nat.add_eq_zero_iff, sumB_zero (k := k)]
    constructor
    · rintro ⟨h1, h2⟩ i hi
      by_cases e : i = k
      · subst e; cases hf : f i <;> simp_all
      · exact h1 i (by omega)
    · intro h
      exact ⟨fun i hi => h i (by omega), by simp [h k (by omega)]⟩
theorem sumB_one {k j : Nat} (h : j < k) : sumB (fun i => decide (i = j)) k = 1 := by
  induction k with
  | zero => omega
  | succ k ih =>
    simp only [sumB]
    by_cases e : k = j
    · subst e
      have : sumB (fun i => decide (i = k)) k = 0 := sumB_zero.2 fun i hi => by simp; omega
      simp [this]
    · simp [ih (by omega), e]
theorem sumB_mono {f : Nat → Bool} : ∀ {k m : Nat}, k ≤ m → sumB f k ≤ sumB f m := by
  intro k m h
  induction m with
  | zero => simp_all
  | succ m ih =>
    by_cases e : k = m + 1
    · subst e; exact Nat.le_refl _
    · have := ih (by omega); simp only [sumB]; omega
theorem sumB_bd {f : Nat → Bool} : ∀ (k : Nat), sumB f k ≤ k
  | 0 => Nat.le_refl _
  | k + 1 => by have := sumB_bd (f := f) k; simp only [sumB]; cases f k <;> simp <;> omega
theorem andN_bit (a b i : Nat) : (andN a b).testBit i = (a.testBit i && !b.testBit i) := by
  simp only [andN, Nat.testBit_xor, Nat.testBit_and]
  cases a.testBit i <;> cases b.testBit i <;> rfl
def maskTo (s : List Int) : Nat → Nat
  | 0 => 0
  | k + 1 => maskTo s k ||| 2 ^ (nth s k).toNat
def mask (s : List Int) : Nat := maskTo s s.length
theorem maskTo_bit (s : List Int) (i : Nat) : ∀ k, (maskTo s k).testBit i = true ↔ ∃ j, j < k ∧ (nth s j).toNat = i
  | 0 => by simp [maskTo]
  | k + 1 => by
    rw [maskTo, Nat.testBit_or, Bool.or_eq_true, maskTo_bit s i k, Nat.testBit_two_pow, decide_eq_true_eq]
    constructor
    · rintro (⟨j, h1, h2⟩ | h)
      · exact ⟨j, by omega, h2⟩
      · exact ⟨k, by omega, h⟩
    · rintro ⟨j, h1, h2⟩
      by_cases e : j = k
      · subst e; exact .inr h2
      · exact .inl ⟨j, by omega, h2⟩
theorem two_lt {i n : Nat} (h : i < n) : 2 ^ i < 2 ^ n := Nat.pow_lt_pow_right (by decide) h
theorem maskTo_lt {s : List Int} {n : Nat} (h : ∀ x ∈ s, 0 ≤ x ∧ x < n) : ∀ k, k ≤ s.length → maskTo s k < 2 ^ n
  | 0, _ => Nat.two_pow_pos n
  | k + 1, hk => by
    have h1 := h (nth s k) (by rw [nth_get (by omega)]; exact List.getElem_mem _)
    exact Nat.or_lt_two_pow (maskTo_lt h k (by omega)) (two_lt (by omega))
theorem maskTo_out {s : List Int} {n : Nat} (h : ∀ x ∈ s, 0 ≤ x ∧ x < n) {k i : Nat} (hk : k ≤ s.length) (hi : n ≤ i) : (maskTo s k).testBit i = false :=
  Nat.testBit_lt_two_pow (Nat.lt_of_lt_of_le (maskTo_lt h k hk) (Nat.pow_le_pow_right (by decide) hi))
def fullN (n : Nat) : Nat := 2 ^ n - 1
theorem fullN_bit (n i : Nat) : (fullN n).testBit i = decide (i < n) := Nat.testBit_two_pow_sub_one n i
theorem fullN_succ (n : Nat) : fullN n ||| 2 ^ n = fullN (n + 1) := by
  apply Nat.eq_of_testBit_eq
  intro i
  rw [Nat.testBit_or, fullN_bit, fullN_bit, Nat.testBit_two_pow]
  by_cases h : i < n <;> by_cases e : n = i <;> simp [h, e] <;> omega
/-- How many of a set are new. -/
@[irreducible] def fr (g m : Nat) : Nat := popN 32 (andN m g)
theorem fr_sum (g m : Nat) : fr g m = sumB (fun i => m.testBit i && !g.testBit i) 32 := by
  rw [fr, popN_sum]; exact sumB_congr fun i _ => andN_bit _ _ _
theorem fr_le (g m : Nat) : fr g m ≤ 32 := by rw [fr]; exact popN_le _ _
/-- One more number in a set. -/
theorem fr_put {g m x : Nat} (hx : x < 32) : fr g (m ||| 2 ^ x) = fr g m + if (g ||| m).testBit x then 0 else 1 := by
  rw [fr_sum, fr_sum]
  by_cases h : (g ||| m).testBit x = true
  · rw [if_pos h, Nat.add_zero]
    refine sumB_congr fun i _ => ?_
    rw [Nat.testBit_or, Nat.testBit_two_pow]
    rw [Nat.testBit_or] at h
    by_cases e : x = i
    · subst e
      cases h1 : g.testBit x <;> cases h2 : m.testBit x <;> simp_all
    · simp [e]
  · rw [if_neg h]
    have h0 : g.testBit x = false ∧ m.testBit x = false := by
      rw [Nat.testBit_or] at h
      cases h1 : g.testBit x <;> cases h2 : m.testBit x <;> simp_all
    rw [← sumB_one hx]
    refine sumB_add fun i _ => ?_
    rw [Nat.testBit_or, Nat.testBit_two_pow]
    by_cases e : x = i
    · subst e; simp [h0.1, h0.2]
    · have : ¬ i = x := fun h => e h.symm
      simp [e, this]
theorem fr_after {n g m : Nat} (hm : ∀ i, m.testBit i = true → i < n) : fr (g ||| m) (fullN n) + fr g m = fr g (fullN n) := by
  rw [fr_sum, fr_sum, fr_sum]
  refine (sumB_add fun i _ => ?_).symm
  rw [fullN_bit, Nat.testBit_or]
  by_cases h : i < n
  · simp only [h, decide_true, Bool.true_and]
    cases g.testBit i <;> cases m.testBit i <;> rfl
  · have h2 : m.testBit i = false := by
      cases e : m.testBit i
      · rfl
      · exact absurd (hm i e) h
    simp [h, h2]
theorem fr_zero {g m : Nat} : fr g m = 0 ↔ ∀ i, i < 32 → m.testBit i = true → g.testBit i = true := by
  rw [fr_sum, sumB_zero]
  constructor
  · intro h i hi hm
    have := h i hi
    cases e : g.testBit i <;> simp_all
  · intro h i hi
    have := h i hi
    cases e : m.testBit i <;> simp_all
def bestTo (ms : List Nat) (g : Nat) : Nat → Int × Nat
  | 0 => (-1, 0)
  | k + 1 => if (bestTo ms g k).2 < fr g (nth ms k) then ((k : Int), fr g (nth ms k)) else bestTo ms g k
def best (ms : List Nat) (g : Nat) : Int × Nat := bestTo ms g ms.length
theorem bestTo_spec (ms : List Nat) (g : Nat) : ∀ k, (bestTo ms g k = (-1, 0) ∧ ∀ j, j < k → fr g (nth ms j) = 0) ∨
    ∃ i, i < k ∧ bestTo ms g k = ((i : Int), fr g (nth ms i)) ∧ 0 < fr g (nth ms i) ∧ (∀ j, j < k → fr g (nth ms j) ≤ fr g (nth ms i))
  | 0 => .inl ⟨rfl, fun j hj => by omega⟩
  | k + 1 => by
    rw [bestTo]
    rcases bestTo_spec ms g k with ⟨h1, h2⟩ | ⟨i, h1, h2, h3, h4⟩
    · rw [h1]
      by_cases h : 0 < fr g (nth ms k)
      · right
        refine ⟨k, by omega, by simp [h], h, fun j hj => ?_⟩
        by_cases e : j = k
        · rw [e]; exact Nat.le_refl _
        · rw [h2 j (by omega)]; exact Nat.zero_le _
      · left
        refine ⟨by simp [h], fun j hj => ?_⟩
        by_cases e : j = k
        · rw [e]; omega
        · exact h2 j (by omega)
    · rw [h2]
      by_cases h : fr g (nth ms i) < fr g (nth ms k)
      · right
        refine ⟨k, by omega, by simp [h], by omega, fun j hj => ?_⟩
        by_cases e : j = k
        · rw [e]; exact Nat.le_refl _
        · have := h4 j (by omega); omega
      · right
        refine ⟨i, by omega, by simp [h], h3, fun j hj => ?_⟩
        by_cases e : j = k
        · rw [e]; omega
        · exact h4 j (by omega)
structure GS where
  g : Nat
  out : List Int
  sh : List Int
def shUp (n : Nat) (g m : Nat) (most : Int) (sh : List Int) : Nat → List Int
  | 0 => sh
  | k + 1 => if m.testBit k && !g.testBit k then (shUp n g m most sh k).set k most else shUp n g m most sh k
/-- The next step: none if all is covered or nothing helps. -/
def gstep (n : Nat) (ms : List Nat) (s : GS) : GS :=
  let b := best ms s.g
  ⟨s.g ||| nth ms b.1.toNat, s.out ++ [b.1], shUp n s.g (nth ms b.1.toNat) b.2 s.sh n⟩
def giter (n : Nat) (ms : List Nat) : Nat → GS
  | 0 => ⟨0, [], List.replicate n 0⟩
  | k + 1 => gstep n ms (giter n ms k)
theorem shUp_len (n g m : Nat) (most : Int) (sh : List Int) : ∀ k, (shUp n g m most sh k).length = sh.length
  | 0 => rfl
  | k + 1 => by rw [shUp]; split <;> simp [shUp_len n g m most sh k]
theorem nth_set' {l : List Int} {i : Nat} {v : Int} (hi : i < l.length) (j : Nat) : nth (l.set i v) j = if j = i then v else nth l j := by
  simp only [nth, List.getD, List.getElem?_set]
  by_cases e : i = j
  · subst e; simp [hi]
  · rw [if_neg e, if_neg (fun h => e h.symm)]
theorem shUp_nth (n g m : Nat) (most : Int) (sh : List Int) (hl : n ≤ sh.length) : ∀ k, k ≤ n → ∀ j, nth (shUp n g m most sh k) j = if j < k ∧ m.testBit j = true ∧ g.testBit j = false then most else nth sh j
  | 0, _, j => by simp [shUp]
  | k + 1, hk, j => by
    rw [shUp]
    have ih := shUp_nth n g m most sh hl k (by omega) j
    have hlen := shUp_len n g m most sh k
    by_cases h : (m.testBit k && !g.testBit k) = true
    · rw [if_pos h, nth_set' (by omega)]
      by_cases e : j = k
      · subst e
        have : m.testBit j = true ∧ g.testBit j = false := by simpa using h
        simp [this]
      · rw [if_neg e, ih]
        have : (j < k + 1) = (j < k) := by apply propext; omega
        simp only [this]
    · rw [if_neg h, ih]
      by_cases e : j = k
      · subst e
        have : ¬ (m.testBit j = true ∧ g.testBit j = false) := by simpa using h
        rw [if_neg (by omega), if_neg (fun h2 => this ⟨h2.2.1, h2.2.2⟩)]
      · have : (j < k + 1) = (j < k) := by apply propext; omega
        simp only [this]
theorem giter_sh (n : Nat) (ms : List Nat) : ∀ k, (giter n ms k).sh.length = n
  | 0 => by simp [giter]
  | k + 1 => by simp only [giter, gstep]; rw [shUp_len, giter_sh n ms k]
theorem giter_out (n : Nat) (ms : List Nat) : ∀ k, (giter n ms k).out.length = k
  | 0 => rfl
  | k + 1 => by simp [giter, gstep, giter_out n ms k]
/-- The sets are of numbers below n. -/
def MsOk (n : Nat) (ms : List Nat) : Prop := ∀ m ∈ ms, ∀ i, m.testBit i = true → i < n
/-- k steps were good ones. -/
def GOk (n : Nat) (ms : List Nat) (k : Nat) : Prop := ∀ j, j < k → fr (giter n ms j).g (fullN n) ≠ 0 ∧ ∃ i, i < ms.length ∧ best ms (giter n ms j).g = ((i : Int), fr (giter n ms j).g (nth ms i)) ∧ 0 < fr (giter n ms j).g (nth ms i)
theorem nth_mem {α : Type} [Inhabited α] {l : List α} {i : Nat} (h : i < l.length) : nth l i ∈ l := by rw [nth_get h]; exact List.getElem_mem h
theorem giter_left {n : Nat} {ms : List Nat} (hm : MsOk n ms) : ∀ {k : Nat}, GOk n ms k → fr (giter n ms k).g (fullN n) + k ≤ fr 0 (fullN n)
  | 0, _ => by simp [giter]
  | k + 1, h => by
    have ih := giter_left hm (k := k) (fun j hj => h j (by omega))
    obtain ⟨h1, i, h2, h3, h4⟩ := h k (by omega)
    have h5 := fr_after (g := (giter n ms k).g) (n := n) (hm (nth ms i) (nth_mem h2))
    simp only [giter, gstep, h3, Int.toNat_natCast]
    omega
theorem fr_full {n : Nat} (h : n ≤ 32) : fr 0 (fullN n) = n := by
  rw [fr_sum]
  have key : ∀ k, k ≤ 32 → sumB (fun i => (fullN n).testBit i && !(0 : Nat).testBit i) k = min k n := by
    intro k
    induction k with
    | zero => simp [sumB]
    | succ k ih =>
      intro hk
      rw [sumB, ih (by omega), fullN_bit, Nat.zero_testBit]
      by_cases h : k < n <;> simp [h] <;> omega
  rw [key 32 (Nat.le_refl _)]; omega
theorem giter_bd {n : Nat} {ms : List Nat} (hn : n ≤ 32) (hm : MsOk n ms) {k : Nat} (h : GOk n ms k) : k ≤ n := by
  have := giter_left hm h
  rw [fr_full hn] at this; omega
/-- All numbers are in some set. -/
def unTo (ms : List Nat) : Nat → Nat
  | 0 => 0
  | k + 1 => unTo ms k ||| nth ms k
theorem unTo_bit (ms : List Nat) (i : Nat) : ∀ k, (unTo ms k).testBit i = true ↔ ∃ j, j < k ∧ (nth ms j).testBit i = true
  | 0 => by simp [unTo]
  | k + 1 => by
    rw [unTo, Nat.testBit_or, Bool.or_eq_true, unTo_bit ms i k]
    constructor
    · rintro (⟨j, h1, h2⟩ | h)
      · exact ⟨j, by omega, h2⟩
      · exact ⟨k, by omega, h⟩
    · rintro ⟨j, h1, h2⟩
      by_cases e : j = k
      · subst e; exact .inr h2
      · exact .inl ⟨j, by omega, h2⟩
def possN (n : Nat) (ms : List Nat) : Bool := decide (fr (unTo ms ms.length) (fullN n) = 0)
theorem possN_iff {n : Nat} {ms : List Nat} (hn : n ≤ 32) : possN n ms = true ↔ ∀ i, i < n → ∃ j, j < ms.length ∧ (nth ms j).testBit i = true := by
  rw [possN, decide_eq_true_eq, fr_zero]
  constructor
  · intro h i hi
    exact (unTo_bit ms i _).1 (h i (by omega) (by rw [fullN_bit]; simpa using hi))
  · intro h i _ h2
    rw [fullN_bit, decide_eq_true_eq] at h2
    exact (unTo_bit ms i _).2 (h i h2)
theorem best_pos {n : Nat} {ms : List Nat} (hn : n ≤ 32) (hp : possN n ms = true) {g : Nat} (hg : fr g (fullN n) ≠ 0) : ∃ i, i < ms.length ∧ best ms g = ((i : Int), fr g (nth ms i)) ∧ 0 < fr g (nth ms i) := by
  rcases bestTo_spec ms g ms.length with ⟨_, h2⟩ | ⟨i, h1, h2, h3, _⟩
  · exfalso
    apply hg
    rw [fr_zero]
    intro i hi h4
    rw [fullN_bit, decide_eq_true_eq] at h4
    obtain ⟨j, h5, h6⟩ := (possN_iff hn).1 hp i h4
    exact fr_zero.1 (h2 j h5) i hi h6
  · exact ⟨i, h1, h2, h3⟩
theorem giter_in {n : Nat} {ms : List Nat} : ∀ {k : Nat}, GOk n ms k → ∀ i, (giter n ms k).g.testBit i = true → ∃ j, j < ms.length ∧ (nth ms j).testBit i = true
  | 0, _, i, h => by simp [giter] at h
  | k + 1, hk, i, h => by
    obtain ⟨_, j, h2, h3, _⟩ := hk k (by omega)
    simp only [giter, gstep, h3, Int.toNat_natCast, Nat.testBit_or, Bool.or_eq_true] at h
    rcases h with h | h
    · exact giter_in (fun j hj => hk j (by omega)) i h
    · exact ⟨j, h2, h⟩
/-- If the greedy cover covers all, all numbers are in some set. -/
theorem poss_of_done {n : Nat} {ms : List Nat} (hn : n ≤ 32) {k : Nat} (h : GOk n ms k) (h0 : fr (giter n ms k).g (fullN n) = 0) : possN n ms = true := by
  rw [possN_iff hn]
  intro i hi
  exact giter_in h i (fr_zero.1 h0 i (by omega) (by rw [fullN_bit]; simpa using hi))
theorem done_one {n : Nat} {ms : List Nat} {k k' : Nat} (h : GOk n ms k) (h0 : fr (giter n ms k).g (fullN n) = 0) (h' : GOk n ms k') (h0' : fr (giter n ms k').g (fullN n) = 0) : k = k' := by
  rcases Nat.lt_trichotomy k k' with h1 | h1 | h1
  · exact absurd h0 (h' k h1).1
  · exact h1
  · exact absurd h0' (h k' h1).1
/-- The greedy cover, where there is one. -/
theorem gdone {n : Nat} {ms : List Nat} (hn : n ≤ 32) (hm : MsOk n ms) (hp : possN n ms = true) : ∃ k, GOk n ms k ∧ fr (giter n ms k).g (fullN n) = 0 := by
  have key : ∀ d k, GOk n ms k → fr (giter n ms k).g (fullN n) = d → ∃ k, GOk n ms k ∧ fr (giter n ms k).g (fullN n) = 0 := by
    intro d
    induction d using Nat.strongRecOn with
    | _ d ih =>
      intro k hk hd
      by_cases h0 : d = 0
      · exact ⟨k, hk, by omega⟩
      · obtain ⟨i, h1, h2, h3⟩ := best_pos hn hp (g := (giter n ms k).g) (by omega)
        have h5 := fr_after (g := (giter n ms k).g) (n := n) (hm (nth ms i) (nth_mem h1))
        refine ih _ ?_ (k + 1) (fun j hj => ?_) rfl
        · simp only [giter, gstep, h2, Int.toNat_natCast]; omega
        · by_cases e : j = k
          · subst e; exact ⟨by omega, i, h1, h2, h3⟩
          · exact hk j (by omega)
  exact key _ 0 (fun j hj => by omega) rfl
theorem sumB_lt {f g : Nat → Bool} {k j : Nat} (h : ∀ i, i < k → f i = true → g i = true) (hj : j < k) (h1 : f j = false) (h2 : g j = true) : sumB f k < sumB g k := by
  have e : sumB g k ≥ sumB f k + sumB (fun i => decide (i = j)) k := by
    clear hj
    induction k with
    | zero => simp [sumB]
    | succ k ih =>
      have i1 := ih (fun i hi => h i (by omega))
      have i2 := h k (by omega)
      simp only [sumB]
      by_cases e : k = j
      · subst e; simp [h1, h2]; omega
      · simp only [e, decide_false, Bool.toNat_false]
        cases hf : f k <;> cases hg : g k <;> simp_all <;> omega
  rw [sumB_one hj] at e; omega
theorem fr_mono {g m m' : Nat} : fr (g ||| m') m ≤ fr g m := by
  rw [fr_sum, fr_sum]
  refine sumB_le fun i _ h => ?_
  rw [Nat.testBit_or] at h
  cases h1 : m.testBit i <;> cases h2 : g.testBit i <;> simp_all
theorem fr_self {g m : Nat} : fr (g ||| m) m = 0 := by
  rw [fr_zero]
  intro i _ h
  rw [Nat.testBit_or, h, Bool.or_true]
/-- No set is taken twice. -/
theorem giter_few {n : Nat} {ms : List Nat} : ∀ {k : Nat}, GOk n ms k → sumB (fun i => decide (fr (giter n ms k).g (nth ms i) ≠ 0)) ms.length + k ≤ ms.length
  | 0, _ => sumB_bd _
  | k + 1, h => by
    have ih := giter_few (k := k) (fun j hj => h j (by omega))
    obtain ⟨h1, i, h2, h3, h4⟩ := h k (by omega)
    have h5 : sumB (fun i => decide (fr (giter n ms (k + 1)).g (nth ms i) ≠ 0)) ms.length < sumB (fun i => decide (fr (giter n ms k).g (nth ms i) ≠ 0)) ms.length := by
      refine sumB_lt (fun j _ h5 => ?_) h2 ?_ ?_
      · simp only [giter, gstep, h3, Int.toNat_natCast, ne_eq, decide_eq_true_eq] at h5 ⊢
        have := fr_mono (g := (giter n ms k).g) (m := nth ms j) (m' := nth ms i)
        omega
      · simp only [giter, gstep, h3, Int.toNat_natCast]
        rw [fr_self]; rfl
      · simp; omega
    omega
theorem lt_of_bits {m n : Nat} (hn : n ≤ 30) (h : ∀ i, m.testBit i = true → i < n) : m < 1073741824 := by
  have : m < 2 ^ 30 := Nat.lt_pow_two_of_testBit m fun i hi => by
    cases e : m.testBit i
    · rfl
    · have := h i e; omega
  simpa using this
theorem nth_drop {α : Type} [Inhabited α] (l : List α) (f k : Nat) : nth (l.drop f) k = nth l (f + k) := by
  simp [nth, List.getD]
theorem msOk_nth {n : Nat} {ms : List Nat} (h : MsOk n ms) (i j : Nat) (hb : (nth ms i).testBit j = true) : j < n := by
  by_cases hi : i < ms.length
  · exact h _ (nth_mem hi) j hb
  · have : nth ms i = 0 := by simp only [nth, List.getD, List.getElem?_eq_none (show ms.length ≤ i by omega)]; rfl
    rw [this] at hb; simp at hb
theorem unTo_in {n : Nat} {ms : List Nat} (h : MsOk n ms) {k i : Nat} (hb : (unTo ms k).testBit i = true) : i < n := by
  obtain ⟨j, _, h2⟩ := (unTo_bit ms i k).1 hb
  exact msOk_nth h _ _ h2
theorem giter_bits {n : Nat} {ms : List Nat} (hm : MsOk n ms) : ∀ {k : Nat} {i : Nat}, (giter n ms k).g.testBit i = true → i < n
  | 0, i, h => by simp [giter] at h
  | k + 1, i, h => by
    simp only [giter, gstep, Nat.testBit_or, Bool.or_eq_true] at h
    rcases h with h | h
    · exact giter_bits hm h
    · exact msOk_nth hm _ _ h
theorem giter_share {n : Nat} {ms : List Nat} : ∀ {k : Nat}, GOk n ms k → ∀ j, j < n → (giter n ms k).g.testBit j = true → 1 ≤ nth (giter n ms k).sh j ∧ nth (giter n ms k).sh j ≤ 32
  | 0, _, j, _, h => by simp [giter] at h
  | k + 1, hk, j, hj, h => by
    obtain ⟨_, i, h2, h3, h4⟩ := hk k (by omega)
    have ih := giter_share (k := k) (fun j hj => hk j (by omega)) j hj
    have h5 := giter_sh n ms k
    have h6 := fr_le (giter n ms k).g (nth ms i)
    simp only [giter, gstep, h3, Int.toNat_natCast] at h ⊢
    rw [shUp_nth _ _ _ _ _ (by omega) n (Nat.le_refl _)]
    rw [Nat.testBit_or, Bool.or_eq_true] at h
    by_cases e : (giter n ms k).g.testBit j = true
    · rw [if_neg (by simp [e])]; exact ih e
    · have e2 : (nth ms i).testBit j = true := by rcases h with h | h; exact absurd h e; exact h
      rw [if_pos ⟨hj, e2, by simpa using e⟩]
      omega
/-- The widest set. -/
def widTo (ms : List Nat) : Nat → Nat
  | 0 => 1
  | k + 1 => max (widTo ms k) (fr 0 (nth ms k))
theorem widTo_bd (ms : List Nat) : ∀ k, 1 ≤ widTo ms k ∧ widTo ms k ≤ 32
  | 0 => by simp [widTo]
  | k + 1 => by have := widTo_bd ms k; have := fr_le 0 (nth ms k); simp only [widTo]; omega
def wid (ms : List Nat) : Nat := widTo ms ms.length
def scaleTo : Nat → Int
  | 0 => 0
  | k + 1 => scaleTo k + 27720 / ((k : Int) + 1)
theorem scaleTo_bd : ∀ k, 0 ≤ scaleTo k ∧ scaleTo k ≤ 27720 * k
  | 0 => by simp [scaleTo]
  | k + 1 => by
    have := scaleTo_bd k
    have h1 : (0 : Int) ≤ 27720 / ((k : Int) + 1) := Int.ediv_nonneg (by decide) (by omega)
    have h2 : (27720 : Int) / ((k : Int) + 1) ≤ 27720 := Int.ediv_le_self _ (by decide)
    simp only [scaleTo]; omega
/-- The sum of what lies at the numbers of a set. -/
def psum (l : List Int) (m : Nat) : Nat → Int
  | 0 => 0
  | k + 1 => psum l m k + if m.testBit k = true then nth l k else 0
def sumTo (l : List Int) : Nat → Int
  | 0 => 0
  | k + 1 => sumTo l k + nth l k
theorem psum_bd {l : List Int} {B : Int} (h : ∀ k, 0 ≤ nth l k ∧ nth l k ≤ B) (m : Nat) : ∀ k, 0 ≤ psum l m k ∧ psum l m k ≤ B * k
  | 0 => by simp [psum]
  | k + 1 => by
    have h1 := psum_bd h m k
    have h2 := h k
    have e : B * ((k + 1 : Nat) : Int) = B * k + B := by rw [Int.natCast_add, Int.mul_add]; simp
    simp only [psum, e]; split <;> omega
theorem sumTo_bd {l : List Int} {B : Int} (h : ∀ k, 0 ≤ nth l k ∧ nth l k ≤ B) : ∀ k, 0 ≤ sumTo l k ∧ sumTo l k ≤ B * k
  | 0 => by simp [sumTo]
  | k + 1 => by
    have h1 := sumTo_bd h k
    have h2 := h k
    have e : B * ((k + 1 : Nat) : Int) = B * k + B := by rw [Int.natCast_add, Int.mul_add]; simp
    simp only [sumTo, e]; omega
def cvL (n g : Nat) : List Bool := (List.range n).map fun i => g.testBit i
theorem cvL_len (n g : Nat) : (cvL n g).length = n := by simp [cvL]
theorem cvL_nth {n i : Nat} (h : i < n) (g : Nat) : nth (cvL n g) i = g.testBit i := by rw [nth_get (by rw [cvL_len]; exact h)]; simp [cvL]
theorem cvL_set {n i : Nat} (h : i < n) (g : Nat) : (cvL n g).set i true = cvL n (g ||| 2 ^ i) := by
  apply List.ext_getElem
  · simp [cvL_len]
  · intro j h1 h2
    rw [List.getElem_set]
    simp only [cvL, List.getElem_map, List.getElem_range, Nat.testBit_or, Nat.testBit_two_pow]
    by_cases e : i = j
    · rw [if_pos e]; simp [e]
    · rw [if_neg e]; simp [e]
theorem cvL_same {n i g : Nat} (h : g.testBit i = true) : cvL n (g ||| 2 ^ i) = cvL n g := by
  simp only [cvL]
  congr 1
  funext j
  rw [Nat.testBit_or, Nat.testBit_two_pow]
  by_cases e : i = j
  · subst e; simp [h]
  · simp [e]
theorem cvL_zero (n : Nat) : List.replicate n false = cvL n 0 := by
  apply List.ext_getElem
  · simp [cvL_len]
  · intro j h1 h2; simp [cvL]
theorem psum_put {l : List Int} {m x : Nat} : ∀ {k : Nat}, x < k → psum l (m ||| 2 ^ x) k = psum l m k + if m.testBit x = true then 0 else nth l x
  | 0, h => by omega
  | k + 1, h => by
    have e : ∀ j, ¬ x = j → (m ||| 2 ^ x).testBit j = m.testBit j := fun j hj => by rw [Nat.testBit_or, Nat.testBit_two_pow]; simp [hj]
    by_cases hx : x = k
    · subst hx
      have h1 : ∀ q, q ≤ x → psum l (m ||| 2 ^ x) q = psum l m q := by
        intro q
        induction q with
        | zero => intro _; rfl
        | succ q ih => intro hq; rw [psum, psum, ih (by omega), e q (by omega)]
      have h2 : (m ||| 2 ^ x).testBit x = true := by rw [Nat.testBit_or, Nat.testBit_two_pow]; simp
      rw [psum, psum, h1 x (Nat.le_refl _), h2, if_pos rfl]
      split <;> omega
    · have ih := psum_put (l := l) (m := m) (x := x) (k := k) (by omega)
      rw [psum, psum, ih, e k hx]; omega
end Go.Sx

set_option autoImplicit false
set_option maxRecDepth 100000
namespace Go.Proofs.Ytomjbfeafodfbaa
open Go.Sx
open Enc (enc val)
def wavB (a : List Int) : Bool := a.all fun x => inB x (-32768) 32767
structure WavOk (a : List Int) : Prop where
  l : a.length ≤ 100000
  b : ∀ x ∈ a, -32768 ≤ x ∧ x ≤ 32767
theorem WavOk.at {a : List Int} (h : WavOk a) (i : Nat) : -32768 ≤ nth a i ∧ nth a i ≤ 32767 := by
  by_cases hi : i < a.length
  · exact h.b _ (nth_mem hi)
  · simp only [nth, List.getD, List.getElem?_eq_none (show a.length ≤ i by omega)]; simp
theorem WavOk.no {a : List Int} (h : WavOk a) : (a.any fun x => decide (x < -32768) || decide (32767 < x)) = false := by
  rw [List.any_eq_false]
  intro x hx
  have := h.b x hx
  simp; omega
theorem wav1_spec (xs : List Int) : PredL Try.prog 57 #[] (fun x : Int => decide (x < -32768) || decide (32767 < x)) (fun _ => True) xs := fun x _ w _ => by
  refine calls_cw (vs := [_]) Try.func57 rfl Try.ntmps57 rfl (Cl.start0 w) (cw_seq (cw_region (sr rfl rfl rfl ((q_assign rfl rfl)) (sw_nil (post_then (cw_seq (cw_region (sr rfl rfl rfl ((q_move rfl rfl)) (sr rfl rfl rfl ((q_lss rfl rfl rfl)) (sr rfl rfl rfl ((q_move rfl rfl)) (sr rfl rfl rfl ((q_move rfl rfl)) (sr rfl rfl rfl ((q_gtr rfl rfl rfl)) (sr rfl rfl rfl ((q_or2 rfl rfl rfl)) (sr rfl rfl rfl ((q_assign rfl rfl)) (sw_nil (post_then (cw_ret (post_ret1 rfl (resOk_tmp rfl) ?_))))))))))))))))))
  exact fun w' hw => ⟨rfl, hw⟩
theorem wave_spec (sv : Value) (a : List Int) (w : World) (hl : Stb w [] (RdL sv a)) (ok : WavOk a) : Calls Try.prog 38 #[sv] w fun e w' => e = .returned (.int .i64 0) ∧ Cl w [] [] w' := by
  have hL := ok.l
  have hno := ok.no
  refine calls_cw (vs := [_]) Try.func38 rfl Try.ntmps38 rfl (Cl.start0 w) (cw_seq (cw_region (sr rfl rfl rfl ((q_assign rfl rfl)) (sw_nil (post_then (cw_seq (cw_seq (cw_region (sr rfl rfl rfl ((q_move rfl rfl)) ?_)))))))))
  refine sr rfl rfl rfl ((q_len rfl (.cons rfl inferInstance (.nil)) (by exact fun w hw => Stb.cl (by assumption) hw))) ?_
  refine sr rfl rfl rfl ((q_gtr rfl rfl rfl)) (sw_nil (post_then ?_))
  refine cw_cond rfl (fun h => ?_) (fun h => ?_)
  · skip
    simp only [decide_eq_true_eq] at h; omega
  · skip
    refine cw_skip (post_then (cw_seq (cw_seq (cw_region (sr rfl rfl rfl ((q_move rfl rfl)) ?_)))))
    refine sw_step rfl rfl rfl (q_call (CanCall.mk Try.call56) rfl (.cons rfl inferInstance (.cons rfl inferInstance (.nil))) (fun _ w hw => callq hw (containsInt_spec _ _ _ _ _ _ w (by exact stb_arg hw (by assumption)) (stb_true w []) (CanCall.mk Try.call57) (wav1_spec _)))) ?_
    refine sw_nil (post_then ?_)
    refine cw_cond rfl (fun h2 => ?_) (fun h2 => ?_)
    · skip
      rw [hno] at h2; cases h2
    · skip
      refine cw_skip (post_then (cw_seq (cw_region (sr rfl rfl rfl ((q_assign rfl rfl)) (sw_nil (post_then (cw_ret (post_ret1 rfl (resOk_tmp rfl) ?_))))))))
      exact fun w' hw => ⟨rfl, hw⟩
/-- All slices read as waves. -/
def WavRd (vs : List SlV) (ls : List (List Int)) (w : World) : Prop := ∀ s ∈ vs, ∃ l ∈ ls, RdL s.v l w
theorem waves1_spec (vs : List SlV) (ls : List (List Int)) (ok : ∀ l ∈ ls, WavOk l) : PredL Try.prog 36 #[] (fun _ : SlV => false) (WavRd vs ls) vs := fun s hs w hR => by
  obtain ⟨l, hl, hrd⟩ := hR s hs
  have hln := hrd.len
  have hL := (ok l hl).l
  refine calls_cw (vs := [_]) Try.func36 rfl Try.ntmps36 rfl (Cl.start0 w) (cw_seq (cw_region (sr rfl rfl rfl ((q_assign rfl rfl)) (sw_nil (post_then (cw_seq (cw_region (sr rfl rfl rfl ((q_move rfl rfl)) (sr rfl rfl rfl ((q_lenV rfl (.cons rfl inferInstance (.nil)))) (sr rfl rfl rfl ((q_gtr rfl rfl rfl)) (sr rfl rfl rfl ((q_assign rfl rfl)) (sw_nil (post_then (cw_ret (post_ret1 rfl (resOk_tmp rfl) ?_)))))))))))))))
  exact fun w' hw => ⟨by rw [decide_eq_false (by omega)], hw⟩
theorem waves2_spec (vs : List SlV) (ls : List (List Int)) (ok : ∀ l ∈ ls, WavOk l) : PredL Try.prog 37 #[] (fun _ : SlV => false) (WavRd vs ls) vs := fun s hs w hR => by
  obtain ⟨l, hl, hrd⟩ := hR s hs
  have hrd := rd_stb hrd
  refine calls_cw (vs := [_]) Try.func37 rfl Try.ntmps37 rfl (Cl.start0 w) (cw_seq (cw_region (sr rfl rfl rfl ((q_assign rfl rfl)) (sw_nil (post_then (cw_seq (cw_region (sr rfl rfl rfl ((q_move rfl rfl)) (sw_step rfl rfl rfl (q_call (CanCall.mk Try.call38) rfl (.cons rfl inferInstance (.nil)) (fun _ w hw => callq hw (wave_spec _ l w (stb_arg hw hrd) (ok l hl)))) (sr rfl rfl rfl ((q_neq rfl rfl rfl)) (sr rfl rfl rfl ((q_assign rfl rfl)) (sw_nil (post_then (cw_ret (post_ret1 rfl (resOk_tmp rfl) ?_)))))))))))))))
  exact fun w' hw => ⟨rfl, hw⟩
theorem any_no (vs : List SlV) : (vs.any fun _ => false) = false := by simp
theorem waves_spec (sv : Value) (vs : List SlV) (ls : List (List Int)) (w : World) (hl : Stb w [] (RdL sv vs)) (hr : Stb w [] (WavRd vs ls)) (ok : ∀ l ∈ ls, WavOk l) : Calls Try.prog 15 #[sv] w fun e w' => e = .returned (.int .i64 0) ∧ Cl w [] [] w' := by
  have hno := any_no vs
  refine calls_cw (vs := [_]) Try.func15 rfl Try.ntmps15 rfl (Cl.start0 w) (cw_seq (cw_region (sr rfl rfl rfl ((q_assign rfl rfl)) (sw_nil (post_then (cw_seq (cw_seq (cw_region (sr rfl rfl rfl ((q_move rfl rfl)) (sw_step rfl rfl rfl (q_call (CanCall.mk Try.call28) rfl (.cons rfl inferInstance (.cons rfl inferInstance (.nil))) (fun _ w hw => callq hw (containsRow_spec _ vs _ _ _ _ w (stb_arg hw hl) (stb_arg hw hr) (CanCall.mk Try.call36) (waves1_spec vs ls ok)))) (sw_nil (post_then ?_))))))))))))
  refine cw_cond rfl (fun h => ?_) (fun h => ?_)
  · skip
    rw [hno] at h; cases h
  · skip
    refine cw_skip (post_then (cw_seq (cw_seq (cw_region (sr rfl rfl rfl ((q_move rfl rfl)) (sw_step rfl rfl rfl (q_call (CanCall.mk Try.call28) rfl (.cons rfl inferInstance (.cons rfl inferInstance (.nil))) (fun _ w hw => callq hw (containsRow_spec _ vs _ _ _ _ w (stb_arg hw hl) (stb_arg hw hr) (CanCall.mk Try.call37) (waves2_spec vs ls ok)))) (sw_nil (post_then ?_))))))))
    refine cw_cond rfl (fun h2 => ?_) (fun h2 => ?_)
    · skip
      rw [hno] at h2; cases h2
    · skip
      refine cw_skip (post_then (cw_seq (cw_region (sr rfl rfl rfl ((q_assign rfl rfl)) (sw_nil (post_then (cw_ret (post_ret1 rfl (resOk_tmp rfl) ?_))))))))
      exact fun w' hw => ⟨rfl, hw⟩
theorem exists_spec (sa sb : SlV) (a b : List Int) (n k : Int) (w : World) (ha : Stb w [] (RdL sa.v a)) (hb : Stb w [] (RdL sb.v b)) (h1 : 1 ≤ n) (h2 : n ≤ a.length) (h3 : n ≤ b.length) (h4 : 0 ≤ k ∧ k ≤ b.length - n) : Calls Try.prog 39 #[sa.v, sb.v, .int .i64 n, .int .i64 k] w fun e w' => e = .returned (.bool true) ∧ Cl w [] [] w' := by
  have hL1 := rd_len ha.here
  have hL2 := rd_len hb.here
  refine calls_cw (vs := [_, _, _, _]) Try.func39 rfl Try.ntmps39 rfl (Cl.start0 w) (cw_seq (cw_region (sr rfl rfl rfl ((q_assign rfl rfl)) (sw_nil (post_then (cw_seq (cw_region (sr rfl rfl rfl ((q_move rfl rfl)) (sr rfl rfl rfl ((q_geq rfl rfl rfl)) (sr rfl rfl rfl ((q_move rfl rfl)) (sr rfl rfl rfl ((q_move rfl rfl)) (sr rfl rfl rfl ((q_move rfl rfl)) ?_))))))))))))
  refine sr rfl rfl rfl ((q_len rfl (.cons rfl inferInstance (.nil)) (by exact fun w hw => Stb.cl (by assumption) hw))) ?_
  refine sr rfl rfl rfl ((q_leq rfl rfl rfl)) (sr rfl rfl rfl ((q_and2 rfl rfl rfl)) (sr rfl rfl rfl ((q_move rfl rfl)) (sr rfl rfl rfl ((q_move rfl rfl)) (sr rfl rfl rfl ((q_move rfl rfl)) ?_))))
  refine sr rfl rfl rfl ((q_len rfl (.cons rfl inferInstance (.nil)) (by exact fun w hw => Stb.cl (by assumption) hw))) ?_
  refine sr rfl rfl rfl ((q_leq rfl rfl rfl)) (sr rfl rfl rfl ((q_and2 rfl rfl rfl)) (sr rfl rfl rfl ((q_move rfl rfl)) (sr rfl rfl rfl ((q_move rfl rfl)) (sr rfl rfl rfl ((q_geq rfl rfl rfl)) (sr rfl rfl rfl ((q_and2 rfl rfl rfl)) (sr rfl rfl rfl ((q_move rfl rfl)) (sr rfl rfl rfl ((q_move rfl rfl)) (sr rfl rfl rfl ((q_move rfl rfl)) ?_))))))))
  refine sr rfl rfl rfl ((q_len rfl (.cons rfl inferInstance (.nil)) (by exact fun w hw => Stb.cl (by assumption) hw))) ?_
  refine sr rfl rfl rfl ((q_move rfl rfl)) ?_
  refine sr rfl rfl rfl ((q_sub rfl rfl rfl (by intro hc; omega))) ?_
  refine sr rfl rfl rfl ((q_leq rfl rfl rfl)) (sr rfl rfl rfl ((q_and2 rfl rfl rfl)) (sr rfl rfl rfl ((q_assign rfl rfl)) (sw_nil (post_then (cw_ret (post_ret1 rfl (resOk_tmp rfl) ?_))))))
  refine fun w' hw => ⟨?_, hw⟩
  rw [decide_eq_true h1, decide_eq_true h2, decide_eq_true h3, decide_eq_true h4.1, decide_eq_true h4.2]
  rfl
theorem mul_ab {a b A B : Int} (ha : -A ≤ a ∧ a ≤ A) (hb : -B ≤ b ∧ b ≤ B) : -(A * B) ≤ a * b ∧ a * b ≤ A * B := by
  have hA : 0 ≤ A := by omega
  have hB : 0 ≤ B := by omega
  rcases Int.le_total 0 a with h1 | h1 <;> rcases Int.le_total 0 b with h2 | h2
  · have := Int.mul_nonneg h1 h2
    have := Int.mul_le_mul ha.2 hb.2 h2 hA
    omega
  · have h3 := Int.mul_nonneg h1 (show 0 ≤ -b by omega)
    have h4 := Int.mul_le_mul ha.2 (show -b ≤ B by omega) (show 0 ≤ -b by omega) hA
    rw [Int.mul_neg] at h3 h4
    omega
  · have h3 := Int.mul_nonneg (show 0 ≤ -a by omega) h2
    have h4 := Int.mul_le_mul (show -a ≤ A by omega) hb.2 h2 hA
    rw [Int.neg_mul] at h3 h4
    omega
  · have h3 := Int.mul_nonneg (show 0 ≤ -a by omega) (show 0 ≤ -b by omega)
    have h4 := Int.mul_le_mul (show -a ≤ A by omega) (show -b ≤ B by omega) (show 0 ≤ -b by omega) hA
    rw [Int.neg_mul_neg] at h3 h4
    omega
theorem rounded_pos (b q : Int) (hb : 1 ≤ b ∧ b ≤ 1000000) (hq : 0 ≤ q ∧ q ≤ 1000000) (w : World) : Calls Try.prog 40 #[.int .i64 (b * q), .int .i64 b] w fun e w' => e = .returned (.int .i64 q) ∧ Cl w [] [] w' := by
  have hm := mul_bd (a := b) (b := q) ⟨by omega, hb.2⟩ hq
  refine calls_cw (vs := [_, _]) Try.func40 rfl Try.ntmps40 rfl (Cl.start0 w) (cw_seq (cw_region (sr rfl rfl rfl ((q_assign rfl rfl)) (sw_nil (post_then (cw_seq (cw_seq (cw_region (sr rfl rfl rfl ((q_move rfl rfl)) (sr rfl rfl rfl ((q_lss rfl rfl rfl)) (sw_nil (post_then ?_))))))))))))
  refine cw_cond rfl (fun h => ?_) (fun h => ?_)
  · skip
    exfalso
    simp only [decide_eq_true_eq] at h; omega
  · skip
    refine cw_skip (post_then (cw_seq (cw_region (sr rfl rfl rfl ((q_move rfl rfl)) ?_))))
    refine sr rfl rfl rfl ((q_mul rfl rfl rfl (by intro hc; omega))) ?_
    refine sr rfl rfl rfl ((q_move rfl rfl)) ?_
    refine sr rfl rfl rfl ((q_add rfl rfl rfl (by intro hc; omega))) ?_
    refine sr rfl rfl rfl ((q_move rfl rfl)) ?_
    refine sr rfl rfl rfl ((q_mul rfl rfl rfl (by intro hc; omega))) ?_
    refine sr rfl rfl rfl ((q_quo rfl rfl rfl (by intro hc; omega))) ?_
    refine sr rfl rfl rfl ((q_assign rfl rfl)) (sw_nil (post_then (cw_ret (post_ret1 rfl (resOk_tmp rfl) ?_))))
    refine fun w' hw => ⟨?_, hw⟩
    congr 2
    have e : 2 * (b * q) + b = 2 * b * q + b := by rw [Int.mul_assoc]
    first
    | (rw [Int.tdiv_eq_ediv_of_nonneg (by omega)])
    | skip
    rw [e, Int.add_comm, Int.add_mul_ediv_left _ _ (by omega), Int.ediv_eq_zero_of_lt (by omega) (by omega), Int.zero_add]
theorem rounded_spec (b q : Int) (hb : 1 ≤ b ∧ b ≤ 1000000) (hq : -1000000 ≤ q ∧ q ≤ 1000000) (w : World) : Calls Try.prog 40 #[.int .i64 (b * q), .int .i64 b] w fun e w' => e = .returned (.int .i64 q) ∧ Cl w [] [] w' := by
  rcases Int.le_total 0 q with h0 | h0
  · exact rounded_pos b q hb ⟨h0, hq.2⟩ w
  by_cases hz : q = 0
  · exact rounded_pos b q hb ⟨by omega, hq.2⟩ w
  have hm := mul_bd (a := b) (b := -q) ⟨by omega, hb.2⟩ (show 0 ≤ -q ∧ -q ≤ 1000000 by omega)
  rw [Int.mul_neg] at hm
  have hneg : b * q < 0 := by
    have := Int.mul_le_mul hb.1 (show 1 ≤ -q by omega) (by omega) (by omega)
    rw [Int.mul_neg] at this
    omega
  refine calls_cw (vs := [_, _]) Try.func40 rfl Try.ntmps40 rfl (Cl.start0 w) (cw_seq (cw_region (sr rfl rfl rfl ((q_assign rfl rfl)) (sw_nil (post_then (cw_seq (cw_seq (cw_region (sr rfl rfl rfl ((q_move rfl rfl)) (sr rfl rfl rfl ((q_lss rfl rfl rfl)) (sw_nil (post_then ?_))))))))))))
  refine cw_cond rfl (fun h => ?_) (fun h => ?_)
  · skip
    refine cw_seq (cw_region (sr rfl rfl rfl ((q_move rfl rfl)) ?_))
    refine sr rfl rfl rfl ((q_neg rfl rfl (by intro hc; omega))) ?_
    refine sr rfl rfl rfl ((q_move rfl rfl)) ?_
    refine sw_step rfl rfl rfl (q_call (CanCall.mk Try.call40) rfl (.cons rfl inferInstance (.cons rfl inferInstance (.nil))) (fun _ w hw => callq hw (by have := rounded_pos b (-q) hb (by omega) w; rw [Int.mul_neg] at this; exact this))) ?_
    refine sr rfl rfl rfl ((q_neg rfl rfl (by intro hc; omega))) ?_
    refine sr rfl rfl rfl ((q_assign rfl rfl)) (sw_nil (post_then (cw_ret (post_then_r (post_ret1 rfl (resOk_tmp rfl) ?_)))))
    exact fun w' hw => ⟨by rw [Int.neg_neg], hw⟩
  · skip
    exfalso
    simp only [decide_eq_false_iff_not] at h; omega
/-- What a crossfade must be, where it is exact. -/
structure FadeOk (x y q : List Int) : Prop where
  lx : x.length ≤ 1000
  ly : y.length = x.length
  lq : q.length = x.length
  bx : ∀ i, -32768 ≤ nth x i ∧ nth x i ≤ 32767
  by' : ∀ i, -32768 ≤ nth y i ∧ nth y i ≤ 32767
  bq : ∀ i, -32768 ≤ nth q i ∧ nth q i ≤ 32767
  eq : ∀ i, i < x.length → ((x.length : Int) - i) * nth x i + ((i : Int) + 1) * nth y i = ((x.length : Int) + 1) * nth q i
theorem fade_self {x : List Int} (h : WavOk x) (hl : x.length ≤ 1000) : FadeOk x x x := ⟨hl, rfl, rfl, h.at, h.at, h.at, fun i hi => by rw [← Int.add_mul]; congr 1; omega⟩
theorem fade_spec (sx sy : SlV) (x y q : List Int) (w : World) (hx : Stb w [] (RdL sx.v x)) (hy : Stb w [] (RdL sy.v y)) (ok : FadeOk x y q) : Calls Try.prog 20 #[sx.v, sy.v] w fun e w' => ∃ r : SlV, e = .returned r.v ∧ True ∧ Cl w [] [ownL 3 r.v q] w' := by
  have hl := ok.lx
  have hly := ok.ly
  have hlq := ok.lq
  refine calls_cw (vs := [_, _]) Try.func20 rfl Try.ntmps20 rfl (Cl.start0 w) (cw_seq (cw_region (sr rfl rfl rfl ((q_assign rfl rfl)) (sw_nil (post_then (cw_seq (cw_region (sr rfl rfl rfl ((q_move rfl rfl)) ?_))))))))
  refine sr rfl rfl rfl ((q_len rfl (.cons rfl inferInstance (.nil)) (by exact fun w hw => Stb.cl (by assumption) hw))) ?_
  refine sr rfl rfl rfl ((q_assign rfl rfl)) (sw_nil (post_then (cw_seq (cw_region (sr rfl rfl rfl ((q_move rfl rfl)) ?_)))))
  refine sw_x rfl rfl rfl (e_make (α := Int) (zero := 0) rfl rfl rfl rfl rfl (by omega) (by omega) (by decide)) (fun s11 => ?_)
  rw [Int.toNat_natCast]
  refine sr rfl rfl rfl ((q_assign rfl rfl)) (sw_nil (post_then (cw_seq (cw_seq (cw_region (sr rfl rfl rfl ((q_move rfl rfl)) ?_))))))
  refine sr rfl rfl rfl ((q_len rfl (.cons rfl inferInstance (.nil)) (by exact fun w hw => rd_own hw (by exact .head _)))) ?_
  refine sr rfl rfl rfl ((q_move rfl rfl)) (sw_nil (post_then (cw_block ?_)))
  refine cw_loop (S := Nat) (fun i => [(0, [], sx.v), (1, [], sy.v), (5, [], .int .i64 x.length), (6, [], s11.v), (13, [], .int .i64 x.length), (14, [], .int .i64 i)]) (fun i => Cl w [] [ownL 3 s11.v (q.take i ++ List.replicate (x.length - i) 0)]) (fun i => i ≤ x.length) (fun i => x.length - i) 0 (Nat.zero_le _) ?_ (fun _ h => h) ?_
  · exact Le.cons rfl (Le.cons rfl (Le.cons rfl (Le.cons rfl (Le.cons' rfl (by congr 1; simp) (Le.cons rfl Le.nil)))))
  intro i hi
  have hcl : (q.take i ++ List.replicate (x.length - i) (0 : Int)).length = x.length := by simp; omega
  refine cw_seq (cw_region (sr rfl rfl rfl ((q_lss rfl rfl rfl)) (sw_nil (post_then (cw_seq ?_)))))
  refine cw_cond rfl (fun h => ?_) (fun h => ?_)
  · skip
    have hi' : i < x.length := by simp only [decide_eq_true_eq] at h; omega
    have hx1 := ok.bx i
    have hy1 := ok.by' i
    have hm1 := mul_ab (a := (x.length : Int) - i) (b := nth x i) (A := 1000) (B := 32768) (by omega) (by omega)
    have hm2 := mul_ab (a := (i : Int) + 1) (b := nth y i) (A := 1001) (B := 32768) (by omega) (by omega)
    have hrd : ∀ w, Calls Try.prog 40 #[.int .i64 (((x.length : Int) - i) * nth x i + ((i : Int) + 1) * nth y i), .int .i64 ((x.length : Int) + 1)] w fun e w' => e = .returned (.int .i64 (nth q i)) ∧ Cl w [] [] w' := fun w => by
      have := rounded_spec ((x.length : Int) + 1) (nth q i) (by omega) (by have := ok.bq i; omega) w
      rw [← ok.eq i hi'] at this
      exact this
    refine cw_skip (post_then (cw_seq (cw_block (cw_seq (cw_region (sr rfl rfl rfl ((q_move rfl rfl)) (sr rfl rfl rfl ((q_assign rfl rfl)) (sw_nil (post_then (cw_region_a (Cl w [] [ownL 3 s11.v (q.take i ++ List.replicate (x.length - i) 0)]) [22] mixed_Try ?_))))))))))
    refine aw_pure 0 rfl (by kernel_rfl) (by kernel_rfl) (by kernel_rfl) (by kernel_rfl) (by kernel_rfl) rfl rfl rfl (q_move rfl rfl) ?_
    refine aw_pure 1 rfl (by kernel_rfl) (by kernel_rfl) (by kernel_rfl) (by kernel_rfl) (by kernel_rfl) rfl rfl rfl (q_move rfl rfl) ?_
    refine aw_pure 2 rfl (by kernel_rfl) (by kernel_rfl) (by kernel_rfl) (by kernel_rfl) (by kernel_rfl) rfl rfl rfl (q_move rfl rfl) ?_
    refine aw_pure 3 rfl (by kernel_rfl) (by kernel_rfl) (by kernel_rfl) (by kernel_rfl) (by kernel_rfl) rfl rfl rfl (q_move rfl rfl) ?_
    refine aw_pure 4 rfl (by kernel_rfl) (by kernel_rfl) (by kernel_rfl) (by kernel_rfl) (by kernel_rfl) rfl rfl rfl (q_sub rfl rfl rfl (by intro hc; omega)) ?_
    refine aw_pure 5 rfl (by kernel_rfl) (by kernel_rfl) (by kernel_rfl) (by kernel_rfl) (by kernel_rfl) rfl rfl rfl (q_move rfl rfl) ?_
    refine aw_pure 6 rfl (by kernel_rfl) (by kernel_rfl) (by kernel_rfl) (by kernel_rfl) (by kernel_rfl) rfl rfl rfl (q_move rfl rfl) ?_
    refine aw_take 7 (fun w h => Cl.sel (by exact .take 0 rfl (.nil _)) w h) rfl (by kernel_rfl) (by kernel_rfl) (by kernel_rfl) (by kernel_rfl) (by kernel_rfl) (by kernel_rfl) rfl rfl rfl (q_indexN rfl rfl rfl (by exact fun w hw => Stb.cl (by assumption) hw) (by intro hc; omega)) ?_
    refine aw_take 8 (fun w h => Cl.sel (by exact .take 0 rfl (.nil _)) w h) rfl (by kernel_rfl) (by kernel_rfl) (by kernel_rfl) (by kernel_rfl) (by kernel_rfl) (by kernel_rfl) rfl rfl rfl (q_loadEl rfl rfl rfl (by exact fun w hw => Stb.cl (by assumption) hw) (by intro hc; omega)) ?_
    refine aw_pure 9 rfl (by kernel_rfl) (by kernel_rfl) (by kernel_rfl) (by kernel_rfl) (by kernel_rfl) rfl rfl rfl (q_mul rfl rfl rfl (by intro hc; omega)) ?_
    refine aw_pure 10 rfl (by kernel_rfl) (by kernel_rfl) (by kernel_rfl) (by kernel_rfl) (by kernel_rfl) rfl rfl rfl (q_move rfl rfl) ?_
    refine aw_pure 11 rfl (by kernel_rfl) (by kernel_rfl) (by kernel_rfl) (by kernel_rfl) (by kernel_rfl) rfl rfl rfl (q_add rfl rfl rfl (by intro hc; omega)) ?_
    refine aw_pure 12 rfl (by kernel_rfl) (by kernel_rfl) (by kernel_rfl) (by kernel_rfl) (by kernel_rfl) rfl rfl rfl (q_move rfl rfl) ?_
    refine aw_pure 13 rfl (by kernel_rfl) (by kernel_rfl) (by kernel_rfl) (by kernel_rfl) (by kernel_rfl) rfl rfl rfl (q_move rfl rfl) ?_
    refine aw_take 14 (fun w h => Cl.sel (by exact .take 0 rfl (.nil _)) w h) rfl (by kernel_rfl) (by kernel_rfl) (by kernel_rfl) (by kernel_rfl) (by kernel_rfl) (by kernel_rfl) rfl rfl rfl (q_indexN rfl rfl rfl (by exact fun w hw => Stb.cl (by assumption) hw) (by intro hc; omega)) ?_
    refine aw_take 15 (fun w h => Cl.sel (by exact .take 0 rfl (.nil _)) w h) rfl (by kernel_rfl) (by kernel_rfl) (by kernel_rfl) (by kernel_rfl) (by kernel_rfl) (by kernel_rfl) rfl rfl rfl (q_loadEl rfl rfl rfl (by exact fun w hw => Stb.cl (by assumption) hw) (by intro hc; omega)) ?_
    refine aw_pure 16 rfl (by kernel_rfl) (by kernel_rfl) (by kernel_rfl) (by kernel_rfl) (by kernel_rfl) rfl rfl rfl (q_mul rfl rfl rfl (by intro hc; omega)) ?_
    refine aw_pure 17 rfl (by kernel_rfl) (by kernel_rfl) (by kernel_rfl) (by kernel_rfl) (by kernel_rfl) rfl rfl rfl (q_add rfl rfl rfl (by intro hc; omega)) ?_
    refine aw_pure 18 rfl (by kernel_rfl) (by kernel_rfl) (by kernel_rfl) (by kernel_rfl) (by kernel_rfl) rfl rfl rfl (q_move rfl rfl) ?_
    refine aw_pure 19 rfl (by kernel_rfl) (by kernel_rfl) (by kernel_rfl) (by kernel_rfl) (by kernel_rfl) rfl rfl rfl (q_add rfl rfl rfl (by intro hc; omega)) ?_
    refine aw_q 20 (by kernel_rfl) rfl rfl rfl rfl (q_call (CanCall.mk Try.call40) rfl (.cons rfl inferInstance (.cons rfl inferInstance (.nil))) (fun _ w hw => callq hw (hrd w))) (by intro hb; exact (fun w h => Cl.sel (by exact .take 0 rfl (.nil _)) w h)) ?_
    refine aw_take 21 (fun w h => Cl.sel (by exact .take 0 rfl (.nil _)) w h) rfl (by kernel_rfl) (by kernel_rfl) (by kernel_rfl) (by kernel_rfl) (by kernel_rfl) (by kernel_rfl) rfl rfl rfl (q_indexN rfl rfl rfl (by exact fun w hw => rd_own hw (by exact .head _)) (by intro hc; omega)) ?_
    refine aw_one0 22 (by kernel_rfl) rfl rfl rfl (e_storeEl1 (i := 0) rfl rfl rfl rfl rfl (by omega)) (by intro hb; (exact absurd hb (by decide))) ?_
    refine aw_end (by kernel_rfl) ?_
    refine post_blk (post_then (cw_region ?_))
    refine sr rfl rfl rfl ((q_add rfl rfl rfl (by intro hc; omega))) ?_
    refine sr rfl rfl rfl ((q_move rfl rfl)) (sw_nil ?_)
    have hset : (q.take i ++ List.replicate (x.length - i) (0 : Int)).set i (nth q i) = q.take (i + 1) ++ List.replicate (x.length - (i + 1)) 0 := by
      have hiq : i < q.length := by omega
      rw [List.set_append_right _ _ (by simp; omega), List.length_take, Nat.min_eq_left (by omega), Nat.sub_self, show x.length - i = (x.length - (i + 1)) + 1 by omega, List.replicate_succ, List.set_cons_zero, List.take_succ_eq_append_getElem hiq, nth_get hiq, List.append_assoc]
      rfl
    exact post_next (i + 1) (by exact .cons rfl (.cons rfl (.cons rfl (.cons rfl (.cons rfl (.cons rfl .nil)))))) (fun w3 hw3 => by rw [← hset]; exact hw3) (by omega) (by omega)
  · skip
    have hi' : i = x.length := by simp only [decide_eq_false_iff_not] at h; omega
    subst hi'
    rw [Nat.sub_self, List.replicate_zero, List.append_nil, List.take_of_length_le (by omega)]
    refine cw_exit (post_then_x (post_then_x (post_blk_eq (post_then (cw_seq (cw_region (sr rfl rfl rfl ((q_move rfl rfl)) (sr rfl rfl rfl ((q_assign rfl rfl)) (sw_nil (post_then (cw_ret (post_ret1 rfl (resOk_tmp rfl) ?_))))))))))))
    exact fun w' hw => ⟨s11, rfl, trivial, hw⟩
theorem refIn7_spec (x lo hi : Int) (w : World) : Calls Try.prog 19 #[.int .i64 x, .int .i64 lo, .int .i64 hi] w fun e w' => e = .returned (.bool (inB x lo hi)) ∧ Cl w [] [] w' := by
  refine calls_cw (vs := [_, _, _]) Try.func19 rfl Try.ntmps19 rfl (Cl.start0 w) (cw_seq (cw_region (sr rfl rfl rfl ((q_assign rfl rfl)) (sw_nil (post_then (cw_seq (cw_region (sr rfl rfl rfl ((q_move rfl rfl)) (sr rfl rfl rfl ((q_move rfl rfl)) (sr rfl rfl rfl ((q_geq rfl rfl rfl)) (sr rfl rfl rfl ((q_move rfl rfl)) (sr rfl rfl rfl ((q_move rfl rfl)) (sr rfl rfl rfl ((q_move rfl rfl)) (sr rfl rfl rfl ((q_leq rfl rfl rfl)) (sr rfl rfl rfl ((q_and2 rfl rfl rfl)) (sr rfl rfl rfl ((q_assign rfl rfl)) (sw_nil (post_then (cw_ret (post_ret1 rfl (resOk_tmp rfl) ?_))))))))))))))))))))
  exact fun w' hw => ⟨rfl, hw⟩
theorem samples_spec (sv : SlV) (a : List Int) (w : World) (hl : Stb w [] (RdL sv.v a)) : Calls Try.prog 9 #[sv.v] w fun e w' => e = .returned (.bool (wavB a)) ∧ Cl w [] [] w' := by
  have hL := rd_len hl.here
  refine calls_cw (vs := [_]) Try.func9 rfl Try.ntmps9 rfl (Cl.start0 w) (cw_seq (cw_region (sr rfl rfl rfl ((q_assign rfl rfl)) (sw_nil (post_then (cw_seq (cw_seq (cw_region (sr rfl rfl rfl ((q_assign rfl rfl)) (sw_nil (post_then (cw_block ?_))))))))))))
  refine cw_loop (S := Nat) (fun k => [(0, [], sv.v), (3, [], .int .i64 k)]) (fun _ => Cl w [] []) (fun k => k ≤ a.length ∧ ∀ j, j < k → inB (nth a j) (-32768) 32767 = true) (fun k => a.length - k) 0 ⟨Nat.zero_le _, fun j hj => by omega⟩ (by exact .cons rfl (.cons rfl .nil)) (fun _ h => h) ?_
  rintro k ⟨hk, hb⟩
  refine cw_seq (cw_seq (cw_region (sr rfl rfl rfl ((q_move rfl rfl)) (sr rfl rfl rfl ((q_move rfl rfl)) ?_))))
  refine sr rfl rfl rfl ((q_len rfl (.cons rfl inferInstance (.nil)) (by exact fun w hw => Stb.cl (by assumption) hw))) ?_
  refine sr rfl rfl rfl ((q_lss rfl rfl rfl)) (sw_nil (post_then ?_))
  refine cw_cond rfl (fun h => ?_) (fun h => ?_)
  · skip
    have hk' : k < a.length := by simp only [decide_eq_true_eq] at h; omega
    refine cw_skip (post_then (cw_seq (cw_block (cw_seq (cw_region (sr rfl rfl rfl ((q_move rfl rfl)) (sr rfl rfl rfl ((q_move rfl rfl)) ?_)))))))
    refine sr rfl rfl rfl ((q_indexN rfl rfl rfl (by exact fun w hw => Stb.cl (by assumption) hw) (by intro hc; omega))) ?_
    refine sr rfl rfl rfl ((q_loadEl rfl rfl rfl (by exact fun w hw => Stb.cl (by assumption) hw) (by intro hc; omega))) ?_
    refine sw_step rfl rfl rfl (q_call (CanCall.mk Try.call19) rfl (.cons rfl inferInstance (.cons rfl inferInstance (.cons rfl inferInstance (.nil)))) (fun _ w hw => callq hw (refIn7_spec _ _ _ w))) (sr rfl rfl rfl ((q_not rfl rfl)) (sw_nil (post_then ?_)))
    refine cw_cond rfl (fun h2 => ?_) (fun h2 => ?_)
    · skip
      refine cw_seq (cw_region (sr rfl rfl rfl ((q_assign rfl rfl)) (sw_nil (post_then (cw_ret (post_blk_r (post_then_r (post_then_r (post_blk_r (post_then_r (post_ret1 rfl (resOk_tmp rfl) ?_)))))))))))
      have : wavB a = false := List.all_eq_false.2 ⟨nth a k, nth_mem hk', by simpa using h2⟩
      exact fun w' hw => ⟨by rw [this], hw⟩
    · skip
      refine cw_skip (post_blk (post_then (cw_region (sr rfl rfl rfl ((q_move rfl rfl)) ?_))))
      refine sr rfl rfl rfl ((q_add rfl rfl rfl (by intro hc; omega))) ?_
      refine sr rfl rfl rfl ((q_assign rfl rfl)) (sw_nil ?_)
      refine post_next (k + 1) (by exact .cons rfl (.cons rfl .nil)) (fun _ h => h) ⟨by omega, fun j hj => ?_⟩ (by omega)
      by_cases e : j = k
      · rw [e]; simpa using h2
      · exact hb j (by omega)
  · skip
    have hk' : k = a.length := by simp only [decide_eq_false_iff_not] at h; omega
    subst hk'
    have : wavB a = true := List.all_eq_true.2 fun x hx => by
      obtain ⟨i, hi, rfl⟩ := List.getElem_of_mem hx
      have := hb i hi
      rwa [nth_get hi] at this
    refine cw_exit (post_then_x (post_then_x (post_blk_eq (post_then (cw_seq (cw_region (sr rfl rfl rfl ((q_assign rfl rfl)) (sw_nil (post_then (cw_ret (post_ret1 rfl (resOk_tmp rfl) ?_)))))))))))
    exact fun w' hw => ⟨by rw [this], hw⟩
def wavR (a : List Int) : Int := if 100000 < a.length then 4 else if wavB a then 0 else 2
theorem refWave_spec (sv : SlV) (a : List Int) (w : World) (hl : Stb w [] (RdL sv.v a)) : Calls Try.prog 4 #[sv.v] w fun e w' => e = .returned (.int .i64 (wavR a)) ∧ Cl w [] [] w' := by
  have hL := rd_len hl.here
  refine calls_cw (vs := [_]) Try.func4 rfl Try.ntmps4 rfl (Cl.start0 w) (cw_seq (cw_region (sr rfl rfl rfl ((q_assign rfl rfl)) (sw_nil (post_then (cw_seq (cw_seq (cw_region (sr rfl rfl rfl ((q_move rfl rfl)) ?_)))))))))
  refine sr rfl rfl rfl ((q_len rfl (.cons rfl inferInstance (.nil)) (by exact fun w hw => Stb.cl (by assumption) hw))) ?_
  refine sr rfl rfl rfl ((q_gtr rfl rfl rfl)) (sw_nil (post_then ?_))
  refine cw_cond rfl (fun h => ?_) (fun h => ?_)
  · skip
    have h1 : 100000 < a.length := by simp only [decide_eq_true_eq] at h; omega
    refine cw_seq (cw_region (sr rfl rfl rfl ((q_assign rfl rfl)) (sw_nil (post_then (cw_ret (post_then_r (post_ret1 rfl (resOk_tmp rfl) ?_)))))))
    exact fun w' hw => ⟨by rw [wavR, if_pos h1], hw⟩
  · skip
    have h1 : ¬ 100000 < a.length := by simp only [decide_eq_false_iff_not] at h; omega
    refine cw_skip (post_then (cw_seq (cw_seq (cw_region (sr rfl rfl rfl ((q_move rfl rfl)) (sw_step rfl rfl rfl (q_call (CanCall.mk Try.call9) rfl (.cons rfl inferInstance (.nil)) (fun _ w hw => callq hw (samples_spec sv a w (stb_arg hw hl)))) (sr rfl rfl rfl ((q_not rfl rfl)) (sw_nil (post_then ?_)))))))))
    refine cw_cond rfl (fun h2 => ?_) (fun h2 => ?_)
    · skip
      have h3 : wavB a = false := by simpa using h2
      refine cw_seq (cw_region (sr rfl rfl rfl ((q_assign rfl rfl)) (sw_nil (post_then (cw_ret (post_then_r (post_ret1 rfl (resOk_tmp rfl) ?_)))))))
      exact fun w' hw => ⟨by rw [wavR, if_neg h1, h3]; rfl, hw⟩
    · skip
      have h3 : wavB a = true := by simpa using h2
      refine cw_skip (post_then (cw_seq (cw_region (sr rfl rfl rfl ((q_assign rfl rfl)) (sw_nil (post_then (cw_ret (post_ret1 rfl (resOk_tmp rfl) ?_))))))))
      exact fun w' hw => ⟨by rw [wavR, if_neg h1, h3]; rfl, hw⟩
theorem wavR_ok {a : List Int} (h : wavR a = 0) : WavOk a := by
  unfold wavR at h
  split at h
  · cases h
  · rename_i h1
    split at h
    · rename_i h2
      refine ⟨by omega, fun x hx => ?_⟩
      have := List.all_eq_true.1 h2 x hx
      simp only [inB, Bool.and_eq_true, decide_eq_true_eq] at this
      exact this
    · cases h
theorem same7_true (sa sb : Value) (a b : List Int) (h : a = b) (w : World) (ha : Stb w [] (RdL sa a)) (hb : Stb w [] (RdL sb b)) : Calls Try.prog 8 #[sa, sb] w fun e w' => e = .returned (.bool true) ∧ Cl w [] [] w' := by
  subst h
  have hL := rd_len ha.here
  refine calls_cw (vs := [_, _]) Try.func8 rfl Try.ntmps8 rfl (Cl.start0 w) (cw_seq (cw_region (sr rfl rfl rfl ((q_assign rfl rfl)) (sw_nil (post_then (cw_seq (cw_seq (cw_region (sr rfl rfl rfl ((q_move rfl rfl)) ?_)))))))))
  refine sr rfl rfl rfl ((q_len rfl (.cons rfl inferInstance (.nil)) (by exact fun w hw => Stb.cl (by assumption) hw))) ?_
  refine sr rfl rfl rfl ((q_move rfl rfl)) ?_
  refine sr rfl rfl rfl ((q_len rfl (.cons rfl inferInstance (.nil)) (by exact fun w hw => Stb.cl (by assumption) hw))) ?_
  refine sr rfl rfl rfl ((q_neq rfl rfl rfl)) (sw_nil (post_then ?_))
  refine cw_cond rfl (fun h => ?_) (fun h => ?_)
  · skip
    simp at h
  · skip
    clear h
    refine cw_skip (post_then (cw_seq (cw_seq (cw_region (sr rfl rfl rfl ((q_assign rfl rfl)) (sw_nil (post_then (cw_block ?_))))))))
    refine cw_loop (S := Nat) (fun k => [(0, [], sa), (1, [], sb), (5, [], .int .i64 k)]) (fun _ => Cl w [] []) (fun k => k ≤ a.length) (fun k => a.length - k) 0 (Nat.zero_le _) (by exact .cons rfl (.cons rfl (.cons rfl .nil))) (fun _ h => h) ?_
    intro k hk
    refine cw_seq (cw_seq (cw_region (sr rfl rfl rfl ((q_move rfl rfl)) (sr rfl rfl rfl ((q_move rfl rfl)) ?_))))
    refine sr rfl rfl rfl ((q_len rfl (.cons rfl inferInstance (.nil)) (by exact fun w hw => Stb.cl (by assumption) hw))) ?_
    refine sr rfl rfl rfl ((q_lss rfl rfl rfl)) (sw_nil (post_then ?_))
    refine cw_cond rfl (fun h => ?_) (fun h => ?_)
    · skip
      have hk' : k < a.length := by simp only [decide_eq_true_eq] at h; omega
      refine cw_skip (post_then (cw_seq (cw_block (cw_seq ?_))))
      refine cw_region_q mixed_Try (by kernel_rfl) ?_
      refine qr rfl rfl rfl ((q_move rfl rfl)) (qr rfl rfl rfl ((q_move rfl rfl)) ?_)
      refine qr rfl rfl rfl ((q_indexN rfl rfl rfl (by exact fun w hw => Stb.cl (by assumption) hw) (by intro hc; omega))) ?_
      refine qr rfl rfl rfl ((q_loadEl rfl rfl rfl (by exact fun w hw => Stb.cl (by assumption) hw) (by intro hc; omega))) ?_
      refine qr rfl rfl rfl ((q_move rfl rfl)) (qr rfl rfl rfl ((q_move rfl rfl)) ?_)
      refine qr rfl rfl rfl ((q_indexN rfl rfl rfl (by exact fun w hw => Stb.cl (by assumption) hw) (by intro hc; omega))) ?_
      refine qr rfl rfl rfl ((q_loadEl rfl rfl rfl (by exact fun w hw => Stb.cl (by assumption) hw) (by intro hc; omega))) ?_
      refine qr rfl rfl rfl ((q_neq rfl rfl rfl)) (qw_end (post_then ?_))
      refine cw_cond rfl (fun h2 => ?_) (fun h2 => ?_)
      · skip
        simp at h2
      · skip
        refine cw_skip (post_blk (post_then (cw_region (sr rfl rfl rfl ((q_move rfl rfl)) ?_))))
        refine sr rfl rfl rfl ((q_add rfl rfl rfl (by intro hc; omega))) ?_
        refine sr rfl rfl rfl ((q_assign rfl rfl)) (sw_nil ?_)
        exact post_next (k + 1) (by exact .cons rfl (.cons rfl (.cons rfl .nil))) (fun _ h => h) (by omega) (by omega)
    · skip
      refine cw_exit (post_then_x (post_then_x (post_blk_eq (post_then (cw_seq (cw_region (sr rfl rfl rfl ((q_assign rfl rfl)) (sw_nil (post_then (cw_ret (post_ret1 rfl (resOk_tmp rfl) ?_)))))))))))
      exact fun w' hw => ⟨rfl, hw⟩
theorem clone7_spec (s : SlV) (l : List Int) (hlen : l.length ≤ 1000000) (w : World) (hs : Stb w [] (RdL s.v l)) : Calls Try.prog 16 #[s.v] w fun e w' => ∃ r : SlV, e = .returned r.v ∧ True ∧ Cl w [] [ownL 3 r.v l] w' := by
  have hL := rd_len hs.here
  refine calls_cw (vs := [_]) Try.func16 rfl Try.ntmps16 rfl (Cl.start0 w) ?_
  have hnil : s.addr = none → l = [] := fun h0 => rd_nil hs.here h0
  refine cw_seq (cw_region (sr rfl rfl rfl ((q_assign rfl rfl)) (sw_nil (post_then (cw_seq (cw_seq (cw_region (sr rfl rfl rfl ((q_move rfl rfl)) (sr rfl rfl rfl ((q_eqlNil rfl rfl)) (sw_nil (post_then ?_)))))))))))
  refine cw_cond rfl (fun h => ?_) (fun h => ?_)
  · skip
    rw [hnil (by simpa using h)]
    refine cw_seq (cw_region (sr rfl rfl rfl ((q_assign rfl rfl)) (sw_nil (post_then (cw_ret (post_then_r (post_ret1 rfl (resOk_tmp rfl) ?_)))))))
    exact fun w' hw => ⟨⟨none, 0, 0⟩, rfl, trivial, hw.addNil (α := Int) 3⟩
  · skip
    refine cw_skip (post_then (cw_seq (cw_region ?_)))
    refine sw_x rfl rfl rfl (e_buildL (α := Int) (l := []) (ps := []) rfl .nil rfl rfl rfl rfl) (fun s5 => ?_)
    refine sr rfl rfl rfl ((q_move rfl rfl)) ?_
    refine sw_x rfl rfl rfl (e_append (i := 0) rfl (.cons rfl inferInstance (.cons rfl inferInstance (.nil))) rfl rfl (by exact fun w hw => Stb.cl (by assumption) hw) (by simp only [List.length_set, List.length_append, List.length_cons, List.length_nil, List.length_replicate, List.length_take, List.length_drop, List.length_map]; omega) rfl) (fun s7 => ?_)
    refine sr rfl rfl rfl ((q_assign rfl rfl)) (sw_nil (post_then (cw_ret (post_ret1 rfl (resOk_tmp rfl) ?_))))
    exact fun w' hw => ⟨_, rfl, trivial, hw⟩
end Go.Proofs.Ytomjbfeafodfbaa

set_option autoImplicit false
set_option maxRecDepth 100000
namespace Go.Proofs.Ytomjbfeafodfbaa
open Go.Sx
open Enc (enc val)
theorem nth_dropP {l : List Int} (k i : Nat) : nth (l.drop k) i = nth l (k + i) := by simp [nth, List.getD, List.getElem?_drop]
theorem nth_takeP {l : List Int} {k i : Nat} (h : i < k) : nth (l.take k) i = nth l i := by simp [nth, List.getD, List.getElem?_take, h]
theorem lag_spec (sa sb : SlV) (a b : List Int) (n : Nat) (r : Int) (w : World) (ha : Stb w [] (RdL sa.v a)) (hb : Stb w [] (RdL sb.v b)) (oa : WavOk a) (ob : WavOk b) (h1 : 1 ≤ n) (h2 : n ≤ a.length) (h3 : n ≤ b.length) (hr : 0 ≤ r ∧ r ≤ 1000) (hn : n ≤ 1000) (hfit : a.drop (a.length - n) = b.take n) :
    Calls Try.prog 17 #[sa.v, sb.v, .int .i64 n, .int .i64 r] w fun e w' => e = .returned (.tuple #[.int .i64 0, .int .i64 0, .bool true]) ∧ Cl w [] [] w' := by
  have la := oa.l
  have lb := ob.l
  have hat : ∀ i, i < n → nth a (a.length - n + i) = nth b i := fun i hi => by
    rw [← nth_dropP, hfit, nth_takeP hi]
  refine calls_cw (vs := [_, _, _, _]) Try.func17 rfl Try.ntmps17 rfl (Cl.start0 w) (cw_seq (cw_region (sr rfl rfl rfl ((q_assign rfl rfl)) (sr rfl rfl rfl ((q_assign rfl rfl)) (sr rfl rfl rfl ((q_assign rfl rfl)) (sw_nil (post_then (cw_scope (cw_seq (cw_seq (cw_region (sr rfl rfl rfl ((q_move rfl rfl)) (sr rfl rfl rfl ((q_move rfl rfl)) (sr rfl rfl rfl ((q_move rfl rfl)) ?_))))))))))))))
  refine sw_step rfl rfl rfl (q_call (CanCall.mk Try.call39) rfl (.cons rfl inferInstance (.cons rfl inferInstance (.cons rfl inferInstance (.cons rfl inferInstance (.nil))))) (fun _ w hw => callq hw (exists_spec sa sb a b n 0 w (stb_arg hw ha) (stb_arg hw hb) (by omega) (by omega) (by omega) (by omega)))) ?_
  refine sr rfl rfl rfl ((q_not rfl rfl)) (sw_nil (post_then ?_))
  refine cw_cond rfl (fun h => ?_) (fun h => ?_)
  · skip
    cases h
  · skip
    clear h
    refine cw_skip (post_then (cw_seq (cw_region (sr rfl rfl rfl ((q_assign rfl rfl)) (sr rfl rfl rfl ((q_assign rfl rfl)) (sw_nil (post_then (cw_seq (cw_label (post_then (cw_seq (cw_seq (cw_region (sr rfl rfl rfl ((q_assign rfl rfl)) (sw_nil (post_then (cw_block ?_)))))))))))))))))
    refine cw_loop (S := Nat) (fun k => [(0, [], sa.v), (1, [], sb.v), (2, [], .int .i64 n), (3, [], .int .i64 r), (11, [], .int .i64 (if k = 0 then -1 else 0)), (12, [], .int .i64 0), (13, [], .int .i64 k)]) (fun _ => Cl w [] []) (fun k => k ≤ b.length - n + 1) (fun k => b.length - n + 1 - k) 0 (Nat.zero_le _) (by exact .cons rfl (.cons rfl (.cons rfl (.cons rfl (.cons rfl (.cons rfl (.cons rfl .nil))))))) (fun _ h => h) ?_
    intro k hk
    refine cw_seq (cw_seq (cw_region (sr rfl rfl rfl ((q_move rfl rfl)) (sr rfl rfl rfl ((q_move rfl rfl)) (sr rfl rfl rfl ((q_move rfl rfl)) ?_)))))
    refine sr rfl rfl rfl ((q_len rfl (.cons rfl inferInstance (.nil)) (by exact fun w hw => Stb.cl (by assumption) hw))) ?_
    refine sr rfl rfl rfl ((q_move rfl rfl)) ?_
    refine sr rfl rfl rfl ((q_sub rfl rfl rfl (by intro hc; omega))) ?_
    refine sr rfl rfl rfl ((q_min rfl (.cons rfl inferInstance (.cons rfl inferInstance (.nil))))) (sr rfl rfl rfl ((q_leq rfl rfl rfl)) (sw_nil (post_then ?_)))
    refine cw_cond rfl (fun h => ?_) (fun h => ?_)
    · skip
      have hk' : k ≤ b.length - n := by simp only [decide_eq_true_eq] at h; omega
      have e1 : ((a.length : Int) - n).toNat = a.length - n := by omega
      have e2 : (sa.sub 1 (a.length - n) a.length).len = n := by simp only [SlV.sub]; omega
      refine cw_skip (post_then (cw_seq (cw_block (cw_seq (cw_region (sr rfl rfl rfl ((q_assign rfl rfl)) (sw_nil (post_then (cw_seq (cw_seq (cw_region (sr rfl rfl rfl ((q_move rfl rfl)) (sr rfl rfl rfl ((q_move rfl rfl)) ?_)))))))))))))
      refine sr rfl rfl rfl ((q_len rfl (.cons rfl inferInstance (.nil)) (by exact fun w hw => Stb.cl (by assumption) hw))) ?_
      refine sr rfl rfl rfl ((q_move rfl rfl)) ?_
      refine sr rfl rfl rfl ((q_sub rfl rfl rfl (by intro hc; omega))) ?_
      refine sr rfl rfl rfl ((q_sliceL rfl rfl rfl (by exact fun w hw => Stb.cl (by assumption) hw) (by intro hc; omega))) ?_
      refine sr rfl rfl rfl ((q_lenV rfl (.cons rfl inferInstance (.nil)))) (sr rfl rfl rfl ((q_move rfl rfl)) (sw_nil (post_then (cw_block ?_))))
      rw [e1, e2]
      by_cases hk0 : k = 0
      · subst hk0
        refine cw_loop (S := Nat) (fun i => [(0, [], sa.v), (1, [], sb.v), (2, [], .int .i64 n), (3, [], .int .i64 r), (11, [], .int .i64 (-1)), (12, [], .int .i64 0), (13, [], .int .i64 (0 : Nat)), (14, [], .int .i64 0), (37, [], (sa.sub 1 (a.length - n) a.length).v), (38, [], .int .i64 n), (39, [], .int .i64 i)]) (fun _ => Cl w [] []) (fun i => i ≤ n) (fun i => n - i) 0 (Nat.zero_le _) (by exact .cons rfl (.cons rfl (.cons rfl (.cons rfl (.cons rfl (.cons rfl (.cons rfl (.cons rfl (.cons rfl (.cons rfl (.cons rfl .nil))))))))))) (fun _ h => h) ?_
        intro i hi
        refine cw_seq (cw_region (sr rfl rfl rfl ((q_lss rfl rfl rfl)) (sw_nil (post_then (cw_seq ?_)))))
        refine cw_cond rfl (fun h5 => ?_) (fun h5 => ?_)
        · skip
          have hi' : i < n := by simp only [decide_eq_true_eq] at h5; omega
          have hd : nth a (a.length - n + i) = nth b (0 + i) := by rw [Nat.zero_add]; exact hat i hi'
          have hb1 := ob.at (0 + i)
          have hz : (nth a (a.length - n + i) - nth b (0 + i)) * (nth a (a.length - n + i) - nth b (0 + i)) = 0 := by rw [hd, Int.sub_self]; rfl
          refine cw_skip (post_then (cw_seq (cw_block (cw_seq (cw_region (sr rfl rfl rfl ((q_move rfl rfl)) ?_))))))
          refine sr rfl rfl rfl ((q_indexSub rfl rfl rfl (by exact fun w hw => Stb.cl (by assumption) hw) rfl (by intro hc; omega))) ?_
          refine sr rfl rfl rfl ((q_loadEl rfl rfl rfl (by exact fun w hw => Stb.cl (by assumption) hw) (by intro hc; omega))) ?_
          refine sr rfl rfl rfl ((q_assign rfl rfl)) (sr rfl rfl rfl ((q_assign rfl rfl)) (sw_nil (post_then (cw_seq ?_))))
          refine cw_region_q mixed_Try (by kernel_rfl) ?_
          refine qr rfl rfl rfl ((q_move rfl rfl)) (qr rfl rfl rfl ((q_move rfl rfl)) (qr rfl rfl rfl ((q_move rfl rfl)) (qr rfl rfl rfl ((q_move rfl rfl)) (qr rfl rfl rfl ((q_move rfl rfl)) ?_))))
          refine qr rfl rfl rfl ((q_add rfl rfl rfl (by intro hc; omega))) ?_
          refine qr rfl rfl rfl ((q_indexN rfl rfl rfl (by exact fun w hw => Stb.cl (by assumption) hw) (by intro hc; omega))) ?_
          refine qr rfl rfl rfl ((q_loadEl rfl rfl rfl (by exact fun w hw => Stb.cl (by assumption) hw) (by intro hc; omega))) ?_
          refine qr rfl rfl rfl ((q_sub rfl rfl rfl (by intro hc; omega))) ?_
          refine qr rfl rfl rfl ((q_move rfl rfl)) (qr rfl rfl rfl ((q_move rfl rfl)) (qr rfl rfl rfl ((q_move rfl rfl)) (qr rfl rfl rfl ((q_move rfl rfl)) ?_)))
          refine qr rfl rfl rfl ((q_add rfl rfl rfl (by intro hc; omega))) ?_
          refine qr rfl rfl rfl ((q_indexN rfl rfl rfl (by exact fun w hw => Stb.cl (by assumption) hw) (by intro hc; omega))) ?_
          refine qr rfl rfl rfl ((q_loadEl rfl rfl rfl (by exact fun w hw => Stb.cl (by assumption) hw) (by intro hc; omega))) ?_
          refine qr rfl rfl rfl ((q_sub rfl rfl rfl (by intro hc; omega))) ?_
          refine qr rfl rfl rfl ((q_mul rfl rfl rfl (by intro hc; omega))) ?_
          refine qr rfl rfl rfl ((q_add rfl rfl rfl (by intro hc; omega))) ?_
          refine qr rfl rfl rfl ((q_assign rfl rfl)) (qw_end (post_then (cw_seq (cw_region (sr rfl rfl rfl ((q_move rfl rfl)) (sr rfl rfl rfl ((q_geq rfl rfl rfl)) (sr rfl rfl rfl ((q_move rfl rfl)) (sr rfl rfl rfl ((q_move rfl rfl)) (sr rfl rfl rfl ((q_move rfl rfl)) (sr rfl rfl rfl ((q_geq rfl rfl rfl)) (sr rfl rfl rfl ((q_and2 rfl rfl rfl)) (sw_nil (post_then ?_)))))))))))))
          rw [hz]
          refine cw_cond rfl (fun h6 => ?_) (fun h6 => ?_)
          · skip
            simp at h6
          · skip
            refine cw_skip (post_blk (post_then (cw_region ?_)))
            refine sr rfl rfl rfl ((q_add rfl rfl rfl (by intro hc; omega))) ?_
            refine sr rfl rfl rfl ((q_move rfl rfl)) (sw_nil ?_)
            exact post_next (i + 1) (by exact .cons rfl (.cons rfl (.cons rfl (.cons rfl (.cons rfl (.cons rfl (.cons rfl (.cons rfl (.cons rfl (.cons rfl (.cons rfl .nil))))))))))) (fun _ h => h) (by omega) (by omega)
        · skip
          have hi' : i = n := by simp only [decide_eq_false_iff_not] at h5; omega
          refine cw_exit (post_then_x (post_then_x (post_blk_eq (post_then (cw_region (sr rfl rfl rfl ((q_move rfl rfl)) (sr rfl rfl rfl ((q_move rfl rfl)) (sr rfl rfl rfl ((q_assign rfl rfl)) (sr rfl rfl rfl ((q_assign rfl rfl)) (sw_nil (post_blk (post_then (cw_region (sr rfl rfl rfl ((q_move rfl rfl)) ?_))))))))))))))
          refine sr rfl rfl rfl ((q_add rfl rfl rfl (by intro hc; omega))) ?_
          refine sr rfl rfl rfl ((q_assign rfl rfl)) (sw_nil ?_)
          exact post_next 1 (by exact .cons rfl (.cons rfl (.cons rfl (.cons rfl (.cons rfl (.cons rfl (.cons rfl .nil))))))) (fun _ h => h) (by omega) (by omega)
      · skip
        refine cw_loop (S := Unit) (fun _ => [(0, [], sa.v), (1, [], sb.v), (2, [], .int .i64 n), (3, [], .int .i64 r), (11, [], .int .i64 0), (12, [], .int .i64 0), (13, [], .int .i64 k), (14, [], .int .i64 0), (37, [], (sa.sub 1 (a.length - n) a.length).v), (38, [], .int .i64 n), (39, [], .int .i64 (0 : Nat))]) (fun _ => Cl w [] []) (fun _ => True) (fun _ => 0) () trivial ?_ (fun _ h => h) ?_
        · exact Le.cons rfl (Le.cons rfl (Le.cons rfl (Le.cons rfl (Le.cons' rfl (by rw [if_neg hk0]) (Le.cons rfl (Le.cons rfl (Le.cons rfl (Le.cons rfl (Le.cons rfl (Le.cons rfl Le.nil))))))))))
        intro _ _
        refine cw_seq (cw_region (sr rfl rfl rfl ((q_lss rfl rfl rfl)) (sw_nil (post_then (cw_seq ?_)))))
        refine cw_cond rfl (fun h5 => ?_) (fun h5 => ?_)
        · skip
          have ha1 := oa.at (a.length - n + 0)
          have hb1 := ob.at (k + 0)
          have hz := mul_ab (a := nth a (a.length - n + 0) - nth b (k + 0)) (b := nth a (a.length - n + 0) - nth b (k + 0)) (A := 65536) (B := 65536) (by omega) (by omega)
          have hz2 : 0 ≤ (nth a (a.length - n + 0) - nth b (k + 0)) * (nth a (a.length - n + 0) - nth b (k + 0)) := by
            rcases Int.le_total 0 (nth a (a.length - n + 0) - nth b (k + 0)) with h | h
            · exact Int.mul_nonneg h h
            · exact Int.mul_nonneg_of_nonpos_of_nonpos h h
          refine cw_skip (post_then (cw_seq (cw_block (cw_seq (cw_region (sr rfl rfl rfl ((q_move rfl rfl)) ?_))))))
          refine sr rfl rfl rfl ((q_indexSub rfl rfl rfl (by exact fun w hw => Stb.cl (by assumption) hw) rfl (by intro hc; omega))) ?_
          refine sr rfl rfl rfl ((q_loadEl rfl rfl rfl (by exact fun w hw => Stb.cl (by assumption) hw) (by intro hc; omega))) ?_
          refine sr rfl rfl rfl ((q_assign rfl rfl)) (sr rfl rfl rfl ((q_assign rfl rfl)) (sw_nil (post_then (cw_seq ?_))))
          refine cw_region_q mixed_Try (by kernel_rfl) ?_
          refine qr rfl rfl rfl ((q_move rfl rfl)) (qr rfl rfl rfl ((q_move rfl rfl)) (qr rfl rfl rfl ((q_move rfl rfl)) (qr rfl rfl rfl ((q_move rfl rfl)) (qr rfl rfl rfl ((q_move rfl rfl)) ?_))))
          refine qr rfl rfl rfl ((q_add rfl rfl rfl (by intro hc; omega))) ?_
          refine qr rfl rfl rfl ((q_indexN rfl rfl rfl (by exact fun w hw => Stb.cl (by assumption) hw) (by intro hc; omega))) ?_
          refine qr rfl rfl rfl ((q_loadEl rfl rfl rfl (by exact fun w hw => Stb.cl (by assumption) hw) (by intro hc; omega))) ?_
          refine qr rfl rfl rfl ((q_sub rfl rfl rfl (by intro hc; omega))) ?_
          refine qr rfl rfl rfl ((q_move rfl rfl)) (qr rfl rfl rfl ((q_move rfl rfl)) (qr rfl rfl rfl ((q_move rfl rfl)) (qr rfl rfl rfl ((q_move rfl rfl)) ?_)))
          refine qr rfl rfl rfl ((q_add rfl rfl rfl (by intro hc; omega))) ?_
          refine qr rfl rfl rfl ((q_indexN rfl rfl rfl (by exact fun w hw => Stb.cl (by assumption) hw) (by intro hc; omega))) ?_
          refine qr rfl rfl rfl ((q_loadEl rfl rfl rfl (by exact fun w hw => Stb.cl (by assumption) hw) (by intro hc; omega))) ?_
          refine qr rfl rfl rfl ((q_sub rfl rfl rfl (by intro hc; omega))) ?_
          refine qr rfl rfl rfl ((q_mul rfl rfl rfl (by intro hc; omega))) ?_
          refine qr rfl rfl rfl ((q_add rfl rfl rfl (by intro hc; omega))) ?_
          refine qr rfl rfl rfl ((q_assign rfl rfl)) (qw_end (post_then (cw_seq (cw_region (sr rfl rfl rfl ((q_move rfl rfl)) (sr rfl rfl rfl ((q_geq rfl rfl rfl)) (sr rfl rfl rfl ((q_move rfl rfl)) (sr rfl rfl rfl ((q_move rfl rfl)) (sr rfl rfl rfl ((q_move rfl rfl)) (sr rfl rfl rfl ((q_geq rfl rfl rfl)) (sr rfl rfl rfl ((q_and2 rfl rfl rfl)) (sw_nil (post_then ?_)))))))))))))
          refine cw_cond rfl (fun h6 => ?_) (fun h6 => ?_)
          · skip
            refine cw_exit (post_blk_ne rfl (post_then_x (post_then_x (post_blk_ne rfl (post_then_x (post_blk_eq (post_then (cw_region (sr rfl rfl rfl ((q_move rfl rfl)) ?_)))))))))
            refine sr rfl rfl rfl ((q_add rfl rfl rfl (by intro hc; omega))) ?_
            refine sr rfl rfl rfl ((q_assign rfl rfl)) (sw_nil ?_)
            exact post_next (k + 1) (Le.cons rfl (Le.cons rfl (Le.cons rfl (Le.cons rfl (Le.cons' rfl (by rw [if_neg (by omega)]) (Le.cons rfl (Le.cons' rfl (by congr 1) Le.nil))))))) (fun _ h => h) (by omega) (by omega)
          · skip
            exfalso
            simp only [Int.zero_add, hz2, decide_true, Bool.and_true, Int.le_refl] at h6
            cases h6
        · skip
          exfalso
          simp only [decide_eq_false_iff_not] at h5; omega
    · skip
      have hk0 : ¬ k = 0 := by simp only [decide_eq_false_iff_not] at h; omega
      refine cw_exit (post_then_x (post_then_x (post_blk_eq (post_then (cw_seq (cw_region (sr rfl rfl rfl ((q_move rfl rfl)) (sr rfl rfl rfl ((q_move rfl rfl)) (sr rfl rfl rfl ((q_assign rfl rfl)) (sr rfl rfl rfl ((q_assign rfl rfl)) (sr rfl rfl rfl ((q_assign rfl rfl)) (sw_nil (post_then (cw_ret (post_scp_r (post_ret3 rfl (resOk_tmp rfl) (resOk_tmp rfl) (resOk_tmp rfl) ?_))))))))))))))))
      exact fun w' hw => ⟨by rw [if_neg hk0], hw⟩
theorem joined_spec (sa sb : SlV) (a b : List Int) (n : Nat) (w : World) (ha : Stb w [] (RdL sa.v a)) (hb : Stb w [] (RdL sb.v b)) (oa : WavOk a) (ob : WavOk b) (h1 : 1 ≤ n) (h2 : n ≤ a.length) (h3 : n < b.length) (hn : n ≤ 1000) (hfit : a.drop (a.length - n) = b.take n) (hsz : a.length + b.length ≤ 100000) :
    Calls Try.prog 18 #[sa.v, sb.v, .int .i64 n, .int .i64 0] w fun e w' => ∃ r : SlV, e = .returned (.tuple #[r.v, .bool true]) ∧ True ∧ Cl w [] [ownL 3 r.v (a ++ b.drop n)] w' := by
  have la := oa.l
  have lb := ob.l
  refine calls_cw (vs := [_, _, _, _]) Try.func18 rfl Try.ntmps18 rfl (Cl.start0 w) (cw_seq (cw_region (sr rfl rfl rfl ((q_assign rfl rfl)) (sr rfl rfl rfl ((q_assign rfl rfl)) (sw_nil (post_then (cw_seq (cw_region (sr rfl rfl rfl ((q_move rfl rfl)) ?_)))))))))
  refine sr rfl rfl rfl ((q_len rfl (.cons rfl inferInstance (.nil)) (by exact fun w hw => Stb.cl (by assumption) hw))) ?_
  refine sr rfl rfl rfl ((q_move rfl rfl)) ?_
  refine sr rfl rfl rfl ((q_len rfl (.cons rfl inferInstance (.nil)) (by exact fun w hw => Stb.cl (by assumption) hw))) ?_
  refine sr rfl rfl rfl ((q_add rfl rfl rfl (by intro hc; omega))) ?_
  refine sr rfl rfl rfl ((q_move rfl rfl)) ?_
  refine sr rfl rfl rfl ((q_sub rfl rfl rfl (by intro hc; omega))) ?_
  refine sr rfl rfl rfl ((q_move rfl rfl)) ?_
  refine sr rfl rfl rfl ((q_sub rfl rfl rfl (by intro hc; omega))) ?_
  refine sr rfl rfl rfl ((q_assign rfl rfl)) (sw_nil (post_then (cw_seq (cw_seq (cw_region (sr rfl rfl rfl ((q_move rfl rfl)) (sr rfl rfl rfl ((q_gtr rfl rfl rfl)) (sw_nil (post_then ?_)))))))))
  refine cw_cond rfl (fun h => ?_) (fun h => ?_)
  · skip
    simp only [decide_eq_true_eq] at h; omega
  · skip
    clear h
    refine cw_skip (post_then (cw_seq (cw_region (sr rfl rfl rfl ((q_move rfl rfl)) ?_))))
    refine sw_x rfl rfl rfl (e_make (α := Int) (zero := 0) rfl rfl rfl rfl rfl (by omega) (by omega) (by decide)) (fun s25 => ?_)
    have ez : ((a.length : Int) + b.length - n - 0).toNat = a.length + (b.length - n) := by omega
    have es : ((a.length : Int) - n).toNat = a.length - n := by omega
    have esn : ((a.length : Int) - n + n).toNat = a.length := by omega
    have ad0 : ∀ x : Addr, x.add 0 = x := fun x => by simp [Addr.add]
    rw [ez]
    have hlr : (List.replicate (a.length + (b.length - n)) (0 : Int)).length = a.length + (b.length - n) := by simp
    refine sr rfl rfl rfl ((q_assign rfl rfl)) (sw_nil (post_then (cw_seq (cw_region (sr rfl rfl rfl ((q_move rfl rfl)) ?_)))))
    refine sr rfl rfl rfl ((q_len rfl (.cons rfl inferInstance (.nil)) (by exact fun w hw => Stb.cl (by assumption) hw))) ?_
    refine sr rfl rfl rfl ((q_move rfl rfl)) ?_
    refine sr rfl rfl rfl ((q_sub rfl rfl rfl (by intro hc; omega))) ?_
    refine sr rfl rfl rfl ((q_assign rfl rfl)) (sw_nil (post_then (cw_seq (cw_region (sr rfl rfl rfl ((q_move rfl rfl)) (sr rfl rfl rfl ((q_move rfl rfl)) (sr rfl rfl rfl ((q_move rfl rfl)) ?_)))))))
    refine sr rfl rfl rfl ((q_sliceF2 (l := List.replicate (a.length + (b.length - n)) (0 : Int)) rfl rfl rfl rfl (by exact fun w hw => rd_own hw (by exact .head _)) (fun _ => by rw [hlr]; omega))) ?_
    refine sr rfl rfl rfl ((q_move rfl rfl)) ?_
    refine sw_x rfl rfl rfl (e_copy (s := s25) (d := s25.cut ((a.length : Int) - n).toNat) (lo := 0) (m := ((a.length : Int) - n).toNat) (i := 0) (r := a) rfl (.cons rfl inferInstance (.cons rfl inferInstance (.nil))) rfl rfl (by simp [SlV.cut, ad0]) rfl (by exact fun w hw => Stb.cl (by assumption) hw) (by omega) (by omega) (by rw [hlr]; omega) (by rw [hlr]; omega)) (fun _ => ?_)
    have e1 : (List.replicate (a.length + (b.length - n)) (0 : Int)).take 0 ++ a.take ((a.length : Int) - n).toNat ++ (List.replicate (a.length + (b.length - n)) (0 : Int)).drop (0 + ((a.length : Int) - n).toNat) = a.take (a.length - n) ++ List.replicate (b.length) 0 := by
      rw [es, List.take_zero, List.nil_append, Nat.zero_add, List.drop_replicate, show a.length + (b.length - n) - (a.length - n) = b.length by omega]
    refine sw_le (C' := Cl w [] [ownL 3 s25.v (a.take (a.length - n) ++ List.replicate (b.length) 0)]) (fun w' hw => by rw [← e1]; exact hw) ?_
    have hl1 : (a.take (a.length - n) ++ List.replicate (b.length) (0 : Int)).length = a.length + (b.length - n) := by simp; omega
    have hxa : Stb w [] (RdL (sa.sub (Enc.sz Int) ((a.length : Int) - n).toNat a.length).v (a.drop (a.length - n))) := by
      have := stb_sub ha (a := ((a.length : Int) - n).toNat) (b := a.length) (by omega) (Nat.le_refl _)
      rw [List.take_length, es] at this
      rw [es]
      exact this
    have hxb : Stb w [] (RdL (sb.sub (Enc.sz Int) (0 : Int).toNat ((0 : Int) + n).toNat).v (a.drop (a.length - n))) := by
      have := stb_sub hb (a := 0) (b := n) (Nat.zero_le _) (by omega)
      rw [List.drop_zero, ← hfit] at this
      rw [show ((0 : Int) + n).toNat = n by omega]
      exact this
    have hx3 : Stb w [] (RdL (sb.sub (Enc.sz Int) ((0 : Int) + n).toNat b.length).v (b.drop n)) := by
      have := stb_sub hb (a := n) (b := b.length) (by omega) (Nat.le_refl _)
      rw [List.take_length] at this
      rw [show ((0 : Int) + n).toNat = n by omega]
      exact this
    have od : WavOk (a.drop (a.length - n)) := ⟨by simp; omega, fun x hx => oa.b x (List.mem_of_mem_drop hx)⟩
    have hdl : (a.drop (a.length - n)).length = n := by simp; omega
    refine sw_nil (post_then (cw_seq (cw_region_a (Cl w [] [ownL 3 s25.v (a.take (a.length - n) ++ List.replicate (b.length) 0)]) [19] mixed_Try ?_)))
    refine aw_pure 0 rfl (by kernel_rfl) (by kernel_rfl) (by kernel_rfl) (by kernel_rfl) (by kernel_rfl) rfl rfl rfl (q_move rfl rfl) ?_
    refine aw_pure 1 rfl (by kernel_rfl) (by kernel_rfl) (by kernel_rfl) (by kernel_rfl) (by kernel_rfl) rfl rfl rfl (q_move rfl rfl) ?_
    refine aw_pure 2 rfl (by kernel_rfl) (by kernel_rfl) (by kernel_rfl) (by kernel_rfl) (by kernel_rfl) rfl rfl rfl (q_move rfl rfl) ?_
    refine aw_pure 3 rfl (by kernel_rfl) (by kernel_rfl) (by kernel_rfl) (by kernel_rfl) (by kernel_rfl) rfl rfl rfl (q_move rfl rfl) ?_
    refine aw_pure 4 rfl (by kernel_rfl) (by kernel_rfl) (by kernel_rfl) (by kernel_rfl) (by kernel_rfl) rfl rfl rfl (q_add rfl rfl rfl (by intro hc; omega)) ?_
    refine aw_pure 5 rfl (by kernel_rfl) (by kernel_rfl) (by kernel_rfl) (by kernel_rfl) (by kernel_rfl) rfl rfl rfl (q_move rfl rfl) ?_
    refine aw_pure 6 rfl (by kernel_rfl) (by kernel_rfl) (by kernel_rfl) (by kernel_rfl) (by kernel_rfl) rfl rfl rfl (q_move rfl rfl) ?_
    refine aw_pure 7 rfl (by kernel_rfl) (by kernel_rfl) (by kernel_rfl) (by kernel_rfl) (by kernel_rfl) rfl rfl rfl (q_add rfl rfl rfl (by intro hc; omega)) ?_
    refine aw_pure 9 rfl (by kernel_rfl) (by kernel_rfl) (by kernel_rfl) (by kernel_rfl) (by kernel_rfl) rfl rfl rfl (q_move rfl rfl) ?_
    refine aw_pure 10 rfl (by kernel_rfl) (by kernel_rfl) (by kernel_rfl) (by kernel_rfl) (by kernel_rfl) rfl rfl rfl (q_move rfl rfl) ?_
    refine aw_take 11 (fun w h => Cl.sel (by exact .take 0 rfl (.nil _)) w h) rfl (by kernel_rfl) (by kernel_rfl) (by kernel_rfl) (by kernel_rfl) (by kernel_rfl) (by kernel_rfl) rfl rfl rfl (q_sliceL rfl rfl rfl (by exact fun w hw => Stb.cl (by assumption) hw) (by intro hc; omega)) ?_
    refine aw_pure 12 rfl (by kernel_rfl) (by kernel_rfl) (by kernel_rfl) (by kernel_rfl) (by kernel_rfl) rfl rfl rfl (q_move rfl rfl) ?_
    refine aw_pure 13 rfl (by kernel_rfl) (by kernel_rfl) (by kernel_rfl) (by kernel_rfl) (by kernel_rfl) rfl rfl rfl (q_move rfl rfl) ?_
    refine aw_pure 14 rfl (by kernel_rfl) (by kernel_rfl) (by kernel_rfl) (by kernel_rfl) (by kernel_rfl) rfl rfl rfl (q_move rfl rfl) ?_
    refine aw_pure 15 rfl (by kernel_rfl) (by kernel_rfl) (by kernel_rfl) (by kernel_rfl) (by kernel_rfl) rfl rfl rfl (q_move rfl rfl) ?_
    refine aw_pure 16 rfl (by kernel_rfl) (by kernel_rfl) (by kernel_rfl) (by kernel_rfl) (by kernel_rfl) rfl rfl rfl (q_add rfl rfl rfl (by intro hc; omega)) ?_
    refine aw_take 17 (fun w h => Cl.sel (by exact .take 0 rfl (.nil _)) w h) rfl (by kernel_rfl) (by kernel_rfl) (by kernel_rfl) (by kernel_rfl) (by kernel_rfl) (by kernel_rfl) rfl rfl rfl (q_slice2 rfl rfl rfl rfl (by exact fun w hw => Stb.cl (by assumption) hw) (by intro hc; omega)) ?_
    refine aw_take 8 (fun w h => Cl.sel (by exact .take 0 rfl (.nil _)) w h) rfl (by kernel_rfl) (by kernel_rfl) (by kernel_rfl) (by kernel_rfl) (by kernel_rfl) (by kernel_rfl) rfl rfl rfl (q_slice3 (l := a.take (a.length - n) ++ List.replicate (b.length) (0 : Int)) rfl rfl rfl rfl rfl (by exact fun w hw => rd_own hw (by exact .head _)) (fun _ => by rw [hl1]; omega)) ?_
    refine aw_x 18 (by kernel_rfl) rfl rfl rfl rfl (e_call (CanCall.mk Try.call20) rfl (.cons rfl inferInstance (.cons rfl inferInstance (.nil))) (fun w hw => fade_spec _ _ (a.drop (a.length - n)) (a.drop (a.length - n)) (a.drop (a.length - n)) w (stb_arg hw hxa) (stb_arg hw hxb) (fade_self od (by rw [hdl]; exact hn)))) (by intro hb; exact fun _ w h => (fun w h => Cl.sel (by exact .take 1 rfl (.nil _)) w h) w h.2) (fun s54 => ?_)
    refine aw_imp fun _ => ?_
    refine aw_x 19 (by kernel_rfl) rfl rfl rfl rfl (e_copy (s := s25) (d := s25.row 1 ((a.length : Int) - n).toNat ((a.length : Int) - n + n).toNat) (lo := ((a.length : Int) - n).toNat) (m := n) (i := 1) (r := a.drop (a.length - n)) rfl (.cons rfl inferInstance (.cons rfl inferInstance (.nil))) rfl rfl (by simp only [SlV.row]; rw [if_neg (by omega), Nat.mul_one]) (by simp only [SlV.row]; omega) (by exact fun w hw => rd_own hw (by exact .head _)) (by omega) (by omega) (by rw [hl1]; omega) (by rw [hl1]; omega)) (by intro hb; (exact absurd hb (by decide))) (fun _ => ?_)
    have e2 : (a.take (a.length - n) ++ List.replicate (b.length) (0 : Int)).take ((a.length : Int) - n).toNat ++ (a.drop (a.length - n)).take n ++ (a.take (a.length - n) ++ List.replicate (b.length) (0 : Int)).drop (((a.length : Int) - n).toNat + n) = a ++ List.replicate (b.length - n) 0 := by
      have h5 : (a.take (a.length - n)).length = a.length - n := by simp
      have h6 : (a.drop (a.length - n)).take n = a.drop (a.length - n) := List.take_of_length_le (by omega)
      rw [es, List.take_left' h5, h6, List.take_append_drop, List.drop_append, h5, List.drop_eq_nil_of_le (by omega), List.nil_append, List.drop_replicate]
      congr 2
      omega
    refine aw_c (C' := Cl w [] [ownL 3 s25.v (a ++ List.replicate (b.length - n) 0)]) (fun w' hw => by rw [← e2]; exact hw.tail) ?_
    have hl2 : (a ++ List.replicate (b.length - n) (0 : Int)).length = a.length + (b.length - n) := by simp
    refine aw_end (by kernel_rfl) ?_
    refine post_then (cw_seq (cw_region_a (Cl w [] [ownL 3 s25.v (a ++ List.replicate (b.length - n) 0)]) [12] mixed_Try ?_))
    refine aw_pure 0 rfl (by kernel_rfl) (by kernel_rfl) (by kernel_rfl) (by kernel_rfl) (by kernel_rfl) rfl rfl rfl (q_move rfl rfl) ?_
    refine aw_pure 1 rfl (by kernel_rfl) (by kernel_rfl) (by kernel_rfl) (by kernel_rfl) (by kernel_rfl) rfl rfl rfl (q_move rfl rfl) ?_
    refine aw_pure 2 rfl (by kernel_rfl) (by kernel_rfl) (by kernel_rfl) (by kernel_rfl) (by kernel_rfl) rfl rfl rfl (q_move rfl rfl) ?_
    refine aw_pure 3 rfl (by kernel_rfl) (by kernel_rfl) (by kernel_rfl) (by kernel_rfl) (by kernel_rfl) rfl rfl rfl (q_add rfl rfl rfl (by intro hc; omega)) ?_
    refine aw_pure 4 rfl (by kernel_rfl) (by kernel_rfl) (by kernel_rfl) (by kernel_rfl) (by kernel_rfl) rfl rfl rfl (q_move rfl rfl) ?_
    refine aw_pure 5 rfl (by kernel_rfl) (by kernel_rfl) (by kernel_rfl) (by kernel_rfl) (by kernel_rfl) rfl rfl rfl (q_move rfl rfl) ?_
    refine aw_pure 7 rfl (by kernel_rfl) (by kernel_rfl) (by kernel_rfl) (by kernel_rfl) (by kernel_rfl) rfl rfl rfl (q_move rfl rfl) ?_
    refine aw_pure 8 rfl (by kernel_rfl) (by kernel_rfl) (by kernel_rfl) (by kernel_rfl) (by kernel_rfl) rfl rfl rfl (q_move rfl rfl) ?_
    refine aw_pure 9 rfl (by kernel_rfl) (by kernel_rfl) (by kernel_rfl) (by kernel_rfl) (by kernel_rfl) rfl rfl rfl (q_move rfl rfl) ?_
    refine aw_pure 10 rfl (by kernel_rfl) (by kernel_rfl) (by kernel_rfl) (by kernel_rfl) (by kernel_rfl) rfl rfl rfl (q_add rfl rfl rfl (by intro hc; omega)) ?_
    refine aw_take 11 (fun w h => Cl.sel (by exact .take 0 rfl (.nil _)) w h) rfl (by kernel_rfl) (by kernel_rfl) (by kernel_rfl) (by kernel_rfl) (by kernel_rfl) (by kernel_rfl) rfl rfl rfl (q_sliceL rfl rfl rfl (by exact fun w hw => Stb.cl (by assumption) hw) (by intro hc; omega)) ?_
    refine aw_take 6 (fun w h => Cl.sel (by exact .take 0 rfl (.nil _)) w h) rfl (by kernel_rfl) (by kernel_rfl) (by kernel_rfl) (by kernel_rfl) (by kernel_rfl) (by kernel_rfl) rfl rfl rfl (q_slice3 (l := a ++ List.replicate (b.length - n) (0 : Int)) rfl rfl rfl rfl rfl (by exact fun w hw => rd_own hw (by exact .head _)) (fun _ => by rw [hl2]; omega)) ?_
    refine aw_x 12 (by kernel_rfl) rfl rfl rfl rfl (e_copy (s := s25) (d := s25.row 1 ((a.length : Int) - n + n).toNat ((a.length : Int) + b.length - n - 0).toNat) (lo := a.length) (m := b.length - n) (i := 0) (r := b.drop n) rfl (.cons rfl inferInstance (.cons rfl inferInstance (.nil))) rfl rfl (by simp only [SlV.row]; rw [if_neg (by omega), Nat.mul_one, esn]) (by simp only [SlV.row]; omega) (fun w hw => Stb.cl hx3 hw) (by simp) (by simp; omega) (by rw [hl2]; omega) (by rw [hl2]; omega)) (by intro hb; (exact absurd hb (by decide))) (fun _ => ?_)
    have e3 : (a ++ List.replicate (b.length - n) (0 : Int)).take a.length ++ (b.drop n).take (b.length - n) ++ (a ++ List.replicate (b.length - n) (0 : Int)).drop (a.length + (b.length - n)) = a ++ b.drop n := by
      have h6 : (b.drop n).take (b.length - n) = b.drop n := List.take_of_length_le (by simp)
      have h7 : (a ++ List.replicate (b.length - n) (0 : Int)).drop (a.length + (b.length - n)) = [] := List.drop_eq_nil_of_le (by rw [hl2]; exact Nat.le_refl _)
      rw [List.take_left, h6, h7, List.append_nil]
    refine aw_c (C' := Cl w [] [ownL 3 s25.v (a ++ b.drop n)]) (fun w' hw => by rw [← e3]; exact hw) ?_
    refine aw_end (by kernel_rfl) ?_
    refine post_then (cw_seq (cw_region (sr rfl rfl rfl ((q_move rfl rfl)) (sr rfl rfl rfl ((q_assign rfl rfl)) (sr rfl rfl rfl ((q_assign rfl rfl)) (sw_nil (post_then (cw_ret (post_ret2 rfl (resOk_tmp rfl) (resOk_tmp rfl) ?_)))))))))
    exact fun w' hw => ⟨s25, rfl, trivial, hw⟩
end Go.Proofs.Ytomjbfeafodfbaa

set_option autoImplicit false
set_option maxRecDepth 100000
namespace Go.Proofs.Ytomjbfeafodfbaa
open Go.Sx
open Enc (enc val)
structure Rcd where
  a : List Int
  m : Nat
  n : Nat
  C : Nat → Nat
namespace Rcd
variable (K : Rcd)
structure Ok : Prop where
  w : WavOk K.a
  l : K.a.length ≤ 300
  m1 : 1 ≤ K.m ∧ K.m ≤ 6
  n1 : 1 ≤ K.n ∧ K.n ≤ 3
  c0 : K.C 0 = 0
  c : ∀ i, i < K.m → K.C i + 4 ≤ K.C (i + 1)
  cm : ∀ i, i ≤ K.m → K.C i ≤ K.a.length
def piece (i : Nat) : List Int := (K.a.take (K.C (i + 1))).drop (K.C i - K.n)
def bg (k : Nat) : List Int := (List.range k).map fun i => if i = 0 then 0 else (K.C i : Int) - K.n
variable {K}
theorem Ok.pos (h : K.Ok) : ∀ {i : Nat}, i < K.m → 4 ≤ K.C (i + 1)
  | i, hi => by have := h.c i hi; omega
theorem Ok.pos' (h : K.Ok) {i : Nat} (h0 : 0 < i) (hi : i ≤ K.m) : 4 ≤ K.C i := by
  have := h.pos (i := i - 1) (by omega)
  rwa [show i - 1 + 1 = i by omega] at this
theorem piece_len (h : K.Ok) {i : Nat} (hi : i < K.m) : (K.piece i).length = K.C (i + 1) - (K.C i - K.n) := by
  have := h.cm (i + 1) (by omega)
  simp [piece]; omega
theorem piece_ok (h : K.Ok) (i : Nat) : WavOk (K.piece i) := ⟨by have := h.l; simp [piece]; omega, fun x hx => h.w.b x (List.mem_of_mem_take (List.mem_of_mem_drop hx))⟩
theorem take_ok (h : K.Ok) (c : Nat) : WavOk (K.a.take c) := ⟨by have := h.l; simp; omega, fun x hx => h.w.b x (List.mem_of_mem_take hx)⟩
theorem fits (h : K.Ok) {i : Nat} (h0 : 0 < i) (hi : i < K.m) : (K.a.take (K.C i)).drop ((K.a.take (K.C i)).length - K.n) = (K.piece i).take K.n := by
  have h1 := h.cm i (by omega)
  have h2 := h.c i hi
  have h3 := h.pos' h0 (by omega)
  have h4 := h.n1
  rw [List.length_take, Nat.min_eq_left h1, piece, List.drop_take, List.drop_take, List.take_take]
  congr 1
  omega
theorem grows (h : K.Ok) {i : Nat} (h0 : 0 < i) (hi : i < K.m) : K.a.take (K.C i) ++ (K.piece i).drop K.n = K.a.take (K.C (i + 1)) := by
  have h2 := h.c i hi
  have h3 := h.pos' h0 (by omega)
  have h4 := h.n1
  rw [piece, List.drop_drop, show K.C i - K.n + K.n = K.C i by omega]
  have : K.a.take (K.C i) = (K.a.take (K.C (i + 1))).take (K.C i) := by rw [List.take_take, Nat.min_eq_left (by omega)]
  rw [this, List.take_append_drop]
theorem bg_succ (k : Nat) (h0 : 0 < k) : K.bg (k + 1) = K.bg k ++ [(K.C k : Int) - K.n] := by
  simp [bg, List.range_succ, show ¬ k = 0 by omega]
theorem bg_len (k : Nat) : (K.bg k).length = k := by simp [bg]
end Rcd
structure PcRd (K : Rcd) (sv : SlV) (vs : List SlV) (w : World) : Prop where
  l : RdL sv.v vs w
  n : vs.length = K.m
  r : ∀ i, i < K.m → RdL (nth vs i).v (K.piece i) w
theorem chain_spec (K : Rcd) (ok : K.Ok) (sv : SlV) (vs : List SlV) (r : Int) (hr : 0 ≤ r ∧ r ≤ 20) (w : World) (hp : Stb w [] (PcRd K sv vs)) :
    Calls Try.prog 7 #[.int .i64 K.n, .int .i64 r, sv.v] w fun e w' => ∃ y : SlV × SlV, e = .returned (.tuple #[y.1.v, y.2.v, .int .i64 0]) ∧ True ∧ Cl w [] [ownL 3 y.1.v (K.a.take (K.C K.m)), ownL 3 y.2.v (K.bg K.m)] w' := by
  have hl := stb_map hp fun _ h => h.l
  have hn := hp.here.n
  have hm1 := ok.m1
  have hn1 := ok.n1
  have hwr : Stb w [] (WavRd vs ((List.range K.m).map K.piece)) := ⟨fun w' k s hs => by
    obtain ⟨i, hi, rfl⟩ := List.getElem_of_mem hs
    have := (hp.stb w' k).r i (by omega)
    rw [nth_get hi] at this
    exact ⟨K.piece i, List.mem_map_of_mem (by simp; omega), this⟩⟩
  have hok : ∀ l ∈ (List.range K.m).map K.piece, WavOk l := fun l hl => by
    obtain ⟨i, _, rfl⟩ := List.mem_map.1 hl
    exact K.piece_ok ok i
  refine calls_cw (vs := [_, _, _]) Try.func7 rfl Try.ntmps7 rfl (Cl.start0 w) (cw_seq (cw_region (sr rfl rfl rfl ((q_assign rfl rfl)) (sr rfl rfl rfl ((q_assign rfl rfl)) (sr rfl rfl rfl ((q_assign rfl rfl)) (sw_nil (post_then (cw_seq (cw_seq (cw_region (sr rfl rfl rfl ((q_move rfl rfl)) ?_)))))))))))
  refine sr rfl rfl rfl ((q_len rfl (.cons rfl inferInstance (.nil)) (by exact fun w hw => Stb.cl (by assumption) hw))) ?_
  refine sr rfl rfl rfl ((q_gtr rfl rfl rfl)) (sw_nil (post_then ?_))
  refine cw_cond rfl (fun h => ?_) (fun h => ?_)
  · skip
    simp only [decide_eq_true_eq] at h; omega
  · skip
    clear h
    refine cw_skip (post_then (cw_seq (cw_seq (cw_region (sr rfl rfl rfl ((q_move rfl rfl)) (sw_step rfl rfl rfl (q_call (CanCall.mk Try.call15) rfl (.cons rfl inferInstance (.nil)) (fun _ w hw => callq hw (waves_spec sv.v vs _ w (stb_arg hw hl) (stb_arg hw hwr) hok))) (sr rfl rfl rfl ((q_assign rfl rfl)) (sw_nil (post_then (cw_seq (cw_region (sr rfl rfl rfl ((q_move rfl rfl)) (sr rfl rfl rfl ((q_neq rfl rfl rfl)) (sw_nil (post_then ?_)))))))))))))))
    refine cw_cond rfl (fun h => ?_) (fun h => ?_)
    · skip
      cases h
    · skip
      clear h
      refine cw_skip (post_then (cw_seq (cw_seq (cw_region (sr rfl rfl rfl ((q_move rfl rfl)) (sr rfl rfl rfl ((q_lss rfl rfl rfl)) (sr rfl rfl rfl ((q_move rfl rfl)) (sr rfl rfl rfl ((q_move rfl rfl)) (sr rfl rfl rfl ((q_lss rfl rfl rfl)) (sr rfl rfl rfl ((q_or2 rfl rfl rfl)) (sr rfl rfl rfl ((q_move rfl rfl)) (sr rfl rfl rfl ((q_move rfl rfl)) ?_))))))))))))
      refine sr rfl rfl rfl ((q_len rfl (.cons rfl inferInstance (.nil)) (by exact fun w hw => Stb.cl (by assumption) hw))) ?_
      refine sr rfl rfl rfl ((q_eql rfl rfl rfl)) (sr rfl rfl rfl ((q_or2 rfl rfl rfl)) (sw_nil (post_then ?_)))
      refine cw_cond rfl (fun h => ?_) (fun h => ?_)
      · skip
        simp only [Bool.or_eq_true, decide_eq_true_eq] at h; omega
      · skip
        clear h
        have hr0 := stb_map hp fun _ h => h.r 0 (by omega)
        have hp0 := K.piece_len ok (i := 0) (by omega)
        have hc1 : K.C (0 + 1) ≤ K.a.length := ok.cm 1 (by omega)
        have hal := ok.l
        refine cw_skip (post_then (cw_seq (cw_region (sr rfl rfl rfl ((q_move rfl rfl)) ?_))))
        refine sr rfl rfl rfl ((q_indexN rfl rfl rfl (by exact fun w hw => Stb.cl (by assumption) hw) (by intro hc; (simp only [List.length_set, List.length_append, List.length_cons, List.length_nil, List.length_replicate, List.length_take, List.length_drop, List.length_map]; omega)))) ?_
        refine sr rfl rfl rfl ((q_loadEl rfl rfl rfl (by exact fun w hw => Stb.cl (by assumption) hw) (by intro hc; (simp only [List.length_set, List.length_append, List.length_cons, List.length_nil, List.length_replicate, List.length_take, List.length_drop, List.length_map]; omega)))) ?_
        refine sw_x rfl rfl rfl (e_call (CanCall.mk Try.call16) rfl (.cons rfl inferInstance (.nil)) (fun w hw => clone7_spec _ (K.piece 0) (by omega) w (stb_arg hw hr0))) (fun s39 => ?_)
        refine sw_imp fun _ => ?_
        refine sw_x rfl rfl rfl (e_build1 (α := Int) rfl rfl rfl rfl) (fun s40 => ?_)
        refine sr rfl rfl rfl ((q_assign rfl rfl)) (sr rfl rfl rfl ((q_assign rfl rfl)) (sw_nil (post_then (cw_seq (cw_seq (cw_region (sr rfl rfl rfl ((q_move rfl rfl)) ?_)))))))
        refine sr rfl rfl rfl ((q_sliceL rfl rfl rfl (by exact fun w hw => Stb.cl (by assumption) hw) (by intro hc; omega))) ?_
        refine sr rfl rfl rfl ((q_lenV rfl (.cons rfl inferInstance (.nil)))) (sr rfl rfl rfl ((q_move rfl rfl)) (sw_nil (post_then (cw_block ?_))))
        have e0 : K.piece 0 = K.a.take (K.C 1) := by rw [Rcd.piece, ok.c0, Nat.zero_sub, List.drop_zero]
        refine cw_loop (S := Nat × (SlV × SlV)) (fun y => [(0, [], .int .i64 K.n), (1, [], .int .i64 r), (10, [], y.2.1.v), (11, [], y.2.2.v), (42, [], (sv.sub 1 1 vs.length).v), (43, [], .int .i64 (K.m - 1 : Nat)), (44, [], .int .i64 y.1)]) (fun y => Cl w [] [ownL 3 y.2.2.v (K.bg (y.1 + 1)), ownL 3 y.2.1.v (K.a.take (K.C (y.1 + 1)))]) (fun y => y.1 + 1 ≤ K.m) (fun y => K.m - y.1) (0, (s39, s40)) (by simp only; omega) ?_ (fun w' hw => ?_) ?_
        · exact Le.cons rfl (Le.cons rfl (Le.cons rfl (Le.cons rfl (Le.cons rfl (Le.cons' rfl (by congr 1; simp only [SlV.sub]; omega) (Le.cons rfl Le.nil))))))
        · rw [e0] at hw
          exact hw
        rintro ⟨j, ⟨s10, s11⟩⟩ hj
        dsimp only at hj ⊢
        refine cw_seq (cw_region (sr rfl rfl rfl ((q_lss rfl rfl rfl)) (sw_nil (post_then (cw_seq ?_)))))
        refine cw_cond rfl (fun h => ?_) (fun h => ?_)
        · skip
          have hj' : j + 1 < K.m := by simp only [decide_eq_true_eq] at h; omega
          have hrj : Stb w [] (RdL (nth vs (1 + j)).v (K.piece (j + 1))) := by
            rw [show 1 + j = j + 1 by omega]
            exact stb_map hp fun _ h => h.r (j + 1) hj'
          have hpl := K.piece_len ok hj'
          have hcj := ok.c (j + 1) hj'
          have hcm := ok.cm (j + 1) (by omega)
          have hcm2 : K.C (j + 1 + 1) ≤ K.a.length := ok.cm (j + 2) (by omega)
          have hal300 := ok.l
          have hps := ok.pos' (i := j + 1) (by omega) (by omega)
          have hfit := K.fits ok (i := j + 1) (by omega) hj'
          have hgr := K.grows ok (i := j + 1) (by omega) hj'
          have htl : (K.a.take (K.C (j + 1))).length = K.C (j + 1) := by simp; omega
          have ebs := K.bg_succ (j + 1) (by omega)
          have hbl := K.bg_len (j + 1)
          refine cw_skip (post_then (cw_seq (cw_block (cw_seq (cw_region ?_)))))
          refine sr rfl rfl rfl ((q_indexSub rfl rfl rfl (by exact fun w hw => Stb.cl (by assumption) hw) rfl (by intro hc; omega))) ?_
          refine sr rfl rfl rfl ((q_loadEl rfl rfl rfl (by exact fun w hw => Stb.cl (by assumption) hw) (by intro hc; omega))) ?_
          refine sr rfl rfl rfl ((q_assign rfl rfl)) (sw_nil (post_then (cw_seq (cw_region (sr rfl rfl rfl ((q_move rfl rfl)) (sr rfl rfl rfl ((q_move rfl rfl)) (sr rfl rfl rfl ((q_move rfl rfl)) (sr rfl rfl rfl ((q_move rfl rfl)) ?_))))))))
          refine sw_step rfl rfl rfl (q_call (CanCall.mk Try.call17) rfl (.cons rfl inferInstance (.cons rfl inferInstance (.cons rfl inferInstance (.cons rfl inferInstance (.nil))))) (fun _ w hw => callq hw (lag_spec s10 (nth vs (1 + j)) _ _ K.n r w (stb_own (e := 3) hw (.tail _ (.head _))) (stb_arg hw hrj) (K.take_ok ok _) (K.piece_ok ok _) (by omega) (by omega) (by omega) (by omega) (by omega) hfit))) ?_
          refine sr rfl rfl rfl ((q_move rfl rfl)) (sr rfl rfl rfl ((q_extract rfl rfl rfl)) (sr rfl rfl rfl ((q_extract rfl rfl rfl)) (sr rfl rfl rfl ((q_extract rfl rfl rfl)) (sr rfl rfl rfl ((q_assign rfl rfl)) (sr rfl rfl rfl ((q_assign rfl rfl)) (sr rfl rfl rfl ((q_assign rfl rfl)) (sw_nil (post_then (cw_seq (cw_seq (cw_region (sr rfl rfl rfl ((q_move rfl rfl)) (sr rfl rfl rfl ((q_not rfl rfl)) (sw_nil (post_then ?_)))))))))))))))
          refine cw_cond rfl (fun h3 => ?_) (fun h3 => ?_)
          · skip
            cases h3
          · skip
            clear h3
            refine cw_skip (post_then (cw_seq (cw_region (sr rfl rfl rfl ((q_move rfl rfl)) (sr rfl rfl rfl ((q_move rfl rfl)) ?_)))))
            refine sr rfl rfl rfl ((q_len rfl (.cons rfl inferInstance (.nil)) (by exact fun w hw => rd_own hw (by exact .tail _ (.head _))))) ?_
            refine sr rfl rfl rfl ((q_move rfl rfl)) ?_
            refine sr rfl rfl rfl ((q_sub rfl rfl rfl (by intro hc; omega))) ?_
            refine sw_x rfl rfl rfl (e_build1 (α := Int) rfl rfl rfl rfl) (fun s64 => ?_)
            refine sw_x rfl rfl rfl (e_append (i := 1) rfl (.cons rfl inferInstance (.cons rfl inferInstance (.nil))) rfl rfl (by exact fun w hw => rd_own hw (by exact .head _)) (by simp only [List.length_set, List.length_append, List.length_cons, List.length_nil, List.length_replicate, List.length_take, List.length_drop, List.length_map]; omega) rfl) (fun s65 => ?_)
            refine sr rfl rfl rfl ((q_assign rfl rfl)) (sw_nil (post_then (cw_seq (cw_region (sr rfl rfl rfl ((q_move rfl rfl)) (sr rfl rfl rfl ((q_move rfl rfl)) (sr rfl rfl rfl ((q_move rfl rfl)) (sr rfl rfl rfl ((q_move rfl rfl)) ?_))))))))
            refine sw_x rfl rfl rfl (e_call (CanCall.mk Try.call18) rfl (.cons rfl inferInstance (.cons rfl inferInstance (.cons rfl inferInstance (.cons rfl inferInstance (.nil))))) (fun w hw => joined_spec s10 (nth vs (1 + j)) (K.a.take (K.C (j + 1))) (K.piece (j + 1)) K.n w (stb_own (e := 3) hw (by exact .tail _ (.tail _ (.head _)))) (stb_arg hw hrj) (K.take_ok ok _) (K.piece_ok ok _) (by omega) (by omega) (by omega) (by omega) hfit (by omega))) (fun s71 => ?_)
            refine sw_imp fun _ => ?_
            rw [hgr]
            refine sr rfl rfl rfl ((q_move rfl rfl)) (sr rfl rfl rfl ((q_extract rfl rfl rfl)) (sr rfl rfl rfl ((q_extract rfl rfl rfl)) (sr rfl rfl rfl ((q_assign rfl rfl)) (sr rfl rfl rfl ((q_assign rfl rfl)) (sw_nil (post_then (cw_seq (cw_region (sr rfl rfl rfl ((q_move rfl rfl)) (sr rfl rfl rfl ((q_not rfl rfl)) (sw_nil (post_then ?_))))))))))))
            refine cw_cond rfl (fun h4 => ?_) (fun h4 => ?_)
            · skip
              cases h4
            · skip
              clear h4
              refine cw_skip (post_blk (post_then (cw_region ?_)))
              refine sr rfl rfl rfl ((q_add rfl rfl rfl (by intro hc; omega))) ?_
              refine sr rfl rfl rfl ((q_move rfl rfl)) (sw_nil ?_)
              refine post_next (j + 1, (s71, s65)) (by exact .cons rfl (.cons rfl (.cons rfl (.cons rfl (.cons rfl (.cons rfl (.cons rfl .nil))))))) (fun w3 hw3 => ?_) (by simp only; omega) (by simp only; omega)
              simp only
              rw [ebs]
              rw [htl] at hw3
              exact (fun w h => Cl.sel (by exact .take 2 rfl (.take 0 rfl (.nil _))) w h) w3 hw3
        · skip
          have hj' : j + 1 = K.m := by simp only [decide_eq_false_iff_not] at h; omega
          rw [hj']
          refine cw_exit (post_then_x (post_then_x (post_blk_eq (post_then (cw_seq (cw_region (sr rfl rfl rfl ((q_move rfl rfl)) (sr rfl rfl rfl ((q_move rfl rfl)) (sr rfl rfl rfl ((q_assign rfl rfl)) (sr rfl rfl rfl ((q_assign rfl rfl)) (sr rfl rfl rfl ((q_assign rfl rfl)) (sw_nil (post_then (cw_ret (post_ret3 rfl (resOk_tmp rfl) (resOk_tmp rfl) (resOk_tmp rfl) ?_)))))))))))))))
          exact fun w' hw => ⟨(s10, s11), rfl, trivial, (fun w h => Cl.sel (by exact .take 1 rfl (.take 0 rfl (.nil _))) w h) w' hw⟩
end Go.Proofs.Ytomjbfeafodfbaa

/- The best sequence, chosen step by step out of the certificate. Plain lemmas, no program text. -/
set_option autoImplicit false
namespace Go.Sx
/-- The least of a list, -1 of none. -/
def mn : List Int → Int
  | [] => -1
  | x :: r => r.foldl min x
theorem mn_snoc (l : List Int) (x : Int) : mn (l ++ [x]) = if l = [] then x else min (mn l) x := by
  cases l with
  | nil => rfl
  | cons y r => simp [mn]
theorem minL_mn {l : List Int} (hl : l ≠ []) (hb : ∀ x ∈ l, x ≤ 9223372036854775807) : minL l = mn l := by
  cases l with
  | nil => exact absurd rfl hl
  | cons x r =>
    have h := hb x (by simp)
    simp only [minL, mn, List.foldl_cons]
    rw [show min 9223372036854775807 x = x by omega]
namespace Tsk
variable (t : Tsk)
def jn (last : Option Int) (v : Int) : Int := match last with
  | some u => t.J u v
  | none => 0
def mi (k : Nat) (last : Option Int) : Int := minL ((t.us (t.T - k)).map fun v => t.jn last v + t.R k v)
def gr : Nat → Option Int → List Int
  | 0, _ => []
  | k + 1, last => match (t.us (t.T - (k + 1))).find? fun v => decide (t.jn last v + t.R (k + 1) v = t.mi (k + 1) last) with
    | some v => v :: gr k (some v)
    | none => []
/-- The units for a target rise. -/
def Rise : Prop := ∀ i, (t.us i).Pairwise (· < ·)
/-- No sum is as great as the greatest int. -/
def Low : Prop := ∀ k last v, k ≤ t.T → 1 ≤ k → v ∈ t.us (t.T - k) → (∀ u, last = some u → u ∈ t.us (t.T - (k + 1))) → t.jn last v + t.R k v ≤ 9223372036854775807
variable {t}
theorem mi_mem {k : Nat} {last : Option Int} (hne : t.us (t.T - k) ≠ []) (hb : ∀ v ∈ t.us (t.T - k), t.jn last v + t.R k v ≤ 9223372036854775807) : ∃ v ∈ t.us (t.T - k), t.jn last v + t.R k v = t.mi k last := by
  have := minL_mem (l := (t.us (t.T - k)).map fun v => t.jn last v + t.R k v) (by simpa using hne) (fun x hx => by
    obtain ⟨v, hv, rfl⟩ := List.mem_map.1 hx
    exact hb v hv)
  obtain ⟨v, hv, he⟩ := List.mem_map.1 this
  exact ⟨v, hv, he⟩
theorem mi_le {k : Nat} {last : Option Int} {v : Int} (hv : v ∈ t.us (t.T - k)) : t.mi k last ≤ t.jn last v + t.R k v := minL_le (List.mem_map_of_mem hv)
theorem find_first {l : List Int} (hl : l.Pairwise (· < ·)) {p : Int → Bool} {v : Int} (h : l.find? p = some v) : v ∈ l ∧ p v = true ∧ ∀ u ∈ l, p u = true → v ≤ u := by
  induction l with
  | nil => simp at h
  | cons x r ih =>
    rw [List.find?_cons] at h
    have hp := List.pairwise_cons.1 hl
    cases hx : p x with
    | true =>
      rw [hx] at h
      cases h
      refine ⟨by simp, hx, fun u hu _ => ?_⟩
      rcases List.mem_cons.1 hu with rfl | hu
      · exact Int.le_refl _
      · exact Int.le_of_lt (hp.1 u hu)
    | false =>
      rw [hx] at h
      obtain ⟨h1, h2, h3⟩ := ih hp.2 h
      refine ⟨by simp [h1], h2, fun u hu hpu => ?_⟩
      rcases List.mem_cons.1 hu with rfl | hu
      · rw [hx] at hpu; cases hpu
      · exact h3 u hu hpu
theorem gr_best (hr : t.Rise) (hp : ∀ i, i < t.T → t.us i ≠ []) (hb : ∀ k last v, k ≤ t.T → 1 ≤ k → v ∈ t.us (t.T - k) → (∀ u, last = some u → u ∈ t.us (t.T - (k + 1))) → t.jn last v + t.R k v ≤ 9223372036854775807) :
    ∀ (k : Nat) (last : Option Int), k ≤ t.T → 1 ≤ k → (∀ u, last = some u → u ∈ t.us (t.T - (k + 1))) → ∃ v r, t.gr k last = v :: r ∧ v :: r ∈ t.tl k ∧ t.jn last v + t.tc (t.T - k) (v :: r) = t.mi k last ∧
      ∀ v' r', v' :: r' ∈ t.tl k → v' :: r' = v :: r ∨ t.mi k last < t.jn last v' + t.tc (t.T - k) (v' :: r') ∨ (t.mi k last = t.jn last v' + t.tc (t.T - k) (v' :: r') ∧ lexLt (v :: r) (v' :: r') = true)
  | 0, _, _, h, _ => by omega
  | k + 1, last, hk, _, hlast => by
    obtain ⟨w, hw1, hw2⟩ := mi_mem (k := k + 1) (last := last) (hp _ (by omega)) (fun v hv => hb (k + 1) last v hk (by omega) hv hlast)
    cases hf : (t.us (t.T - (k + 1))).find? fun v => decide (t.jn last v + t.R (k + 1) v = t.mi (k + 1) last) with
    | none =>
      have := List.find?_eq_none.1 hf w hw1
      simp [hw2] at this
    | some v =>
      obtain ⟨h1, h2, h3⟩ := find_first (hr _) hf
      simp only [decide_eq_true_eq] at h2
      have hg : t.gr (k + 1) last = v :: t.gr k (some v) := by rw [gr, hf]
      by_cases h0 : k = 0
      · subst h0
        refine ⟨v, [], by rw [hg]; rfl, ?_, ?_, fun v' r' hv' => ?_⟩
        · simp only [tl, List.mem_flatMap, List.map_cons, List.map_nil]
          exact ⟨v, h1, by simp⟩
        · rw [← h2]; simp [tc, R]
        · simp only [tl, List.mem_flatMap, List.map_cons, List.map_nil, List.mem_singleton, List.cons.injEq] at hv'
          obtain ⟨u, hu, rfl, rfl⟩ := hv'
          have hle := mi_le (last := last) hu
          have e : t.tc (t.T - (0 + 1)) [v'] = t.R (0 + 1) v' := by simp [tc, R]
          rw [e]
          by_cases e1 : v' = v
          · left; rw [e1]
          · by_cases e2 : t.jn last v' + t.R (0 + 1) v' = t.mi (0 + 1) last
            · right; right
              refine ⟨e2.symm, ?_⟩
              have := h3 v' hu (by simpa using e2)
              simp only [lexLt]
              simp; omega
            · right; left; omega
      · have hmem : v ∈ t.us (t.T - (k + 1)) := h1
        obtain ⟨v2, r2, g1, g2, g3, g4⟩ := gr_best hr hp hb k (some v) (by omega) (by omega) (fun u hu => by cases hu; exact hmem)
        have eT : t.T - (k + 1) + 1 = t.T - k := by omega
        have hR : ∀ u, t.R (k + 1) u = t.F (t.T - (k + 1)) u + t.mi k (some u) := fun u => by rw [R, if_neg h0]; rfl
        have htc : ∀ u a s, t.tc (t.T - (k + 1)) (u :: a :: s) = t.F (t.T - (k + 1)) u + (t.jn (some u) a + t.tc (t.T - k) (a :: s)) := fun u a s => by rw [tc, eT]; simp only [jn]; omega
        refine ⟨v, v2 :: r2, by rw [hg, g1], ?_, ?_, fun v' r' hv' => ?_⟩
        · rw [tl]
          exact List.mem_flatMap.2 ⟨v, h1, List.mem_map_of_mem g2⟩
        · rw [htc, g3, ← hR]; exact h2
        · rw [tl] at hv'
          obtain ⟨u, hu, hm⟩ := List.mem_flatMap.1 hv'
          obtain ⟨s, hs, he⟩ := List.mem_map.1 hm
          simp only [List.cons.injEq] at he
          obtain ⟨rfl, rfl⟩ := he
          have hsl := t.tl_len k s hs
          match s, hsl with
          | [], hsl => simp only [List.length_nil] at hsl; omega
          | a :: s, _ =>
            have hle := mi_le (last := last) hu
            have hle2 : t.mi k (some u) ≤ t.jn (some u) a + t.tc (t.T - k) (a :: s) := by
              obtain ⟨v3, r3, _, _, _, q4⟩ := gr_best hr hp hb k (some u) (by omega) (by omega) (fun x hx => by cases hx; exact hu)
              rename_i q3
              rcases q4 a s hs with h5 | h5 | h5
              · simp only [List.cons.injEq] at h5
                obtain ⟨rfl, rfl⟩ := h5
                omega
              · omega
              · omega
            rw [htc]
            by_cases e1 : u = v
            · subst e1
              rcases g4 a s hs with h5 | h5 | ⟨h5, h6⟩
              · left; rw [h5]
              · right; left; have := hR u; omega
              · right; right
                have := hR u
                refine ⟨by omega, ?_⟩
                show (decide (u < u) || (decide (u = u) && lexLt (v2 :: r2) (a :: s))) = true
                rw [h6]; simp
            · by_cases e2 : t.jn last u + t.R (k + 1) u = t.mi (k + 1) last
              · have h7 := h3 u hu (by simpa using e2)
                have := hR u
                by_cases e3 : t.mi (k + 1) last < t.jn last u + (t.F (t.T - (k + 1)) u + (t.jn (some u) a + t.tc (t.T - k) (a :: s)))
                · exact .inr (.inl e3)
                · right; right
                  refine ⟨by omega, ?_⟩
                  simp only [lexLt]
                  simp; omega
              · right; left; have := hR u; omega
end Tsk
end Go.Sx

/- All sequences, built target by target; put in order by their costs. Plain lemmas, no program text. -/
set_option autoImplicit false
namespace Go.Sx
theorem seqLt_as {x y : List Int × Int} (h : seqLt x y) : ¬ seqLt y x := by
  intro k
  rcases h with h | ⟨h, h'⟩ <;> rcases k with k | ⟨k, k'⟩
  · omega
  · omega
  · omega
  · rw [lex_as _ _ h'] at k'; cases k'
/-- A sorted list that begins with the sorted smaller ones. -/
theorem take_sorted {α : Type} {r : α → α → Prop} (asy : ∀ a b, r a b → ¬ r b a) : ∀ {a b l : List α}, l.Pairwise r → l.Perm (a ++ b) → a.Pairwise r → (∀ x ∈ a, ∀ y ∈ b, r x y) → l.take a.length = a
  | [], _, _, _, _, _, _ => by simp
  | x :: a, b, l, hl, hp, ha, hab => by
    cases l with
    | nil => exact absurd hp.length_eq (by simp)
    | cons y l =>
      have h1 := List.pairwise_cons.1 ha
      have h2 := List.pairwise_cons.1 hl
      have hxl : x ∈ y :: l := hp.mem_iff.2 (by simp)
      have hy : y ∈ x :: a ++ b := hp.mem_iff.1 (by simp)
      have hyx : y = x := by
        rcases List.mem_cons.1 hxl with e | e
        · exact e.symm
        · exfalso
          have k1 := h2.1 x e
          rcases List.mem_append.1 hy with f | f
          · rcases List.mem_cons.1 f with g | g
            · subst g; exact asy _ _ k1 k1
            · exact asy _ _ k1 (h1.1 y g)
          · exact asy _ _ k1 (hab x (by simp) y f)
      subst hyx
      have := take_sorted asy (a := a) (b := b) h2.2 hp.cons_inv h1.2 (fun z hz => hab z (by simp [hz]))
      rw [List.length_cons, List.take_succ_cons, this]
/-- Where a sequence goes: behind those that do not cost more. -/
theorem ins_sorted {out : List (List Int × Int)} (hs : out.Pairwise seqLt) {x : List Int × Int} (hlex : ∀ o ∈ out, lexLt o.1 x.1 = true) {k : Nat} (hk : k ≤ out.length) (hhi : ∀ j, k ≤ j → j < out.length → x.2 < (nth out j).2) (hlo : k = 0 ∨ (nth out (k - 1)).2 ≤ x.2) : (out.take k ++ [x] ++ out.drop k).Pairwise seqLt := by
  have e : out = out.take k ++ out.drop k := (List.take_append_drop k out).symm
  rw [e] at hs
  obtain ⟨p1, p2, p3⟩ := List.pairwise_append.1 hs
  have hd : ∀ o ∈ out.drop k, x.2 < o.2 := fun o ho => by
    obtain ⟨i, hi, rfl⟩ := List.getElem_of_mem ho
    rw [List.length_drop] at hi
    have := hhi (k + i) (by omega) (by omega)
    rw [nth_get (by omega)] at this
    simpa using this
  have ht : ∀ o ∈ out.take k, o.2 ≤ x.2 := fun o ho => by
    rcases hlo with h | h
    · subst h; simp at ho
    · by_cases h0 : k = 0
      · subst h0; simp at ho
      · have e2 : out.take k = out.take (k - 1) ++ [nth out (k - 1)] := by
          have : k - 1 < out.length := by omega
          rw [nth_get this, ← List.take_succ_eq_append_getElem this, show k - 1 + 1 = k by omega]
        rw [e2] at ho p1
        rcases List.mem_append.1 ho with ho | ho
        · have := (List.pairwise_append.1 p1).2.2 o ho _ (List.mem_singleton.2 rfl)
          rcases this with f | ⟨f, _⟩ <;> omega
        · rw [List.mem_singleton.1 ho]; exact h
  refine List.pairwise_append.2 ⟨List.pairwise_append.2 ⟨p1, by simp, fun a ha b hb => ?_⟩, p2, fun a ha b hb => ?_⟩
  · simp only [List.mem_singleton] at hb
    subst hb
    have h1 := ht a ha
    by_cases e1 : a.2 = b.2
    · exact .inr ⟨e1, hlex a (List.mem_of_mem_take ha)⟩
    · exact .inl (by omega)
  · rcases List.mem_append.1 ha with ha | ha
    · exact p3 a ha b hb
    · simp only [List.mem_singleton] at ha
      subst ha
      exact .inl (hd b hb)
namespace Tsk
variable (t : Tsk)
/-- The beginnings with so many targets. -/
def pre : Nat → List (List Int)
  | 0 => [[]]
  | i + 1 => (pre i).flatMap fun s => (t.us i).map fun u => s ++ [u]
theorem pre_len : ∀ i, ∀ s ∈ t.pre i, s.length = i
  | 0, s, h => by simp [pre] at h; simp [h]
  | i + 1, s, h => by
    simp only [pre, List.mem_flatMap, List.mem_map] at h
    obtain ⟨s', hs, u, _, rfl⟩ := h
    simp [pre_len i s' hs]
theorem pre_mem : ∀ i, ∀ s ∈ t.pre i, ∀ k, k < i → nth s k ∈ t.us k
  | 0, _, _, k, hk => by omega
  | i + 1, s, h, k, hk => by
    simp only [pre, List.mem_flatMap, List.mem_map] at h
    obtain ⟨s', hs, u, hu, rfl⟩ := h
    have hl := pre_len t i s' hs
    by_cases e : k = i
    · subst e
      have : nth (s' ++ [u]) k = u := by simp only [nth, List.getD]; rw [List.getElem?_append_right (by omega)]; simp [hl]
      rw [this]; exact hu
    · have : nth (s' ++ [u]) k = nth s' k := by simp only [nth, List.getD]; rw [List.getElem?_append_left (by omega)]
      rw [this]; exact pre_mem i s' hs k (by omega)
theorem pre_tl : ∀ i k, i + k = t.T → t.tl t.T = (t.pre i).flatMap fun s => (t.tl k).map (s ++ ·)
  | 0, k, h => by simp only [pre, List.flatMap_cons, List.flatMap_nil, List.append_nil, List.nil_append]; rw [show t.T = k by omega]; simp
  | i + 1, k, h => by
    rw [pre_tl i (k + 1) (by omega), pre, List.flatMap_assoc]
    congr 1
    funext s
    rw [tl, show t.T - (k + 1) = i by omega, List.map_flatMap, List.flatMap_map]
    congr 1
    funext u
    simp [List.map_map, Function.comp_def]
theorem pre_all : t.tl t.T = t.pre t.T := by
  rw [t.pre_tl t.T 0 (by omega)]
  simp [tl]
theorem lex_cons (u : Int) (a b : List Int) (h : lexLt a b = true) : lexLt (u :: a) (u :: b) = true := by
  show (decide (u < u) || (decide (u = u) && lexLt a b)) = true
  rw [h]; simp
theorem tl_lex (hr : t.Rise) : ∀ k, (t.tl k).Pairwise (fun a b => lexLt a b = true)
  | 0 => by simp [tl]
  | k + 1 => by
    rw [tl, List.pairwise_flatMap]
    refine ⟨fun u _ => List.pairwise_map.2 ((tl_lex hr k).imp fun h => lex_cons u _ _ h), ?_⟩
    refine (hr _).imp fun {u v} huv x hx y hy => ?_
    obtain ⟨a, _, rfl⟩ := List.mem_map.1 hx
    obtain ⟨b, _, rfl⟩ := List.mem_map.1 hy
    show (decide (u < v) || (decide (u = v) && lexLt a b)) = true
    simp [huv]
/-- All sequences in their order. -/
def allS : List (List Int × Int) → Prop := fun l => l.Pairwise seqLt ∧ l.Perm ((t.tl t.T).map fun s => (s, t.tc 0 s))
theorem allS_bf {t : Tsk} {l : List Itm} {out all : List (List Int × Int)} (ha : t.allS all) (h : t.BF l out) : all.take out.length = out := by
  refine take_sorted (r := seqLt) (fun a b h => seqLt_as h) (b := (l.flatMap t.comp).map fun s => (s, t.tc 0 s)) ha.1 (ha.2.trans ?_) h.srt (fun x hx y hy => ?_)
  · have e : out = (out.map (·.1)).map fun s => (s, t.tc 0 s) := by
      rw [List.map_map]
      refine (List.map_id out).symm.trans (List.map_congr_left fun o ho => ?_)
      have := h.cst o ho
      simp only [id, Function.comp]
      rw [← this]
    conv => rhs; lhs; rw [e]
    rw [← List.map_append]
    exact (h.cov.symm.trans List.perm_append_comm).map _
  · obtain ⟨s, hs, rfl⟩ := List.mem_map.1 hy
    exact h.bel x hx s hs
theorem allS_len {t : Tsk} {l : List Itm} {out all : List (List Int × Int)} (ha : t.allS all) (h : t.BF l out) {n : Nat} (h1 : l = [] ∨ out.length = n) (h2 : out.length ≤ n) : out.length = min n all.length := by
  have e1 : all.length = (l.flatMap t.comp).length + out.length := by
    rw [ha.2.length_eq, List.length_map, ← h.cov.length_eq, List.length_append, List.length_map]
  rcases h1 with h1 | h1
  · subst h1
    simp only [List.flatMap_nil, List.length_nil] at e1
    omega
  · omega
/-- The best one is the first one. -/
theorem allS_first {t : Tsk} {all : List (List Int × Int)} (ha : t.allS all) {s : List Int} {c : Int} (h1 : s ∈ t.tl t.T) (h2 : c = t.tc 0 s) (h3 : ∀ s' ∈ t.tl t.T, s' = s ∨ seqLt (s, c) (s', t.tc 0 s')) : ∃ r, all = (s, c) :: r := by
  have hm : (s, c) ∈ all := ha.2.mem_iff.2 (List.mem_map.2 ⟨s, h1, by rw [h2]⟩)
  cases all with
  | nil => cases hm
  | cons y r =>
    refine ⟨r, ?_⟩
    rcases List.mem_cons.1 hm with e | e
    · rw [e]
    · exfalso
      have k1 := (List.pairwise_cons.1 ha.1).1 _ e
      have hy : y ∈ (t.tl t.T).map fun s => (s, t.tc 0 s) := ha.2.mem_iff.1 (by simp)
      obtain ⟨s', hs', rfl⟩ := List.mem_map.1 hy
      rcases h3 s' hs' with f | f
      · subst f; rw [← h2] at k1; exact seqLt_as k1 k1
      · exact seqLt_as k1 f
end Tsk
end Go.Sx

/- Sequences for nothing, more units, no join costs. Plain lemmas, no program text. -/
set_option autoImplicit false
namespace Go.Sx
theorem nth_cons_zero (u : Int) (s : List Int) : nth (u :: s) 0 = u := rfl
theorem nth_cons_succ (u : Int) (s : List Int) (j : Nat) : nth (u :: s) (j + 1) = nth s j := by simp [nth]
namespace Tsk
variable {t : Tsk}
theorem mem_tl : ∀ (k : Nat) (s : List Int), k ≤ t.T → (s ∈ t.tl k ↔ s.length = k ∧ ∀ j, j < k → nth s j ∈ t.us (t.T - k + j))
  | 0, s, _ => by simp [tl]
  | k + 1, s, hk => by
    simp only [tl, List.mem_flatMap, List.mem_map]
    constructor
    · rintro ⟨u, hu, s', hs', rfl⟩
      obtain ⟨h1, h2⟩ := (mem_tl k s' (by omega)).1 hs'
      refine ⟨by simp [h1], fun j hj => ?_⟩
      cases j with
      | zero => exact hu
      | succ j =>
        have := h2 j (by omega)
        rw [show t.T - (k + 1) + (j + 1) = t.T - k + j by omega, nth_cons_succ]
        exact this
    · rintro ⟨h1, h2⟩
      match s, h1 with
      | u :: s', h1 =>
        refine ⟨u, h2 0 (by omega), s', (mem_tl k s' (by omega)).2 ⟨by simpa using h1, fun j hj => ?_⟩, rfl⟩
        have := h2 (j + 1) (by omega)
        rw [show t.T - (k + 1) + (j + 1) = t.T - k + j by omega, nth_cons_succ] at this
        exact this
theorem mem_all {s : List Int} : s ∈ t.tl t.T ↔ s.length = t.T ∧ ∀ j, j < t.T → nth s j ∈ t.us j := by
  rw [mem_tl t.T s (Nat.le_refl _)]
  simp
/-- What a sequence costs depends on its units alone. -/
theorem tc_eq {t t' : Tsk} : ∀ (s : List Int) (i : Nat), (∀ j, j < s.length → t.F (i + j) (nth s j) = t'.F (i + j) (nth s j)) → (∀ j, j + 1 < s.length → t.J (nth s j) (nth s (j + 1)) = t'.J (nth s j) (nth s (j + 1))) → t.tc i s = t'.tc i s
  | [], i, _, _ => rfl
  | [u], i, h, _ => by
    have := h 0 (by simp)
    simpa [tc, nth_cons_zero] using this
  | u :: v :: s, i, h, g => by
    have h0 := h 0 (by simp)
    have g0 := g 0 (by simp)
    have := tc_eq (t := t) (t' := t') (v :: s) (i + 1) (fun j hj => by
      have := h (j + 1) (by simpa using hj)
      rw [nth_cons_succ, show i + (j + 1) = i + 1 + j by omega] at this
      exact this) (fun j hj => by
      have := g (j + 1) (by simpa using hj)
      rw [nth_cons_succ, nth_cons_succ] at this
      exact this)
    simp only [nth_cons_zero, nth_cons_succ, Nat.add_zero] at h0 g0
    simp only [tc, h0, g0, this]
theorem tc_zero (s : List Int) (i : Nat) (h : ∀ j, j < s.length → t.F (i + j) (nth s j) = 0) (g : ∀ j, j + 1 < s.length → t.J (nth s j) (nth s (j + 1)) = 0) : t.tc i s = 0 := by
  have e := tc_eq (t := t) (t' := ⟨0, fun _ => [], fun _ _ => 0, fun _ _ => 0⟩) s i h g
  rw [e]
  have : ∀ (s : List Int) (i : Nat), (⟨0, fun _ => [], fun _ _ => 0, fun _ _ => 0⟩ : Tsk).tc i s = 0 := fun s => by
    induction s with
    | nil => intro i; rfl
    | cons u s ih =>
      intro i
      cases s with
      | nil => rfl
      | cons v s => simp [tc, ih]
  exact this s i
theorem tc_nonneg : ∀ (s : List Int) (i : Nat), (∀ j, j < s.length → 0 ≤ t.F (i + j) (nth s j)) → (∀ j, j + 1 < s.length → 0 ≤ t.J (nth s j) (nth s (j + 1))) → 0 ≤ t.tc i s
  | [], i, _, _ => by simp [tc]
  | [u], i, h, _ => by
    have := h 0 (by simp)
    simpa [tc, nth_cons_zero] using this
  | u :: v :: s, i, h, g => by
    have h0 := h 0 (by simp)
    have g0 := g 0 (by simp)
    have := tc_nonneg (v :: s) (i + 1) (fun j hj => by
      have := h (j + 1) (by simpa using hj)
      rw [nth_cons_succ, show i + (j + 1) = i + 1 + j by omega] at this
      exact this) (fun j hj => by
      have := g (j + 1) (by simpa using hj)
      rw [nth_cons_succ, nth_cons_succ] at this
      exact this)
    simp only [nth_cons_zero, nth_cons_succ, Nat.add_zero] at h0 g0
    simp only [tc]
    omega
theorem tc_cons (hJ : ∀ u v, t.J u v = 0) (i : Nat) (u : Int) (s : List Int) : t.tc i (u :: s) = t.F i u + t.tc (i + 1) s := by
  cases s with
  | nil => simp [tc]
  | cons v s => simp [tc, hJ]
theorem tc_set (hJ : ∀ u v, t.J u v = 0) : ∀ (s : List Int) (i j : Nat) (v : Int), j < s.length → t.tc i (s.set j v) = t.tc i s - t.F (i + j) (nth s j) + t.F (i + j) v
  | [], _, _, _, h => by simp at h
  | u :: s, i, 0, v, _ => by
    rw [List.set_cons_zero, tc_cons hJ, tc_cons hJ, nth_cons_zero]; simp only [Nat.add_zero]; omega
  | u :: s, i, j + 1, v, h => by
    rw [List.set_cons_succ, tc_cons hJ, tc_cons hJ, nth_cons_succ, tc_set hJ s (i + 1) j v (by simpa using h), show i + 1 + j = i + (j + 1) by omega]; omega
theorem lex_set : ∀ (s : List Int) (j : Nat) (v : Int), j < s.length → v < nth s j → lexLt s (s.set j v) = false
  | [], _, _, h, _ => by simp at h
  | u :: s, 0, v, _, h => by
    rw [nth_cons_zero] at h
    rw [List.set_cons_zero, lexLt]
    simp; omega
  | u :: s, j + 1, v, h, g => by
    rw [nth_cons_succ] at g
    have := lex_set s j v (by simpa using h) g
    rw [List.set_cons_succ, lexLt]
    simp [this]
/-- Without join costs, each target has its own best unit. -/
theorem own_best (hJ : ∀ u v, t.J u v = 0) {s : List Int} {c : Int} (h1 : s ∈ t.tl t.T) (h2 : c = t.tc 0 s) (h3 : ∀ s' ∈ t.tl t.T, s' = s ∨ seqLt (s, c) (s', t.tc 0 s')) {i : Nat} (hi : i < t.T) {v : Int} (hv : v ∈ t.us i)
    (ho : v = nth s i ∨ t.F i v < t.F i (nth s i) ∨ (t.F i v = t.F i (nth s i) ∧ v < nth s i)) : v = nth s i := by
  obtain ⟨hl, hm⟩ := mem_all.1 h1
  have hin : s.set i v ∈ t.tl t.T := mem_all.2 ⟨by simp [hl], fun j hj => by
    by_cases e : j = i
    · subst e
      have : nth (s.set j v) j = v := by simp [nth, hl, hj]
      rw [this]; exact hv
    · have : nth (s.set i v) j = nth s j := by simp [nth, List.getElem?_set, Ne.symm e]
      rw [this]; exact hm j hj⟩
  have hc := tc_set hJ s 0 i v (by omega)
  rw [Nat.zero_add] at hc
  rcases h3 _ hin with e | e
  · have : nth (s.set i v) i = v := by simp [nth, hl, hi]
    rw [← this, e]
  · rcases ho with ho | ho | ⟨ho, hv2⟩
    · exact ho
    · exfalso
      rcases e with e | ⟨e, _⟩
      · simp only at e; omega
      · simp only at e; omega
    · exfalso
      rcases e with e | ⟨_, e⟩
      · simp only at e; omega
      · simp only at e
        rw [lex_set s i v (by omega) hv2] at e; cases e
/-- More units make nothing more expensive. -/
theorem more_le {t t' : Tsk} (hT : t'.T = t.T) (hu : ∀ i, i < t.T → ∀ u ∈ t.us i, u ∈ t'.us i) (hF : ∀ i, i < t.T → ∀ u ∈ t.us i, t'.F i u = t.F i u) (hJ : ∀ i k, i < t.T → k < t.T → ∀ u ∈ t.us i, ∀ v ∈ t.us k, t'.J u v = t.J u v)
    {s : List Int} (h1 : s ∈ t.tl t.T) {c' : Int} (h : ∀ s' ∈ t'.tl t'.T, c' ≤ t'.tc 0 s') : c' ≤ t.tc 0 s := by
  obtain ⟨hl, hm⟩ := mem_all.1 h1
  have h2 : s ∈ t'.tl t'.T := mem_all.2 ⟨by rw [hl, hT], fun j hj => hu j (by omega) _ (hm j (by omega))⟩
  have e : t'.tc 0 s = t.tc 0 s := tc_eq s 0 (fun j hj => by
    rw [Nat.zero_add]
    exact hF j (by omega) _ (hm j (by omega))) (fun j hj => hJ j (j + 1) (by omega) (by omega) _ (hm j (by omega)) _ (hm (j + 1) (by omega)))
  rw [← e]; exact h s h2
/-- The best one costs no more than any other. -/
theorem best_le {s : List Int} {c : Int} (h2 : c = t.tc 0 s) (h3 : ∀ s' ∈ t.tl t.T, s' = s ∨ seqLt (s, c) (s', t.tc 0 s')) : ∀ s' ∈ t.tl t.T, c ≤ t.tc 0 s' := fun s' hs => by
  rcases h3 s' hs with e | e | e
  · rw [e, h2]; exact Int.le_refl _
  · simp only at e; omega
  · have := e.1; simp only at this; omega
end Tsk
end Go.Sx

set_option autoImplicit false
set_option maxRecDepth 100000
namespace Go.Proofs.Ytomjbfeafodfbaa
open Go.Sx
open Enc (enc val)
def toWan (u : Un) : Wan := ⟨u.phone, u.before, u.after, u.pitch, u.length⟩
def folB (p : List Un) (i : Nat) : Bool := (List.range i).all fun k => decide (k = 0) || (decide ((nth p (k - 1)).take = (nth p k).take) && decide ((nth p (k - 1)).to = (nth p k).fr))
theorem folB_succ (p : List Un) (i : Nat) : folB p (i + 1) = (folB p i && (decide (i = 0) || (decide ((nth p (i - 1)).take = (nth p i).take) && decide ((nth p (i - 1)).to = (nth p i).fr)))) := by
  simp [folB, List.range_succ]
theorem folB_at {p : List Un} {i : Nat} (h : folB p i = true) {k : Nat} (hk : k + 1 < i) : (nth p k).take = (nth p (k + 1)).take ∧ (nth p k).to = (nth p (k + 1)).fr := by
  have := List.all_eq_true.1 h (k + 1) (by simpa using hk)
  simpa using this
theorem nth_map {α β : Type} [Inhabited α] [Inhabited β] {l : List α} {f : α → β} {i : Nat} (h : i < l.length) : nth (l.map f) i = f (nth l i) := by
  rw [nth_get (by simpa using h), nth_get h]; simp
theorem begin_of {p : List Un} {tgt : List Wan} {x : Wts} (h1 : p.length ≤ 2000) (h2 : tgt.length ≤ 500) (h3 : voiceB p = true) (h4 : tgt.all waB = true) (h5 : wtB x = true) : beginE p tgt x = 0 := by
  rw [beginE, if_neg (by omega), h3, h4, h5]; rfl
theorem toWan_ok {u : Un} (h : unB u = true) : waB (toWan u) = true := by
  simp only [unB, Bool.and_eq_true] at h
  simp only [waB, toWan, Bool.and_eq_true]
  obtain ⟨⟨⟨⟨⟨⟨⟨⟨⟨⟨⟨a, b⟩, c⟩, d⟩, e⟩, _⟩, _⟩, _⟩, _⟩, _⟩, _⟩, _⟩ := h
  exact ⟨⟨⟨⟨a, b⟩, c⟩, d⟩, e⟩
theorem voice_un {p : List Un} (h : voiceB p = true) {u : Un} (hu : u ∈ p) : unB u = true := by
  simp only [voiceB, Bool.and_eq_true] at h
  exact List.all_eq_true.1 h.1.1 _ hu
theorem voice_ok {p : List Un} (h : voiceB p = true) {u : Un} (hu : u ∈ p) : UnOk u := un_ok (voice_un h hu)
theorem poss_iff {p : List Un} {tgt : List Wan} : possP p tgt = true ↔ ∀ i, i < tgt.length → idxs p p.length (nth tgt i).phone ≠ [] := by
  simp [possP]
theorem said_begin {p : List Un} {tgt : List Wan} {x : Wts} (hE : beginE p tgt x = 0) (h5 : p.length ≤ 5) : beginE p (p.map toWan) x = 0 := by
  obtain ⟨h1, h2, h3, h4, h6⟩ := beginE_ok hE
  refine begin_of h1 (by simp; omega) h3 (List.all_eq_true.2 fun t ht => ?_) h6
  obtain ⟨u, hu, rfl⟩ := List.mem_map.1 ht
  exact toWan_ok (voice_un h3 hu)
theorem said_poss (p : List Un) : possP p (p.map toWan) = true := poss_iff.2 fun i hi => by
  simp only [List.length_map] at hi
  refine List.ne_nil_of_mem (a := (i : Int)) (TK.idx_mem.2 ⟨by omega, by omega, ?_⟩)
  rw [nth_map hi]; rfl
theorem fit_self (x : Wts) (u : Un) : fitC x u (toWan u) = 0 := by
  have h : ∀ a : Int, max (a - a) (a - a) = 0 := fun a => by omega
  show x.length * max (u.length - u.length) (u.length - u.length) + (if u.before = u.before then 0 else x.beside) + (if u.after = u.after then 0 else x.beside) + (if 0 < u.pitch ∧ 0 < u.pitch then x.pitch * max (u.pitch - u.pitch) (u.pitch - u.pitch) else if 0 < u.pitch ∨ 0 < u.pitch then 2000 * x.pitch else 0) = 0
  rw [h, h, if_pos rfl, if_pos rfl]
  by_cases hp : 0 < u.pitch
  · rw [if_pos ⟨hp, hp⟩]; omega
  · rw [if_neg (by omega), if_neg (by omega)]; omega
theorem task_bd {p : List Un} {tgt : List Wan} {x : Wts} (hE : beginE p tgt x = 0) {s : List Int} (hs : s ∈ (tsk p tgt x).tl (tsk p tgt x).T) : 0 ≤ (tsk p tgt x).tc 0 s := by
  obtain ⟨h1, h2, hv1, hv2, hv3⟩ := beginE_ok hE
  obtain ⟨hl, hm⟩ := Tsk.mem_all.1 hs
  have hT : (tsk p tgt x).T = tgt.length := rfl
  have hn : ∀ j, j < tgt.length → (nth s j).toNat < p.length := fun j hj => by
    have := TK.idx_mem.1 (hm j hj)
    omega
  refine Tsk.tc_nonneg s 0 (fun j hj => ?_) (fun j hj => ?_)
  · have hj' : j < tgt.length := by omega
    rw [Nat.zero_add]
    exact (fitC_bd (wt_ok hv3) (voice_ok hv1 (nth_mem (hn j hj'))) (wa_ok (List.all_eq_true.1 hv2 _ (nth_mem hj')))).1
  · exact (joinC_bd (wt_ok hv3) (voice_ok hv1 (nth_mem (hn j (by omega)))) (voice_ok hv1 (nth_mem (hn (j + 1) (by omega))))).1
theorem said_zero {p : List Un} {x : Wts} (hE : beginE p (p.map toWan) x = 0) (hf : folB p p.length = true) {s : List Int} {c : Int} (h : BestSeq (tsk p (p.map toWan) x) s c) : c = 0 := by
  obtain ⟨h1, h2, h3⟩ := h
  have hT : (tsk p (p.map toWan) x).T = p.length := by simp [tsk]
  have hnn := task_bd hE h1
  have hm : (List.range p.length).map (fun i : Nat => (i : Int)) ∈ (tsk p (p.map toWan) x).tl (tsk p (p.map toWan) x).T := Tsk.mem_all.2 ⟨by simp [hT], fun j hj => by
    rw [hT] at hj
    rw [nth_map (by simpa using hj), nth_get (by simpa using hj), List.getElem_range]
    refine TK.idx_mem.2 ⟨by omega, by omega, ?_⟩
    rw [nth_map hj]; rfl⟩
  have hz : (tsk p (p.map toWan) x).tc 0 ((List.range p.length).map (fun i : Nat => (i : Int))) = 0 := Tsk.tc_zero _ 0 (fun j hj => by
    simp only [List.length_map, List.length_range] at hj
    rw [nth_map (by simpa using hj), nth_get (by simpa using hj), List.getElem_range, Nat.zero_add]
    show fitC x (nth p ((j : Int)).toNat) (nth (p.map toWan) j) = 0
    rw [nth_map hj, Int.toNat_natCast, fit_self]) (fun j hj => by
    simp only [List.length_map, List.length_range] at hj
    rw [nth_map (by simp; omega), nth_get (by simp; omega), List.getElem_range, nth_map (by simpa using hj), nth_get (by simpa using hj), List.getElem_range]
    show joinC x (nth p ((j : Int)).toNat) (nth p (((j + 1 : Nat) : Int)).toNat) = 0
    rw [Int.toNat_natCast, Int.toNat_natCast, joinC, if_pos (folB_at hf hj)])
  have := Tsk.best_le h2 h3 _ hm
  omega
theorem nth_app {α : Type} [Inhabited α] {l r : List α} {i : Nat} (h : i < l.length) : nth (l ++ r) i = nth l i := by
  simp only [nth, List.getD]; rw [List.getElem?_append_left h]
theorem more_mem {p more : List Un} {c : ByteArray} {v : Int} (h : v ∈ idxs p p.length c) : v ∈ idxs (p ++ more) (p ++ more).length c := by
  obtain ⟨h1, h2, h3⟩ := TK.idx_mem.1 h
  refine TK.idx_mem.2 ⟨h1, by simp; omega, ?_⟩
  rw [nth_app (by omega)]; exact h3
theorem more_poss {p more : List Un} {tgt : List Wan} (h : possP p tgt = true) : possP (p ++ more) tgt = true := poss_iff.2 fun i hi => by
  obtain ⟨v, hv⟩ := List.exists_mem_of_ne_nil _ (poss_iff.1 h i hi)
  exact List.ne_nil_of_mem (more_mem hv)
theorem more_cost {p more : List Un} {tgt : List Wan} {x : Wts} {s s' : List Int} {c c' : Int} (h : BestSeq (tsk p tgt x) s c) (h' : BestSeq (tsk (p ++ more) tgt x) s' c') : c' ≤ c := by
  have hlt : ∀ {i : Nat} {u : Int}, u ∈ (tsk p tgt x).us i → u.toNat < p.length := fun hu => by
    have := TK.idx_mem.1 hu
    omega
  rw [h.2.1]
  refine Tsk.more_le (t := tsk p tgt x) (t' := tsk (p ++ more) tgt x) rfl (fun i hi u hu => more_mem hu) (fun i hi u hu => ?_) (fun i k hi hk u hu v hv => ?_) h.1 (Tsk.best_le h'.2.1 h'.2.2)
  · show fitC x (nth (p ++ more) u.toNat) (nth tgt i) = fitC x (nth p u.toNat) (nth tgt i)
    rw [nth_app (hlt hu)]
  · show joinC x (nth (p ++ more) u.toNat) (nth (p ++ more) v.toNat) = joinC x (nth p u.toNat) (nth p v.toNat)
    rw [nth_app (hlt hu), nth_app (hlt hv)]
def noJoin (x : Wts) : Wts := ⟨x.beside, x.pitch, x.length, 0⟩
theorem noJoin_ok {x : Wts} (h : wtB x = true) : wtB (noJoin x) = true := by
  simp only [wtB, Bool.and_eq_true] at h
  simp only [wtB, noJoin, Bool.and_eq_true]
  exact ⟨h.1, by decide⟩
theorem noJoin_begin {p : List Un} {tgt : List Wan} {x : Wts} (h : beginE p tgt x = 0) : beginE p tgt (noJoin x) = 0 := by
  obtain ⟨h1, h2, h3, h4, h5⟩ := beginE_ok h
  exact begin_of h1 h2 h3 h4 (noJoin_ok h5)
theorem one_begin {p : List Un} {tgt : List Wan} {x : Wts} (h : beginE p tgt x = 0) {i : Nat} (hi : i < tgt.length) : beginE p [nth tgt i] x = 0 := by
  obtain ⟨h1, h2, h3, h4, h5⟩ := beginE_ok h
  exact begin_of h1 (by simp) h3 (by simpa using List.all_eq_true.1 h4 _ (nth_mem hi)) h5
theorem one_poss {p : List Un} {tgt : List Wan} (h : possP p tgt = true) {i : Nat} (hi : i < tgt.length) : possP p [nth tgt i] = true := poss_iff.2 fun j hj => by
  simp only [List.length_singleton] at hj
  obtain rfl : j = 0 := by omega
  exact poss_iff.1 h i hi
theorem own_one {p : List Un} {tgt : List Wan} {x : Wts} {s s1 : List Int} {c c1 : Int} (h : BestSeq (tsk p tgt (noJoin x)) s c) {i : Nat} (hi : i < tgt.length) (h1 : BestSeq (tsk p [nth tgt i] (noJoin x)) s1 c1) : s1 = [nth s i] := by
  have hJ : ∀ u v, (tsk p tgt (noJoin x)).J u v = 0 := fun u v => by
    show joinC (noJoin x) _ _ = 0
    simp [joinC, noJoin]
  obtain ⟨a1, a2, a3⟩ := h
  obtain ⟨b1, b2, b3⟩ := h1
  obtain ⟨hl, hm⟩ := Tsk.mem_all.1 b1
  have hl : s1.length = 1 := hl
  match s1, hl with
  | [v], _ =>
    have hv : v ∈ (tsk p tgt (noJoin x)).us i := hm 0 (Nat.zero_lt_one)
    have hsm := (Tsk.mem_all.1 a1).2 i hi
    have hin : [nth s i] ∈ (tsk p [nth tgt i] (noJoin x)).tl (tsk p [nth tgt i] (noJoin x)).T := Tsk.mem_all.2 ⟨rfl, fun j hj => by
      have hj : j < 1 := hj
      obtain rfl : j = 0 := by omega
      exact hsm⟩
    have e1 : c1 = (tsk p tgt (noJoin x)).F i v := b2
    have e2 : (tsk p [nth tgt i] (noJoin x)).tc 0 [nth s i] = (tsk p tgt (noJoin x)).F i (nth s i) := rfl
    have key := Tsk.own_best hJ a1 a2 a3 (i := i) hi hv (by
      rcases b3 _ hin with e | e | ⟨e, e'⟩
      · left; simp only [List.cons.injEq, and_true] at e; exact e.symm
      · right; left; simp only at e; omega
      · right; right
        simp only at e e'
        refine ⟨by omega, ?_⟩
        simpa [lexLt] using e')
    rw [key]
end Go.Proofs.Ytomjbfeafodfbaa

set_option autoImplicit false
set_option maxRecDepth 100000
namespace Go.Proofs.Ytomjbfeafodfbaa
open Go.Sx
open Enc (enc val)
theorem fade_ex : FadeOk [0, 0, 0] [8, 8, 8] [2, 4, 6] := by
  have hb : ∀ (l : List Int), (∀ x ∈ l, 0 ≤ x ∧ x ≤ 8) → ∀ i, -32768 ≤ nth l i ∧ nth l i ≤ 32767 := fun l hl i => by
    by_cases hi : i < l.length
    · have := hl _ (nth_mem hi); omega
    · simp only [nth, List.getD, List.getElem?_eq_none (show l.length ≤ i by omega)]; simp
  refine ⟨by simp, rfl, rfl, hb _ (by simp), hb _ (by simp), hb _ (by simp), fun i hi => ?_⟩
  simp only [List.length_cons, List.length_nil] at hi
  match i, hi with
  | 0, _ => rfl
  | 1, _ => rfl
  | 2, _ => rfl
theorem fadeX_spec (sx sy : SlV) (w : World) (hx : Stb w [] (RdL sx.v ([0, 0, 0] : List Int))) (hy : Stb w [] (RdL sy.v ([8, 8, 8] : List Int))) : Calls Try.prog 10 #[sx.v, sy.v] w fun e w' => ∃ r : SlV, e = .returned (.tuple #[r.v, .int .i64 0]) ∧ True ∧ Cl w [] [ownL 3 r.v ([2, 4, 6] : List Int)] w' := by
  have ox : WavOk [0, 0, 0] := ⟨by simp, by simp⟩
  have oy : WavOk [8, 8, 8] := ⟨by simp, by simp⟩
  refine calls_cw (vs := [_, _]) Try.func10 rfl Try.ntmps10 rfl (Cl.start0 w) (cw_seq (cw_region (sr rfl rfl rfl ((q_assign rfl rfl)) (sr rfl rfl rfl ((q_assign rfl rfl)) (sw_nil (post_then (cw_seq (cw_seq (cw_region (sr rfl rfl rfl ((q_move rfl rfl)) (sr rfl rfl rfl ((q_move rfl rfl)) ?_)))))))))))
  refine sw_x rfl rfl rfl (e_buildL (l := [sx, sy]) rfl (.cons rfl inferInstance (.cons rfl inferInstance (.nil))) rfl rfl rfl rfl) (fun s9 => ?_)
  have hwr : ∀ {w1 : World} {H : List Asn}, Cl w [] H w1 → ownL 22 s9.v [sx, sy] ∈ H → Stb w1 [] (WavRd [sx, sy] [[0, 0, 0], [8, 8, 8]]) := fun hw hm => ⟨fun w' k s hs => by
    rcases List.mem_cons.1 hs with rfl | hs
    · exact ⟨[0, 0, 0], by simp, (stb_arg hw hx).stb w' k⟩
    · rw [List.mem_singleton.1 hs]
      exact ⟨[8, 8, 8], by simp, (stb_arg hw hy).stb w' k⟩⟩
  have hok : ∀ l ∈ [[0, 0, 0], [8, 8, 8]], WavOk l := fun l hl => by
    rcases List.mem_cons.1 hl with rfl | hl
    · exact ox
    · rw [List.mem_singleton.1 hl]; exact oy
  refine sw_step rfl rfl rfl (q_call (CanCall.mk Try.call15) rfl (.cons rfl inferInstance (.nil)) (fun _ w hw => callq hw (waves_spec s9.v [sx, sy] [[0, 0, 0], [8, 8, 8]] w (stb_own (e := 22) hw (.head _)) (hwr hw (.head _)) hok))) (sr rfl rfl rfl ((q_assign rfl rfl)) (sw_nil (post_then (cw_seq (cw_region (sr rfl rfl rfl ((q_move rfl rfl)) (sr rfl rfl rfl ((q_neq rfl rfl rfl)) (sw_nil (post_then ?_)))))))))
  refine cw_cond rfl (fun h => ?_) (fun h => ?_)
  · skip
    cases h
  · skip
    clear h
    refine cw_skip (post_then (cw_seq (cw_seq (cw_region (sr rfl rfl rfl ((q_move rfl rfl)) ?_)))))
    first | refine sr rfl rfl rfl ((q_len rfl (.cons rfl inferInstance (.nil)) (by first | exact fun w hw => Stb.cl (by assumption) hw | exact fun w hw => rd_own hw (by first | assumption | (repeat first | exact .head _ | apply List.Mem.tail)) | assumption))) ?_ | refine sr rfl rfl rfl ((q_lenV rfl (.cons rfl inferInstance (.nil)))) ?_
    refine sr rfl rfl rfl ((q_move rfl rfl)) ?_
    first | refine sr rfl rfl rfl ((q_len rfl (.cons rfl inferInstance (.nil)) (by first | exact fun w hw => Stb.cl (by assumption) hw | exact fun w hw => rd_own hw (by first | assumption | (repeat first | exact .head _ | apply List.Mem.tail)) | assumption))) ?_ | refine sr rfl rfl rfl ((q_lenV rfl (.cons rfl inferInstance (.nil)))) ?_
    refine sr rfl rfl rfl ((q_neq rfl rfl rfl)) (sr rfl rfl rfl ((q_move rfl rfl)) (sr rfl rfl rfl ((q_move rfl rfl)) ?_))
    first | refine sr rfl rfl rfl ((q_len rfl (.cons rfl inferInstance (.nil)) (by first | exact fun w hw => Stb.cl (by assumption) hw | exact fun w hw => rd_own hw (by first | assumption | (repeat first | exact .head _ | apply List.Mem.tail)) | assumption))) ?_ | refine sr rfl rfl rfl ((q_lenV rfl (.cons rfl inferInstance (.nil)))) ?_
    refine sr rfl rfl rfl ((q_eql rfl rfl rfl)) (sr rfl rfl rfl ((q_or2 rfl rfl rfl)) (sw_nil (post_then ?_)))
    refine cw_cond rfl (fun h => ?_) (fun h => ?_)
    · skip
      simp at h
    · skip
      clear h
      refine cw_skip (post_then (cw_seq (cw_region (sr rfl rfl rfl ((q_move rfl rfl)) (sr rfl rfl rfl ((q_move rfl rfl)) ?_)))))
      refine sw_x rfl rfl rfl (e_call (CanCall.mk Try.call20) rfl (.cons rfl inferInstance (.cons rfl inferInstance (.nil))) (fun w hw => fade_spec sx sy [0, 0, 0] [8, 8, 8] [2, 4, 6] w (stb_arg hw hx) (stb_arg hw hy) fade_ex)) (fun s26 => ?_)
      refine sw_imp fun _ => (sr rfl rfl rfl ((q_assign rfl rfl)) (sr rfl rfl rfl ((q_assign rfl rfl)) (sw_nil (post_then (cw_ret (post_ret2 rfl (resOk_tmp rfl) (resOk_tmp rfl) ?_))))))
      exact fun w' hw => ⟨s26, rfl, trivial, (fun w h => Cl.sel (by (repeat first | exact Sel.nil _ | refine Sel.take 0 rfl ?_ | refine Sel.take 1 rfl ?_ | refine Sel.take 2 rfl ?_ | refine Sel.take 3 rfl ?_ | refine Sel.take 4 rfl ?_ | refine Sel.take 5 rfl ?_ | refine Sel.take 6 rfl ?_ | refine Sel.take 7 rfl ?_ | refine Sel.take 8 rfl ?_ | refine Sel.take 9 rfl ?_ | refine Sel.take 10 rfl ?_ | refine Sel.take 11 rfl ?_)) w h) w' hw⟩
theorem known7_spec (w : World) : Calls Try.prog 5 #[] w fun e w' => e = .returned (.bool true) ∧ Cl w [] [] w' := by
  refine calls_cw (vs := []) Try.func5 rfl Try.ntmps5 rfl (Cl.start0 w) (cw_seq (cw_region (sr rfl rfl rfl ((q_assign rfl rfl)) (sw_nil (post_then (cw_seq (cw_region ?_)))))))
  refine sw_x rfl rfl rfl (e_buildL (α := Int) (l := [0, 0, 0]) rfl (.cons rfl inferInstance (.cons rfl inferInstance (.cons rfl inferInstance (.nil)))) rfl rfl rfl rfl) (fun s4 => ?_)
  refine sw_x rfl rfl rfl (e_buildL (α := Int) (l := [8, 8, 8]) rfl (.cons rfl inferInstance (.cons rfl inferInstance (.cons rfl inferInstance (.nil)))) rfl rfl rfl rfl) (fun s5 => ?_)
  refine sw_x rfl rfl rfl (e_call (CanCall.mk Try.call10) rfl (.cons rfl inferInstance (.cons rfl inferInstance (.nil))) (fun w hw => fadeX_spec s4 s5 w (stb_own (e := 3) hw (by first | assumption | (repeat first | exact .head _ | apply List.Mem.tail))) (stb_own (e := 3) hw (by first | assumption | (repeat first | exact .head _ | apply List.Mem.tail))))) (fun s6 => ?_)
  refine sw_imp fun _ => (sr rfl rfl rfl ((q_move rfl rfl)) ?_)
  first | refine sr rfl rfl rfl ((q_extract rfl rfl rfl)) ?_ | refine sr rfl rfl rfl ((q_extract rfl rfl (nextV_0 _))) ?_
  first | refine sr rfl rfl rfl ((q_extract rfl rfl rfl)) ?_ | refine sr rfl rfl rfl ((q_extract rfl rfl (nextV_0 _))) ?_
  refine sr rfl rfl rfl ((q_assign rfl rfl)) (sr rfl rfl rfl ((q_assign rfl rfl)) (sw_nil (post_then (cw_seq (cw_region (sr rfl rfl rfl ((q_move rfl rfl)) (sr rfl rfl rfl ((q_eql rfl rfl rfl)) (sr rfl rfl rfl ((q_move rfl rfl)) (sr rfl rfl rfl ((q_move rfl rfl)) ?_)))))))))
  refine sw_xc rfl (by first | (simp [AllT]; done) | simp [AllT, *]) rfl rfl (e_buildLc (α := Int) (l := [2, 4, 6]) rfl (.cons rfl inferInstance (.cons rfl inferInstance (.cons rfl inferInstance (.nil)))) rfl rfl rfl rfl) (fun s13 => ?_)
  refine sw_step rfl rfl rfl (q_call (CanCall.mk Try.call8) rfl (.cons rfl inferInstance (.cons rfl inferInstance (.nil))) (fun _ w hw => callq hw (same7_true _ _ [2, 4, 6] [2, 4, 6] rfl w (stb_own (e := 3) hw (by first | assumption | (repeat first | exact .head _ | apply List.Mem.tail))) (stb_own (e := 3) hw (by first | assumption | (repeat first | exact .head _ | apply List.Mem.tail)))))) ?_
  refine sr rfl rfl rfl ((q_and2 rfl rfl rfl)) (sr rfl rfl rfl ((q_assign rfl rfl)) (sw_nil (post_then (cw_ret (post_ret1 rfl (resOk_tmp rfl) ?_)))))
  exact fun w' hw => ⟨rfl, (fun w h => Cl.sel (by (repeat first | exact Sel.nil _ | refine Sel.take 0 rfl ?_ | refine Sel.take 1 rfl ?_ | refine Sel.take 2 rfl ?_ | refine Sel.take 3 rfl ?_ | refine Sel.take 4 rfl ?_ | refine Sel.take 5 rfl ?_ | refine Sel.take 6 rfl ?_ | refine Sel.take 7 rfl ?_ | refine Sel.take 8 rfl ?_ | refine Sel.take 9 rfl ?_ | refine Sel.take 10 rfl ?_ | refine Sel.take 11 rfl ?_)) w h) w' hw⟩
end Go.Proofs.Ytomjbfeafodfbaa

set_option autoImplicit false
set_option maxRecDepth 100000
namespace Go.Proofs.Ytomjbfeafodfbaa
open Go.Sx
open Enc (enc val)
def Cn (l : List Int) (i : Nat) : Nat := ((l.take i).map Int.toNat).sum
theorem Cn_succ {l : List Int} {i : Nat} (h : i < l.length) : Cn l (i + 1) = Cn l i + (nth l i).toNat := by
  rw [Cn, List.take_succ_eq_append_getElem h, List.map_append, List.sum_append, nth_get h]; simp [Cn]
def phS (i : Nat) : ByteArray := ⟨#[UInt8.ofNat (97 + i)]⟩
def un7 (l : List Int) (i : Nat) (b e : SlV) : Un := ⟨phS i, ByteArray.empty, ByteArray.empty, 100, nth l i, 0, Cn l i, (Cn l i : Int) + nth l i, b, e, [(i : Int)], [-(i : Int)]⟩
def uns (l : List Int) (VB VE : List SlV) : List Un := (List.range VB.length).map fun k => un7 l k (nth VB k) (nth VE k)
def wns (l : List Int) (k : Nat) : List Wan := (List.range k).map fun i => ⟨phS i, ByteArray.empty, ByteArray.empty, 100, nth l i⟩
theorem uns_len (l : List Int) (VB VE : List SlV) : (uns l VB VE).length = VB.length := by simp [uns]
theorem uns_nth {l : List Int} {VB VE : List SlV} {i : Nat} (h : i < VB.length) : nth (uns l VB VE) i = un7 l i (nth VB i) (nth VE i) := by
  rw [nth_get (by rw [uns_len]; exact h)]; simp [uns]
theorem nth_snocL {α : Type} [Inhabited α] {l : List α} {x : α} {i : Nat} (h : i < l.length) : nth (l ++ [x]) i = nth l i := by simp only [nth, List.getD]; rw [List.getElem?_append_left h]
theorem nth_snocR {α : Type} [Inhabited α] {l : List α} {x : α} : nth (l ++ [x]) l.length = x := by simp [nth]
theorem uns_snoc {l : List Int} {VB VE : List SlV} {b e : SlV} (h : VE.length = VB.length) : uns l (VB ++ [b]) (VE ++ [e]) = uns l VB VE ++ [un7 l VB.length b e] := by
  unfold uns
  rw [List.length_append, List.length_singleton, List.range_succ, List.map_append]
  congr 1
  · refine List.map_congr_left fun i hi => ?_
    have hi : i < VB.length := by simpa using hi
    rw [nth_snocL hi, nth_snocL (by omega)]
  · have e1 : nth (VE ++ [e]) VB.length = e := by rw [← h]; exact nth_snocR
    simp [nth_snocR, e1]
theorem wns_snoc (l : List Int) (k : Nat) : wns l (k + 1) = wns l k ++ [⟨phS k, ByteArray.empty, ByteArray.empty, 100, nth l k⟩] := by simp [wns, List.range_succ]
theorem wns_len (l : List Int) (k : Nat) : (wns l k).length = k := by simp [wns]
theorem wns_map (l : List Int) (VB VE : List SlV) : (uns l VB VE).map toWan = wns l VB.length := by
  simp only [uns, wns, List.map_map]
  rfl
theorem phS_inj {i j : Nat} (hi : i < 6) (hj : j < 6) (h : phS i = phS j) : i = j := by
  have h1 : UInt8.ofNat (97 + i) = UInt8.ofNat (97 + j) := by
    have := congrArg (fun b : ByteArray => b.data[0]?) h
    simpa [phS] using this
  have h2 := congrArg UInt8.toNat h1
  rw [UInt8.toNat_ofNat', UInt8.toNat_ofNat'] at h2
  omega
theorem phS_ok {i : Nat} (hi : i < 6) : phoneB (phS i) = true := by
  match i, hi with
  | 0, _ => decide +kernel
  | 1, _ => decide +kernel
  | 2, _ => decide +kernel
  | 3, _ => decide +kernel
  | 4, _ => decide +kernel
  | 5, _ => decide +kernel
/-- Lengths that fit: what the law checks. -/
structure LenOk (l : List Int) (N : Nat) : Prop where
  n : 1 ≤ l.length ∧ l.length ≤ 6
  b : ∀ i, i < l.length → 4 ≤ nth l i ∧ (Cn l i : Int) + nth l i ≤ N
  s : N ≤ 300
theorem un7_ok {l : List Int} {N : Nat} (h : LenOk l N) {i : Nat} (hi : i < l.length) (b e : SlV) : unB (un7 l i b e) = true := by
  have h1 := h.b i hi
  have h2 := h.s
  have h3 := h.n
  have hb : besideB ByteArray.empty = true := by simp [besideB]
  have hv : vecB [(i : Int)] = true := by simp [vecB, inB]; omega
  have hw : vecB [-(i : Int)] = true := by simp [vecB, inB]; omega
  simp only [unB, un7, phS_ok (show i < 6 by omega), hb, hv, hw, inB]
  simp
  refine ⟨⟨⟨decide_eq_true ?_, decide_eq_true ?_⟩, decide_eq_true ?_⟩, decide_eq_true ?_⟩ <;> omega
theorem uns_voice {l : List Int} {N : Nat} (h : LenOk l N) {VB VE : List SlV} (hV : VB.length = l.length) : voiceB (uns l VB VE) = true := by
  have h3 := h.n
  simp only [voiceB, Bool.and_eq_true]
  have hm : ∀ u ∈ uns l VB VE, ∃ i, i < l.length ∧ u = un7 l i (nth VB i) (nth VE i) := fun u hu => by
    obtain ⟨i, hi, rfl⟩ := List.mem_map.1 hu
    exact ⟨i, by simpa [hV] using hi, rfl⟩
  refine ⟨⟨List.all_eq_true.2 fun u hu => ?_, List.all_eq_true.2 fun u hu => ?_⟩, by rw [uns_len]; simp; omega⟩
  · obtain ⟨i, hi, rfl⟩ := hm u hu
    exact un7_ok h hi _ _
  · obtain ⟨i, hi, rfl⟩ := hm u hu
    rw [uns_nth (by omega)]
    simp [un7]
theorem uns_begin {l : List Int} {N : Nat} (h : LenOk l N) {VB VE : List SlV} (hV : VB.length = l.length) : beginE (uns l VB VE) ((uns l VB VE).map toWan) ⟨1, 1, 1, 1⟩ = 0 := by
  have h3 := h.n
  have hv := uns_voice h (VE := VE) hV
  refine begin_of (by rw [uns_len]; omega) (by rw [List.length_map, uns_len]; omega) hv (List.all_eq_true.2 fun t ht => ?_) rfl
  obtain ⟨u, hu, rfl⟩ := List.mem_map.1 ht
  exact toWan_ok (voice_un hv hu)
theorem uns_fol {l : List Int} {N : Nat} (h : LenOk l N) {VB VE : List SlV} (hV : VB.length = l.length) : folB (uns l VB VE) (uns l VB VE).length = true := by
  unfold folB
  rw [uns_len]
  refine List.all_eq_true.2 fun k hk => ?_
  have hk : k < VB.length := by simpa using hk
  by_cases h0 : k = 0
  · simp [h0]
  · have hb := h.b (k - 1) (by omega)
    have hc := Cn_succ (l := l) (i := k - 1) (by omega)
    rw [show k - 1 + 1 = k by omega] at hc
    rw [uns_nth (by omega), uns_nth hk]
    simp [un7]
    right
    refine decide_eq_true ?_
    omega
/-- The units that are chosen are those of the recording. -/
theorem uns_self {l : List Int} {N : Nat} (h : LenOk l N) {VB VE : List SlV} (hV : VB.length = l.length) {s : List Int} {c : Int} (hb : BestSeq (tsk (uns l VB VE) ((uns l VB VE).map toWan) ⟨1, 1, 1, 1⟩) s c) : c = 0 ∧ s.length = l.length ∧ ∀ i, i < l.length → nth s i = i := by
  have h3 := h.n
  have hl := uns_len l VB VE
  obtain ⟨hlen, hm⟩ := Tsk.mem_all.1 hb.1
  have hT : (tsk (uns l VB VE) ((uns l VB VE).map toWan) ⟨1, 1, 1, 1⟩).T = l.length := by
    show ((uns l VB VE).map toWan).length = _
    rw [List.length_map]; omega
  rw [hT] at hlen hm
  refine ⟨said_zero (uns_begin h hV) (uns_fol h hV) hb, hlen, fun i hi => ?_⟩
  have h1 := TK.idx_mem.1 (hm i hi)
  obtain ⟨a1, a2, a3⟩ := h1
  rw [nth_map (by omega), uns_nth (by omega), uns_nth (by omega)] at a3
  have := phS_inj (by omega) (by omega) a3
  omega
theorem rcd_ok {a l : List Int} {n : Nat} (ha : WavOk a) (h : LenOk l a.length) (hn : 1 ≤ n ∧ n ≤ 3) : (⟨a, l.length, n, Cn l⟩ : Rcd).Ok := by
  have hs : ∀ i, i < l.length → Cn l (i + 1) = Cn l i + (nth l i).toNat := fun i hi => Cn_succ hi
  refine ⟨ha, h.s, h.n, hn, by simp [Cn], fun i hi => ?_, fun i hi => ?_⟩
  · have hi : i < l.length := hi
    have := h.b i hi
    have := hs i hi
    show Cn l i + 4 ≤ Cn l (i + 1)
    omega
  · show Cn l i ≤ a.length
    have hi : i ≤ l.length := hi
    by_cases h0 : i = 0
    · subst h0; simp [Cn]
    · have h1 := h.b (i - 1) (by omega)
      have h2 := hs (i - 1) (by omega)
      rw [show i - 1 + 1 = i by omega] at h2
      omega
end Go.Proofs.Ytomjbfeafodfbaa

set_option autoImplicit false
set_option maxRecDepth 100000
namespace Go.Proofs.Ytomjbfeafodfbaa
open Go.Sx
open Enc (enc val)
theorem wrap_ph (i : Nat) (h : i < 6) : IntKind.wrap .u8 (97 + (i : Int)) = ((UInt8.ofNat (97 + i)).toNat : Int) := by
  match i, h with
  | 0, _ => rfl
  | 1, _ => rfl
  | 2, _ => rfl
  | 3, _ => rfl
  | 4, _ => rfl
  | 5, _ => rfl
theorem perm_be {α : Type} {B E U W : α} {RB RE : List α} : (B :: E :: U :: W :: (RB ++ RE)).Perm (U :: W :: ((RB ++ [B]) ++ (RE ++ [E]))) := by
  have h1 : [B, E, U, W].Perm [U, W, B, E] := List.perm_append_comm (l₁ := [B, E]) (l₂ := [U, W])
  have h2 : (B :: E :: (RB ++ RE)).Perm ((RB ++ [B]) ++ (RE ++ [E])) := by
    rw [← List.append_assoc]
    refine (List.Perm.swap E B _).trans (List.Perm.trans ?_ (List.perm_append_comm (l₁ := [E]) (l₂ := (RB ++ [B]) ++ RE)))
    refine .cons E ?_
    rw [List.append_assoc]
    exact (List.perm_middle (l₁ := RB) (a := B) (l₂ := RE)).symm
  exact (h1.append_right (RB ++ RE)).trans (.cons U (.cons W h2))
theorem whole_pow {a b : Nat} (ha : a ≤ 6) (hb : b ≤ 6) : (a + 1) ^ b ≤ 500000000 :=
  Nat.le_trans (Nat.pow_le_pow_left (show a + 1 ≤ 7 by omega) _) (Nat.le_trans (Nat.pow_le_pow_right (by omega) hb) (by decide))
set_option maxHeartbeats 4000000 in
theorem lawWhole (sa sl : SlV) (a l : List Int) (n r : Int) (w : World) (ha : Stb w [] (RdL sa.v a)) (hl : Stb w [] (RdL sl.v l)) :
    Calls Try.prog 3 #[sa.v, sl.v, .int .i64 n, .int .i64 r] w fun e w' => e = .returned (.bool true) ∧ Cl w [] [] w' := by
  have hL1 := rd_len ha.here
  have hL2 := rd_len hl.here
  refine calls_cw (vs := [_, _, _, _]) Try.func3 rfl Try.ntmps3 rfl (Cl.start0 w) (cw_seq (cw_region (sr rfl rfl rfl ((q_assign rfl rfl)) (sw_nil (post_then (cw_seq (cw_seq (cw_region (sr rfl rfl rfl ((q_move rfl rfl)) ?_)))))))))
  refine sr rfl rfl rfl ((q_len rfl (.cons rfl inferInstance (.nil)) (by exact fun w hw => Stb.cl (by assumption) hw))) ?_
  refine sr rfl rfl rfl ((q_gtr rfl rfl rfl)) (sr rfl rfl rfl ((q_move rfl rfl)) (sr rfl rfl rfl ((q_move rfl rfl)) (sw_step rfl rfl rfl (q_call (CanCall.mk Try.call4) rfl (.cons rfl inferInstance (.nil)) (fun _ w hw => callq hw (refWave_spec sa a w (stb_arg hw ha)))) (sr rfl rfl rfl ((q_neq rfl rfl rfl)) (sr rfl rfl rfl ((q_or2 rfl rfl rfl)) (sr rfl rfl rfl ((q_move rfl rfl)) (sr rfl rfl rfl ((q_move rfl rfl)) ?_)))))))
  refine sr rfl rfl rfl ((q_len rfl (.cons rfl inferInstance (.nil)) (by exact fun w hw => Stb.cl (by assumption) hw))) ?_
  refine sr rfl rfl rfl ((q_lss rfl rfl rfl)) (sr rfl rfl rfl ((q_or2 rfl rfl rfl)) (sr rfl rfl rfl ((q_move rfl rfl)) (sr rfl rfl rfl ((q_move rfl rfl)) ?_)))
  refine sr rfl rfl rfl ((q_len rfl (.cons rfl inferInstance (.nil)) (by exact fun w hw => Stb.cl (by assumption) hw))) ?_
  refine sr rfl rfl rfl ((q_gtr rfl rfl rfl)) (sr rfl rfl rfl ((q_or2 rfl rfl rfl)) (sr rfl rfl rfl ((q_move rfl rfl)) (sr rfl rfl rfl ((q_move rfl rfl)) (sr rfl rfl rfl ((q_lss rfl rfl rfl)) (sr rfl rfl rfl ((q_or2 rfl rfl rfl)) (sr rfl rfl rfl ((q_move rfl rfl)) (sr rfl rfl rfl ((q_move rfl rfl)) (sr rfl rfl rfl ((q_gtr rfl rfl rfl)) (sr rfl rfl rfl ((q_or2 rfl rfl rfl)) (sr rfl rfl rfl ((q_move rfl rfl)) (sr rfl rfl rfl ((q_move rfl rfl)) (sr rfl rfl rfl ((q_lss rfl rfl rfl)) (sr rfl rfl rfl ((q_or2 rfl rfl rfl)) (sr rfl rfl rfl ((q_move rfl rfl)) (sr rfl rfl rfl ((q_move rfl rfl)) (sr rfl rfl rfl ((q_gtr rfl rfl rfl)) (sr rfl rfl rfl ((q_or2 rfl rfl rfl)) (sw_nil (post_then ?_)))))))))))))))))))
  refine cw_cond rfl (fun h => ?_) (fun h => ?_)
  · skip
    refine cw_seq (cw_region (sw_step rfl rfl rfl (q_call (CanCall.mk Try.call5) rfl (.nil) (fun _ w hw => callq hw (known7_spec w))) (sr rfl rfl rfl ((q_assign rfl rfl)) (sw_nil (post_then (cw_ret (post_then_r (post_ret1 rfl (resOk_tmp rfl) ?_))))))))
    exact fun w' hw => ⟨rfl, (fun w h => Cl.sel (by exact .nil _) w h) w' hw⟩
  · skip
    simp only [Bool.or_eq_false_iff, Bool.not_eq_false', decide_eq_true_eq, decide_eq_false_iff_not] at h
    obtain ⟨⟨⟨⟨⟨⟨⟨g1, g2⟩, g3⟩, g4⟩, g5⟩, g6⟩, g7⟩, g8⟩ := h
    have oa := wavR_ok g2
    obtain ⟨N, rfl⟩ : ∃ N : Nat, n = N := ⟨n.toNat, by omega⟩
    refine cw_skip (post_then (cw_seq (cw_region (sr rfl rfl rfl ((q_assign rfl rfl)) (sw_nil (post_then (cw_seq (cw_region (sr rfl rfl rfl ((q_assign rfl rfl)) (sw_nil (post_then (cw_seq (cw_region (sr rfl rfl rfl ((q_assign rfl rfl)) (sw_nil (post_then (cw_seq (cw_seq (cw_region (sr rfl rfl rfl ((q_assign rfl rfl)) (sw_nil (post_then (cw_block ?_)))))))))))))))))))))))
    refine cw_loop (S := (SlV × SlV) × (List SlV × List SlV)) (fun y => [(0, [], sa.v), (1, [], sl.v), (2, [], .int .i64 N), (3, [], .int .i64 r), (9, [], y.1.1.v), (10, [], y.1.2.v), (11, [], .int .i64 (Cn l y.2.1.length)), (12, [], .int .i64 y.2.1.length)]) (fun y => Cl w [] (ownL 30 y.1.1.v (uns l y.2.1 y.2.2) :: ownL 32 y.1.2.v (wns l y.2.1.length) :: (rowsF 3 y.2.1 (fun i => [(i : Int)]) ++ rowsF 3 y.2.2 (fun i => [-(i : Int)])))) (fun y => y.2.1.length ≤ l.length ∧ y.2.2.length = y.2.1.length ∧ ∀ i, i < y.2.1.length → 4 ≤ nth l i ∧ (Cn l i : Int) + nth l i ≤ a.length) (fun y => l.length - y.2.1.length) ((⟨none, 0, 0⟩, ⟨none, 0, 0⟩), ([], [])) ⟨Nat.zero_le _, rfl, fun i hi => by simp at hi⟩ (by exact .cons rfl (.cons rfl (.cons rfl (.cons rfl (.cons rfl (.cons rfl (.cons rfl (.cons rfl .nil)))))))) (fun _ h => (h.addNil (α := Wan) 32).addNil (α := Un) 30) ?_
    rintro ⟨⟨s9, s10⟩, ⟨VB, VE⟩⟩ ⟨hV, hVE, hb⟩
    dsimp only at hV hVE hb ⊢
    have hcn : Cn l VB.length ≤ a.length := by
      by_cases h0 : VB.length = 0
      · rw [h0]; simp [Cn]
      · have h1 := hb (VB.length - 1) (by omega)
        have h2 := Cn_succ (l := l) (i := VB.length - 1) (by omega)
        rw [show VB.length - 1 + 1 = VB.length by omega] at h2
        omega
    refine cw_seq (cw_seq (cw_region (sr rfl rfl rfl ((q_move rfl rfl)) (sr rfl rfl rfl ((q_move rfl rfl)) ?_))))
    refine sr rfl rfl rfl ((q_len rfl (.cons rfl inferInstance (.nil)) (by exact fun w hw => Stb.cl (by assumption) hw))) ?_
    refine sr rfl rfl rfl ((q_lss rfl rfl rfl)) (sw_nil (post_then ?_))
    refine cw_cond rfl (fun h => ?_) (fun h => ?_)
    · skip
      have hV' : VB.length < l.length := by simp only [decide_eq_true_eq] at h; omega
      refine cw_skip (post_then (cw_seq (cw_block (cw_seq (cw_seq (cw_region (sr rfl rfl rfl ((q_move rfl rfl)) (sr rfl rfl rfl ((q_move rfl rfl)) ?_))))))))
      refine sr rfl rfl rfl ((q_indexN rfl rfl rfl (by exact fun w hw => Stb.cl (by assumption) hw) (by intro hc; omega))) ?_
      refine sr rfl rfl rfl ((q_loadEl rfl rfl rfl (by exact fun w hw => Stb.cl (by assumption) hw) (by intro hc; omega))) ?_
      refine sr rfl rfl rfl ((q_lss rfl rfl rfl)) (sr rfl rfl rfl ((q_move rfl rfl)) (sr rfl rfl rfl ((q_move rfl rfl)) (sr rfl rfl rfl ((q_move rfl rfl)) ?_)))
      refine sr rfl rfl rfl ((q_indexN rfl rfl rfl (by exact fun w hw => Stb.cl (by assumption) hw) (by intro hc; omega))) ?_
      refine sr rfl rfl rfl ((q_loadEl rfl rfl rfl (by exact fun w hw => Stb.cl (by assumption) hw) (by intro hc; omega))) ?_
      refine sr rfl rfl rfl ((q_move rfl rfl)) ?_
      refine sr rfl rfl rfl ((q_len rfl (.cons rfl inferInstance (.nil)) (by exact fun w hw => Stb.cl (by assumption) hw))) ?_
      refine sr rfl rfl rfl ((q_move rfl rfl)) ?_
      refine sr rfl rfl rfl ((q_sub rfl rfl rfl (by intro hc; omega))) ?_
      refine sr rfl rfl rfl ((q_gtr rfl rfl rfl)) (sr rfl rfl rfl ((q_or2 rfl rfl rfl)) (sw_nil (post_then ?_)))
      refine cw_cond rfl (fun h2 => ?_) (fun h2 => ?_)
      · skip
        refine cw_seq (cw_region (sw_step rfl rfl rfl (q_call (CanCall.mk Try.call5) rfl (.nil) (fun _ w hw => callq hw (known7_spec w))) (sr rfl rfl rfl ((q_assign rfl rfl)) (sw_nil (post_then (cw_ret (post_then_r (post_blk_r (post_then_r (post_then_r (post_blk_r (post_then_r (post_ret1 rfl (resOk_tmp rfl) ?_)))))))))))))
        exact fun w' hw => ⟨rfl, cl_drop (F := []) hw⟩
      · skip
        have h3 : 4 ≤ nth l VB.length ∧ (Cn l VB.length : Int) + nth l VB.length ≤ a.length := by
          simp only [Bool.or_eq_false_iff, decide_eq_false_iff_not] at h2; omega
        clear h2
        have hcs := Cn_succ hV'
        refine cw_skip (post_then (cw_seq (cw_region (sr rfl rfl rfl ((q_move rfl rfl)) ?_))))
        refine sr rfl rfl rfl ((q_add rfl rfl rfl (by intro hc; omega))) ?_
        refine sr rfl rfl rfl ((q_conv rfl rfl)) ?_
        rw [wrap_ph VB.length (by omega)]
        refine sw_x rfl rfl rfl (e_build1 (α := UB) (x := ⟨UInt8.ofNat (97 + VB.length)⟩) rfl rfl rfl rfl) (fun s85 => ?_)
        refine sr rfl rfl rfl ((q_bytesStr (l := [⟨UInt8.ofNat (97 + VB.length)⟩]) rfl rfl Try.underlying5 Try.underlying9 (by exact fun w hw => rd_own hw (by exact .head _)) (by simp))) ?_
        refine sw_le (C' := Cl w [] (ownL 30 s9.v (uns l VB VE) :: ownL 32 s10.v (wns l VB.length) :: (rowsF 3 VB (fun i => [(i : Int)]) ++ rowsF 3 VE (fun i => [-(i : Int)])))) (fun w' hw => hw.tail) ?_
        have huL := uns_len l VB VE
        have hwL := wns_len l VB.length
        refine sr rfl rfl rfl ((q_assign rfl rfl)) (sw_nil (post_then (cw_seq ?_)))
        refine cw_cut (S := SlV × (SlV × SlV)) (fun y => [(0, [], sa.v), (1, [], sl.v), (2, [], .int .i64 N), (3, [], .int .i64 r), (9, [], y.1.v), (10, [], s10.v), (11, [], .int .i64 (Cn l VB.length)), (12, [], .int .i64 VB.length), (13, [], .string (phS VB.length))]) (fun y => Cl w [] (ownL 3 y.2.1.v [(VB.length : Int)] :: ownL 3 y.2.2.v [-(VB.length : Int)] :: ownL 30 y.1.v (uns l VB VE ++ [un7 l VB.length y.2.1 y.2.2]) :: ownL 32 s10.v (wns l VB.length) :: (rowsF 3 VB (fun i => [(i : Int)]) ++ rowsF 3 VE (fun i => [-(i : Int)])))) (fun _ => True) ?_ ?_
        · refine cw_region_a (Cl w [] []) [] mixed_Try ?_
          refine aw_pure 0 rfl (by kernel_rfl) (by kernel_rfl) (by kernel_rfl) (by kernel_rfl) (by kernel_rfl) rfl rfl rfl (q_move rfl rfl) ?_
          refine aw_pure 1 rfl (by kernel_rfl) (by kernel_rfl) (by kernel_rfl) (by kernel_rfl) (by kernel_rfl) rfl rfl rfl (q_move rfl rfl) ?_
          refine aw_pure 2 rfl (by kernel_rfl) (by kernel_rfl) (by kernel_rfl) (by kernel_rfl) (by kernel_rfl) rfl rfl rfl (q_move rfl rfl) ?_
          refine aw_pure 3 rfl (by kernel_rfl) (by kernel_rfl) (by kernel_rfl) (by kernel_rfl) (by kernel_rfl) rfl rfl rfl (q_move rfl rfl) ?_
          refine aw_take 4 (fun w h => cl_drop (F := []) h) rfl (by kernel_rfl) (by kernel_rfl) (by kernel_rfl) (by kernel_rfl) (by kernel_rfl) (by kernel_rfl) rfl rfl rfl (q_indexN rfl rfl rfl (by exact fun w hw => Stb.cl (by assumption) hw) (by intro hc; omega)) ?_
          refine aw_take 5 (fun w h => cl_drop (F := []) h) rfl (by kernel_rfl) (by kernel_rfl) (by kernel_rfl) (by kernel_rfl) (by kernel_rfl) (by kernel_rfl) rfl rfl rfl (q_loadEl rfl rfl rfl (by exact fun w hw => Stb.cl (by assumption) hw) (by intro hc; omega)) ?_
          refine aw_pure 6 rfl (by kernel_rfl) (by kernel_rfl) (by kernel_rfl) (by kernel_rfl) (by kernel_rfl) rfl rfl rfl (q_move rfl rfl) ?_
          refine aw_pure 7 rfl (by kernel_rfl) (by kernel_rfl) (by kernel_rfl) (by kernel_rfl) (by kernel_rfl) rfl rfl rfl (q_move rfl rfl) ?_
          refine aw_pure 8 rfl (by kernel_rfl) (by kernel_rfl) (by kernel_rfl) (by kernel_rfl) (by kernel_rfl) rfl rfl rfl (q_move rfl rfl) ?_
          refine aw_pure 9 rfl (by kernel_rfl) (by kernel_rfl) (by kernel_rfl) (by kernel_rfl) (by kernel_rfl) rfl rfl rfl (q_move rfl rfl) ?_
          refine aw_take 10 (fun w h => cl_drop (F := []) h) rfl (by kernel_rfl) (by kernel_rfl) (by kernel_rfl) (by kernel_rfl) (by kernel_rfl) (by kernel_rfl) rfl rfl rfl (q_indexN rfl rfl rfl (by exact fun w hw => Stb.cl (by assumption) hw) (by intro hc; omega)) ?_
          refine aw_take 11 (fun w h => cl_drop (F := []) h) rfl (by kernel_rfl) (by kernel_rfl) (by kernel_rfl) (by kernel_rfl) (by kernel_rfl) (by kernel_rfl) rfl rfl rfl (q_loadEl rfl rfl rfl (by exact fun w hw => Stb.cl (by assumption) hw) (by intro hc; omega)) ?_
          refine aw_pure 12 rfl (by kernel_rfl) (by kernel_rfl) (by kernel_rfl) (by kernel_rfl) (by kernel_rfl) rfl rfl rfl (q_add rfl rfl rfl (by intro hc; omega)) ?_
          refine aw_pure 13 rfl (by kernel_rfl) (by kernel_rfl) (by kernel_rfl) (by kernel_rfl) (by kernel_rfl) rfl rfl rfl (q_move rfl rfl) ?_
          refine aw_pure 15 rfl (by kernel_rfl) (by kernel_rfl) (by kernel_rfl) (by kernel_rfl) (by kernel_rfl) rfl rfl rfl (q_move rfl rfl) ?_
          refine aw_pure 16 rfl (by kernel_rfl) (by kernel_rfl) (by kernel_rfl) (by kernel_rfl) (by kernel_rfl) rfl rfl rfl (q_neg rfl rfl (by intro hc; omega)) ?_
          refine aw_two 14 17 (by kernel_rfl) ?_ ?_
          · skip
            refine at_x 14 rfl rfl rfl rfl (e_build1 (α := Int) (x := (VB.length : Int)) rfl rfl rfl rfl) (fun _ x w h => cl_drop (F := []) h) (fun s101 => ?_)
            refine aw_x 17 (by kernel_rfl) rfl rfl rfl rfl (e_build1 (α := Int) (x := -(VB.length : Int)) rfl rfl rfl rfl) (fun _ x w h => cl_drop (F := []) h) (fun s104 => ?_)
            refine aw_c (C' := Cl w [] (ownL 3 s101.v [(VB.length : Int)] :: ownL 3 s104.v [-(VB.length : Int)] :: ownL 30 s9.v (uns l VB VE) :: ownL 32 s10.v (wns l VB.length) :: (rowsF 3 VB (fun i => [(i : Int)]) ++ rowsF 3 VE (fun i => [-(i : Int)])))) (fun w' hw => hw.perm (.swap _ _ _)) ?_
            refine aw_pure 18 rfl (by kernel_rfl) (by kernel_rfl) (by kernel_rfl) (by kernel_rfl) (by kernel_rfl) rfl rfl rfl (q_build (cells := enc (un7 l VB.length s101 s104)) rfl (.cons rfl inferInstance (.cons rfl inferInstance (.cons rfl inferInstance (.cons rfl inferInstance (.cons rfl inferInstance (.cons rfl inferInstance (.cons rfl inferInstance (.nil)))))))) (by kernel_rfl)) ?_
            refine aw_x 19 (by kernel_rfl) rfl rfl rfl rfl (e_build1 (α := Un) (x := un7 l VB.length s101 s104) rfl rfl rfl rfl) (fun _ x w h => cl_drop (F := []) h) (fun s106 => ?_)
            refine aw_x 20 (by kernel_rfl) rfl rfl rfl rfl (e_append (r := [un7 l VB.length s101 s104]) (i := 3) rfl (.cons rfl inferInstance (.cons rfl inferInstance (.nil))) rfl rfl (fun w hw => rd_own (e := 30) hw (.head _)) (by rw [huL, List.length_singleton]; omega) rfl) (fun _ x w h => cl_drop (F := []) h) (fun s107 => ?_)
            refine aw_pure 21 rfl (by kernel_rfl) (by kernel_rfl) (by kernel_rfl) (by kernel_rfl) (by kernel_rfl) rfl rfl rfl (q_assign rfl rfl) ?_
            refine aw_end (by kernel_rfl) ?_
            exact post_meet (s107, (s101, s104)) (by exact .cons rfl (.cons rfl (.cons rfl (.cons rfl (.cons rfl (.cons rfl (.cons rfl (.cons rfl (.cons rfl .nil))))))))) (fun w' hw => hw.tail) trivial
          · skip
            refine at_x 17 rfl rfl rfl rfl (e_build1 (α := Int) (x := -(VB.length : Int)) rfl rfl rfl rfl) (fun _ x w h => cl_drop (F := []) h) (fun s104 => ?_)
            refine aw_x 14 (by kernel_rfl) rfl rfl rfl rfl (e_build1 (α := Int) (x := (VB.length : Int)) rfl rfl rfl rfl) (fun _ x w h => cl_drop (F := []) h) (fun s101 => ?_)
            refine aw_c (C' := Cl w [] (ownL 3 s101.v [(VB.length : Int)] :: ownL 3 s104.v [-(VB.length : Int)] :: ownL 30 s9.v (uns l VB VE) :: ownL 32 s10.v (wns l VB.length) :: (rowsF 3 VB (fun i => [(i : Int)]) ++ rowsF 3 VE (fun i => [-(i : Int)])))) (fun w' hw => hw) ?_
            refine aw_pure 18 rfl (by kernel_rfl) (by kernel_rfl) (by kernel_rfl) (by kernel_rfl) (by kernel_rfl) rfl rfl rfl (q_build (cells := enc (un7 l VB.length s101 s104)) rfl (.cons rfl inferInstance (.cons rfl inferInstance (.cons rfl inferInstance (.cons rfl inferInstance (.cons rfl inferInstance (.cons rfl inferInstance (.cons rfl inferInstance (.nil)))))))) (by kernel_rfl)) ?_
            refine aw_x 19 (by kernel_rfl) rfl rfl rfl rfl (e_build1 (α := Un) (x := un7 l VB.length s101 s104) rfl rfl rfl rfl) (fun _ x w h => cl_drop (F := []) h) (fun s106 => ?_)
            refine aw_x 20 (by kernel_rfl) rfl rfl rfl rfl (e_append (r := [un7 l VB.length s101 s104]) (i := 3) rfl (.cons rfl inferInstance (.cons rfl inferInstance (.nil))) rfl rfl (fun w hw => rd_own (e := 30) hw (.head _)) (by rw [huL, List.length_singleton]; omega) rfl) (fun _ x w h => cl_drop (F := []) h) (fun s107 => ?_)
            refine aw_pure 21 rfl (by kernel_rfl) (by kernel_rfl) (by kernel_rfl) (by kernel_rfl) (by kernel_rfl) rfl rfl rfl (q_assign rfl rfl) ?_
            refine aw_end (by kernel_rfl) ?_
            exact post_meet (s107, (s101, s104)) (by exact .cons rfl (.cons rfl (.cons rfl (.cons rfl (.cons rfl (.cons rfl (.cons rfl (.cons rfl (.cons rfl .nil))))))))) (fun w' hw => hw.tail) trivial
        · rintro ⟨s107, ⟨s101, s104⟩⟩ _
          dsimp only
          refine post_then (cw_seq (cw_region (sr rfl rfl rfl ((q_move rfl rfl)) (sr rfl rfl rfl ((q_move rfl rfl)) (sr rfl rfl rfl ((q_move rfl rfl)) (sr rfl rfl rfl ((q_move rfl rfl)) ?_))))))
          refine sr rfl rfl rfl ((q_indexN rfl rfl rfl (by exact fun w hw => Stb.cl (by assumption) hw) (by intro hc; omega))) ?_
          refine sr rfl rfl rfl ((q_loadEl rfl rfl rfl (by exact fun w hw => Stb.cl (by assumption) hw) (by intro hc; omega))) ?_
          refine sr rfl rfl rfl ((q_build rfl (.cons rfl inferInstance (.cons rfl inferInstance (.cons rfl inferInstance (.nil)))) rfl)) ?_
          refine sw_x rfl rfl rfl (e_build1 (α := Wan) (x := ⟨phS VB.length, ByteArray.empty, ByteArray.empty, 100, nth l VB.length⟩) rfl rfl rfl rfl) (fun s115 => ?_)
          refine sw_x rfl rfl rfl (e_append (i := 4) rfl (.cons rfl inferInstance (.cons rfl inferInstance (.nil))) rfl rfl (by exact fun w hw => rd_own hw (by exact .head _)) (by rw [hwL, List.length_singleton]; omega) rfl) (fun s116 => ?_)
          refine sr rfl rfl rfl ((q_assign rfl rfl)) (sw_nil (post_then (cw_region (sr rfl rfl rfl ((q_move rfl rfl)) (sr rfl rfl rfl ((q_move rfl rfl)) (sr rfl rfl rfl ((q_move rfl rfl)) ?_))))))
          refine sr rfl rfl rfl ((q_indexN rfl rfl rfl (by exact fun w hw => Stb.cl (by assumption) hw) (by intro hc; omega))) ?_
          refine sr rfl rfl rfl ((q_loadEl rfl rfl rfl (by exact fun w hw => Stb.cl (by assumption) hw) (by intro hc; omega))) ?_
          refine sr rfl rfl rfl ((q_add rfl rfl rfl (by intro hc; omega))) ?_
          refine sr rfl rfl rfl ((q_assign rfl rfl)) (sw_nil (post_blk (post_then (cw_region (sr rfl rfl rfl ((q_move rfl rfl)) ?_)))))
          refine sr rfl rfl rfl ((q_add rfl rfl rfl (by intro hc; omega))) ?_
          refine sr rfl rfl rfl ((q_assign rfl rfl)) (sw_nil ?_)
          refine post_next ((s107, s116), (VB ++ [s101], VE ++ [s104])) ?_ (fun w3 hw3 => ?_) ⟨by simp; omega, by simp; omega, fun i hi => ?_⟩ (by simp; omega)
          · exact Le.cons rfl (Le.cons rfl (Le.cons rfl (Le.cons rfl (Le.cons rfl (Le.cons rfl (Le.cons' rfl (by congr 1; simp only [List.length_append, List.length_singleton, hcs]; omega) (Le.cons' rfl (by congr 1; simp) Le.nil)))))))
          · simp only
            rw [rowsF_snoc, rowsF_snoc, uns_snoc hVE, List.length_append, List.length_singleton, wns_snoc, hVE]
            exact hw3.tail.perm perm_be
          · simp only [List.length_append, List.length_singleton] at hi
            by_cases e : i = VB.length
            · rw [e]; exact h3
            · exact hb i (by omega)
    · skip
      have hV' : VB.length = l.length := by simp only [decide_eq_false_iff_not] at h; omega
      have hlo : LenOk l a.length := ⟨by omega, fun i hi => hb i (by omega), by omega⟩
      rw [hV']
      have hwr : ∀ {w1 : World} {H : List Asn}, Cl w [] (H ++ (ownL 30 s9.v (uns l VB VE) :: ownL 32 s10.v (wns l l.length) :: (rowsF 3 VB (fun i => [(i : Int)]) ++ rowsF 3 VE (fun i => [-(i : Int)])))) w1 → VoRd w1 s9 (uns l VB VE) := fun {w1 H} hw => ⟨stb_own (e := 30) hw (List.mem_append_right _ (.head _)), fun u hu => by
        obtain ⟨i, hi, rfl⟩ := List.mem_map.1 hu
        have hi : i < VB.length := by simpa using hi
        refine ⟨by simp [un7, phS, ByteArray.size], by simp [un7], by simp [un7], ?_, ?_⟩
        · exact stb_own (e := 3) hw (List.mem_append_right _ (.tail _ (.tail _ (List.mem_append_left _ (rowsF_mem (f := fun i => [(i : Int)]) hi)))))
        · exact stb_own (e := 3) hw (List.mem_append_right _ (.tail _ (.tail _ (List.mem_append_right _ (rowsF_mem (f := fun i => [-(i : Int)]) (by omega))))))⟩
      have hwa : ∀ t ∈ wns l l.length, WaRd t := fun t ht => by
        obtain ⟨i, hi, rfl⟩ := List.mem_map.1 ht
        exact ⟨by simp [phS, ByteArray.size], by simp, by simp⟩
      have hmap := wns_map l VB VE
      rw [hV'] at hmap
      have hE := uns_begin hlo (VE := VE) hV'
      have hPo := said_poss (uns l VB VE)
      rw [hmap] at hE hPo
      refine cw_exit (post_then_x (post_then_x (post_blk_eq (post_then (cw_seq (cw_region (sr rfl rfl rfl ((q_move rfl rfl)) (sr rfl rfl rfl ((q_move rfl rfl)) (sr rfl rfl rfl ((q_build rfl (.cons rfl inferInstance (.cons rfl inferInstance (.cons rfl inferInstance (.cons rfl inferInstance (.nil))))) rfl)) ?_)))))))))
      refine sw_x rfl rfl rfl (e_call (CanCall.mk Try.call6) rfl (.cons rfl inferInstance (.cons rfl inferInstance (.cons rfl inferInstance (.nil)))) (fun w hw => choose_yes s9 s10 (uns l VB VE) (wns l l.length) ⟨1, 1, 1, 1⟩ w (hwr (H := []) hw) (stb_own (e := 32) hw (.tail _ (.head _))) hwa hE hPo (by rw [uns_len, wns_len]; exact whole_pow (by omega) (by omega)))) (fun y => ?_)
      refine sw_imp fun hy => ?_
      obtain ⟨⟨s1, s2⟩, ⟨cells, ⟨qus, qc, ql⟩⟩⟩ := y
      dsimp only at hy ⊢
      rw [← hmap] at hy
      obtain ⟨hq0, hql, hqn⟩ := uns_self hlo hV' hy.2
      rw [hmap] at hy
      subst hq0
      refine sw_le (C' := Cl w [] (ownL 3 qus.v ql :: ownL 30 s9.v (uns l VB VE) :: ownL 32 s10.v (wns l l.length) :: (rowsF 3 VB (fun i => [(i : Int)]) ++ rowsF 3 VE (fun i => [-(i : Int)])))) (fun w' hw => hw.tail.tail) ?_
      have huL := uns_len l VB VE
      refine sr rfl rfl rfl ((q_move rfl rfl)) (sr rfl rfl rfl ((q_extract rfl rfl rfl)) (sr rfl rfl rfl ((q_extract rfl rfl rfl)) (sr rfl rfl rfl ((q_extract rfl rfl rfl)) ?_)))
      refine sw_x rfl rfl rfl (e_alloc rfl) (fun b14 => ?_)
      refine sw_eff0 rfl rfl (e_store (i := 0) rfl rfl rfl rfl rfl rfl rfl rfl) (sr rfl rfl rfl ((q_assign rfl rfl)) (sr rfl rfl rfl ((q_assign rfl rfl)) (sw_nil (post_then (cw_seq (cw_seq (cw_region (sr rfl rfl rfl ((q_move rfl rfl)) (sr rfl rfl rfl ((q_neq rfl rfl rfl)) (sr rfl rfl rfl ((q_move rfl rfl)) (sr rfl rfl rfl ((q_fieldAddr rfl rfl)) ?_)))))))))))
      refine sr rfl rfl rfl ((q_loadC rfl rfl (by exact .head _) rfl)) ?_
      refine sr rfl rfl rfl ((q_neq rfl rfl rfl)) (sr rfl rfl rfl ((q_or2 rfl rfl rfl)) (sr rfl rfl rfl ((q_move rfl rfl)) (sr rfl rfl rfl ((q_fieldAddr rfl rfl)) ?_)))
      refine sr rfl rfl rfl ((q_loadC rfl rfl (by exact .head _) rfl)) ?_
      refine sr rfl rfl rfl ((q_len rfl (.cons rfl inferInstance (.nil)) (by exact fun w hw => rd_own hw (by exact .tail _ (.head _))))) ?_
      refine sr rfl rfl rfl ((q_move rfl rfl)) ?_
      refine sr rfl rfl rfl ((q_len rfl (.cons rfl inferInstance (.nil)) (by exact fun w hw => rd_own hw (by exact .tail _ (.tail _ (.head _)))))) ?_
      refine sr rfl rfl rfl ((q_neq rfl rfl rfl)) (sr rfl rfl rfl ((q_or2 rfl rfl rfl)) (sw_nil (post_then ?_)))
      refine cw_cond rfl (fun h => ?_) (fun h => ?_)
      · skip
        exfalso
        simp [huL, hql, hV'] at h
      · skip
        clear h
        have hK := rcd_ok (n := N) oa hlo (by omega)
        refine cw_skip (post_then (cw_seq (cw_region (sr rfl rfl rfl ((q_assign rfl rfl)) (sw_nil (post_then (cw_seq (cw_seq (cw_region (sr rfl rfl rfl ((q_assign rfl rfl)) (sw_nil (post_then (cw_block ?_)))))))))))))
        refine cw_loop (S := SlV × List SlV) (fun y => [(0, [], sa.v), (2, [], .int .i64 N), (3, [], .int .i64 r), (9, [], s9.v), (11, [], .int .i64 (Cn l l.length)), (14, [], .pointer (some ⟨b14, 0, none⟩)), (17, [], y.1.v), (18, [], .int .i64 y.2.length)]) (fun y => Cl w [] [ownL 22 y.1.v y.2, blk b14 (enc (⟨qus, 0, ql⟩ : Sq)) 34, ownL 3 qus.v ql, ownL 30 s9.v (uns l VB VE)]) (fun y => y.2.length ≤ l.length ∧ ∀ i, i < y.2.length → nth y.2 i = sa.sub 1 (Cn l i - N) (Cn l (i + 1))) (fun y => l.length - y.2.length) (⟨none, 0, 0⟩, []) ⟨Nat.zero_le _, fun i hi => by simp at hi⟩ (by exact .cons rfl (.cons rfl (.cons rfl (.cons rfl (.cons rfl (.cons rfl (.cons rfl (.cons rfl .nil)))))))) (fun w' hw => ?_) ?_
        · refine Cl.addNil (α := SlV) 22 ?_
          exact (fun w h => Cl.sel (by exact .take 0 rfl (.take 0 rfl (.take 0 rfl (.nil _)))) w h) w' hw
        rintro ⟨s17, V⟩ ⟨hVl, hVs⟩
        dsimp only at hVl hVs ⊢
        refine cw_seq (cw_seq (cw_region (sr rfl rfl rfl ((q_move rfl rfl)) (sr rfl rfl rfl ((q_fieldAddr rfl rfl)) ?_))))
        refine sr rfl rfl rfl ((q_loadC rfl rfl (by exact .tail _ (.head _)) rfl)) ?_
        refine sr rfl rfl rfl ((q_len rfl (.cons rfl inferInstance (.nil)) (by exact fun w hw => rd_own hw (by exact .tail _ (.tail _ (.head _)))))) ?_
        refine sr rfl rfl rfl ((q_lss rfl rfl rfl)) (sw_nil (post_then ?_))
        refine cw_cond rfl (fun h => ?_) (fun h => ?_)
        · skip
          have hi' : V.length < l.length := by simp only [decide_eq_true_eq] at h; omega
          have hqi := hqn V.length hi'
          have hun := uns_nth (l := l) (VB := VB) (VE := VE) (i := V.length) (by omega)
          have hbi := hlo.b V.length hi'
          have hcs := Cn_succ hi'
          have hfr : (un7 l V.length (nth VB V.length) (nth VE V.length)).fr = (Cn l V.length : Int) := rfl
          have hto : (un7 l V.length (nth VB V.length) (nth VE V.length)).to = (Cn l V.length : Int) + nth l V.length := rfl
          refine cw_skip (post_then (cw_seq (cw_block (cw_seq (cw_seq (cw_region (sr rfl rfl rfl ((q_fieldAddr rfl rfl)) ?_)))))))
          refine sr rfl rfl rfl ((q_loadC rfl rfl (by exact .tail _ (.head _)) rfl)) ?_
          refine sr rfl rfl rfl ((q_move rfl rfl)) ?_
          refine sr rfl rfl rfl ((q_indexN rfl rfl rfl (by exact fun w hw => rd_own hw (by exact .tail _ (.tail _ (.head _)))) (by intro hc; omega))) ?_
          refine sr rfl rfl rfl ((q_loadEl rfl rfl rfl (by exact fun w hw => rd_own hw (by exact .tail _ (.tail _ (.head _)))) (by intro hc; omega))) ?_
          refine sr rfl rfl rfl ((q_move rfl rfl)) (sr rfl rfl rfl ((q_neq rfl rfl rfl)) (sw_nil (post_then ?_)))
          refine cw_cond rfl (fun h2 => ?_) (fun h2 => ?_)
          · skip
            exfalso
            rw [hqi] at h2
            simp at h2
          · skip
            clear h2
            refine cw_skip (post_then (cw_seq (cw_region (sr rfl rfl rfl ((q_move rfl rfl)) (sr rfl rfl rfl ((q_fieldAddr rfl rfl)) ?_)))))
            refine sr rfl rfl rfl ((q_loadC rfl rfl (by exact .tail _ (.head _)) rfl)) ?_
            refine sr rfl rfl rfl ((q_move rfl rfl)) ?_
            refine sr rfl rfl rfl ((q_indexN rfl rfl rfl (by exact fun w hw => rd_own hw (by exact .tail _ (.tail _ (.head _)))) (by intro hc; omega))) ?_
            refine sr rfl rfl rfl ((q_loadElY hqi rfl rfl rfl (by exact fun w hw => rd_own hw (by exact .tail _ (.tail _ (.head _)))) (by intro hc; omega))) ?_
            refine sr rfl rfl rfl ((q_indexN rfl rfl rfl (by exact fun w hw => rd_own hw (by exact .tail _ (.tail _ (.tail _ (.head _))))) (by intro hc; omega))) ?_
            refine sr rfl rfl rfl ((q_loadElY hun rfl rfl rfl (by exact fun w hw => rd_own hw (by exact .tail _ (.tail _ (.tail _ (.head _))))) (by intro hc; omega))) ?_
            refine sw_x rfl rfl rfl (e_alloc rfl) (fun b19 => ?_)
            refine sw_eff0 rfl rfl (e_store (i := 0) rfl rfl rfl rfl rfl rfl rfl rfl) (sw_nil (post_then (cw_region (sr rfl rfl rfl ((q_move rfl rfl)) (sr rfl rfl rfl ((q_move rfl rfl)) (sr rfl rfl rfl ((q_fieldAddr rfl rfl)) ?_))))))
            refine sr rfl rfl rfl ((q_loadC rfl rfl (by exact .head _) rfl)) ?_
            refine sr rfl rfl rfl ((q_move rfl rfl)) ?_
            refine sr rfl rfl rfl ((q_sub rfl rfl rfl (by intro hc; omega))) ?_
            refine sr rfl rfl rfl ((q_max rfl (.cons rfl inferInstance (.cons rfl inferInstance (.nil))))) (sr rfl rfl rfl ((q_fieldAddr rfl rfl)) ?_)
            refine sr rfl rfl rfl ((q_loadC rfl rfl (by exact .head _) rfl)) ?_
            refine sr rfl rfl rfl ((q_slice2 rfl rfl rfl rfl (by exact fun w hw => Stb.cl (by assumption) hw) (by intro hc; omega))) ?_
            refine sw_x rfl rfl rfl (e_build1 (α := SlV) rfl rfl rfl rfl) (fun s178 => ?_)
            refine sw_x rfl rfl rfl (e_append (i := 2) rfl (.cons rfl inferInstance (.cons rfl inferInstance (.nil))) rfl rfl (by exact fun w hw => rd_own hw (by exact .head _)) (by simp only [List.length_set, List.length_append, List.length_cons, List.length_nil, List.length_replicate, List.length_take, List.length_drop, List.length_map]; omega) rfl) (fun s179 => ?_)
            refine sr rfl rfl rfl ((q_assign rfl rfl)) (sw_nil (post_blk (post_then (cw_region (sr rfl rfl rfl ((q_move rfl rfl)) ?_)))))
            refine sr rfl rfl rfl ((q_add rfl rfl rfl (by intro hc; omega))) ?_
            refine sr rfl rfl rfl ((q_assign rfl rfl)) (sw_nil ?_)
            refine post_next (s179, V ++ [sa.sub 1 (max 0 ((un7 l V.length (nth VB V.length) (nth VE V.length)).fr - N)).toNat ((un7 l V.length (nth VB V.length) (nth VE V.length)).to).toNat]) ?_ (fun w3 hw3 => ?_) ⟨by simp; omega, fun i hi => ?_⟩ (by simp; omega)
            · exact Le.cons rfl (Le.cons rfl (Le.cons rfl (Le.cons rfl (Le.cons rfl (Le.cons rfl (Le.cons rfl (Le.cons' rfl (by congr 1; simp) Le.nil)))))))
            · exact (fun w h => Cl.sel (by exact .take 2 rfl (.take 2 rfl (.take 2 rfl (.take 2 rfl (.nil _))))) w h) w3 hw3
            · simp only [List.length_append, List.length_singleton] at hi
              by_cases e : i = V.length
              · rw [e, nth_snocR]
                congr 1
                · omega
                · omega
              · rw [nth_snocL (by omega)]; exact hVs i (by omega)
        · skip
          have hi' : V.length = l.length := by simp only [decide_eq_false_iff_not] at h; omega
          have hpc : ∀ {w1 : World} {H : List Asn}, Cl w [] H w1 → ownL 22 s17.v V ∈ H → Stb w1 [] (PcRd ⟨a, l.length, N, Cn l⟩ s17 V) := fun hw hm => ⟨fun w' k => ⟨(stb_own hw hm).stb w' k, hi', fun i hi => by
            have hi : i < l.length := hi
            have h1 := hK.cm (i + 1) (show i + 1 ≤ l.length by omega)
            have h2 := hK.c i hi
            have h1 : Cn l (i + 1) ≤ a.length := h1
            have h2 : Cn l i + 4 ≤ Cn l (i + 1) := h2
            rw [hVs i (by omega)]
            exact rd_sub ((stb_arg hw ha).stb w' k) (by omega) h1⟩⟩
          refine cw_exit (post_then_x (post_then_x (post_blk_eq (post_then (cw_seq (cw_region (sr rfl rfl rfl ((q_move rfl rfl)) (sr rfl rfl rfl ((q_move rfl rfl)) (sr rfl rfl rfl ((q_move rfl rfl)) ?_)))))))))
          refine sw_x rfl rfl rfl (e_call (CanCall.mk Try.call7) rfl (.cons rfl inferInstance (.cons rfl inferInstance (.cons rfl inferInstance (.nil)))) (fun w hw => chain_spec ⟨a, l.length, N, Cn l⟩ hK s17 V r (by omega) w (hpc hw (.head _)))) (fun y => ?_)
          refine sw_imp fun _ => ?_
          obtain ⟨s20, s21⟩ := y
          dsimp only
          have hcl : Cn l l.length ≤ a.length := hK.cm l.length (Nat.le_refl _)
          have hst : Stb w [] (RdL (sa.sub (Enc.sz Int) 0 (Cn l l.length)).v (a.take (Cn l l.length))) := by
            have := stb_sub ha (a := 0) (b := Cn l l.length) (Nat.zero_le _) hcl
            rwa [List.drop_zero] at this
          have hbl : (Rcd.bg ⟨a, l.length, N, Cn l⟩ l.length).length = l.length := Rcd.bg_len _
          refine sr rfl rfl rfl ((q_move rfl rfl)) (sr rfl rfl rfl ((q_extract rfl rfl rfl)) (sr rfl rfl rfl ((q_extract rfl rfl rfl)) (sr rfl rfl rfl ((q_extract rfl rfl rfl)) (sr rfl rfl rfl ((q_assign rfl rfl)) (sr rfl rfl rfl ((q_assign rfl rfl)) (sr rfl rfl rfl ((q_assign rfl rfl)) (sw_nil (post_then (cw_seq (cw_seq (cw_region (sr rfl rfl rfl ((q_move rfl rfl)) (sr rfl rfl rfl ((q_neq rfl rfl rfl)) (sr rfl rfl rfl ((q_move rfl rfl)) (sr rfl rfl rfl ((q_move rfl rfl)) (sr rfl rfl rfl ((q_move rfl rfl)) (sr rfl rfl rfl ((q_move rfl rfl)) ?_)))))))))))))))))
          refine sr rfl rfl rfl ((q_sliceH rfl rfl rfl (by exact fun w hw => Stb.cl (by assumption) hw) (by intro hc; omega))) ?_
          refine sw_step rfl rfl rfl (q_call (CanCall.mk Try.call8) rfl (.cons rfl inferInstance (.cons rfl inferInstance (.nil))) (fun _ w hw => callq hw (same7_true _ _ (a.take (Cn l l.length)) (a.take (Cn l l.length)) rfl w (stb_own (e := 3) hw (.head _)) (stb_arg hw hst)))) (sr rfl rfl rfl ((q_not rfl rfl)) (sr rfl rfl rfl ((q_or2 rfl rfl rfl)) (sw_nil (post_then ?_))))
          refine cw_cond rfl (fun h3 => ?_) (fun h3 => ?_)
          · skip
            simp at h3
          · skip
            clear h3
            refine cw_skip (post_then (cw_seq (cw_seq (cw_region (sr rfl rfl rfl ((q_assign rfl rfl)) (sw_nil (post_then (cw_block ?_))))))))
            refine cw_loop (S := Nat) (fun i => [(2, [], .int .i64 N), (9, [], s9.v), (21, [], s21.v), (23, [], .int .i64 i)]) (fun _ => Cl w [] [ownL 3 s21.v (Rcd.bg ⟨a, l.length, N, Cn l⟩ l.length), ownL 30 s9.v (uns l VB VE)]) (fun i => i ≤ l.length ∧ 1 ≤ i) (fun i => l.length - i) 1 ⟨by omega, Nat.le_refl _⟩ (by exact .cons rfl (.cons rfl (.cons rfl (.cons rfl .nil)))) (fun w' hw => (fun w h => Cl.sel (by exact .take 1 rfl (.take 4 rfl (.nil _))) w h) w' hw) ?_
            rintro i ⟨hi, h1i⟩
            refine cw_seq (cw_seq (cw_region (sr rfl rfl rfl ((q_move rfl rfl)) (sr rfl rfl rfl ((q_move rfl rfl)) ?_))))
            refine sr rfl rfl rfl ((q_len rfl (.cons rfl inferInstance (.nil)) (by exact fun w hw => rd_own hw (by exact .head _)))) ?_
            refine sr rfl rfl rfl ((q_lss rfl rfl rfl)) (sw_nil (post_then ?_))
            refine cw_cond rfl (fun h4 => ?_) (fun h4 => ?_)
            · skip
              have hi2 : i < l.length := by simp only [decide_eq_true_eq] at h4; omega
              have hun := uns_nth (l := l) (VB := VB) (VE := VE) (i := i) (by omega)
              have hci := hK.cm i (show i ≤ l.length by omega)
              have hci : Cn l i ≤ a.length := hci
              have hfr : (nth (uns l VB VE) i).fr = (Cn l i : Int) := by rw [hun]; rfl
              have hbg : nth (Rcd.bg ⟨a, l.length, N, Cn l⟩ l.length) i = (Cn l i : Int) - N := by
                rw [nth_get (by omega)]
                simp [Rcd.bg, show ¬ i = 0 by omega]
              refine cw_skip (post_then (cw_seq (cw_block (cw_seq ?_))))
              refine cw_region_q mixed_Try (by kernel_rfl) ?_
              refine qr rfl rfl rfl ((q_move rfl rfl)) (qr rfl rfl rfl ((q_move rfl rfl)) ?_)
              refine qr rfl rfl rfl ((q_indexN rfl rfl rfl (by exact fun w hw => rd_own hw (by exact .head _)) (by intro hc; omega))) ?_
              refine qr rfl rfl rfl ((q_loadEl rfl rfl rfl (by exact fun w hw => rd_own hw (by exact .head _)) (by intro hc; omega))) ?_
              refine qr rfl rfl rfl ((q_move rfl rfl)) (qr rfl rfl rfl ((q_move rfl rfl)) ?_)
              refine qr rfl rfl rfl ((q_indexN rfl rfl rfl (by exact fun w hw => rd_own hw (by exact .tail _ (.head _))) (by intro hc; omega))) ?_
              refine qr rfl rfl rfl ((q_fieldEl rfl rfl (by exact fun w hw => rd_own hw (by exact .tail _ (.head _))) (by intro hc; omega))) ?_
              refine qr rfl rfl rfl ((q_loadF rfl rfl rfl (by exact fun w hw => rd_own hw (by exact .tail _ (.head _))) (by intro hc; omega) rfl)) ?_
              refine qr rfl rfl rfl ((q_move rfl rfl)) ?_
              refine qr rfl rfl rfl ((q_sub rfl rfl rfl (by intro hc; omega))) ?_
              refine qr rfl rfl rfl ((q_neq rfl rfl rfl)) (qw_end (post_then ?_))
              refine cw_cond rfl (fun h5 => ?_) (fun h5 => ?_)
              · skip
                rw [hbg, hfr] at h5
                simp at h5
              · skip
                refine cw_skip (post_blk (post_then (cw_region (sr rfl rfl rfl ((q_move rfl rfl)) ?_))))
                refine sr rfl rfl rfl ((q_add rfl rfl rfl (by intro hc; omega))) ?_
                refine sr rfl rfl rfl ((q_assign rfl rfl)) (sw_nil ?_)
                exact post_next (i + 1) (by exact .cons rfl (.cons rfl (.cons rfl (.cons rfl .nil)))) (fun _ h => h) (by omega) (by omega)
            · skip
              refine cw_exit (post_then_x (post_then_x (post_blk_eq (post_then (cw_seq (cw_region (sr rfl rfl rfl ((q_move rfl rfl)) ?_)))))))
              refine sr rfl rfl rfl ((q_len rfl (.cons rfl inferInstance (.nil)) (by exact fun w hw => rd_own hw (by exact .head _)))) ?_
              refine sr rfl rfl rfl ((q_move rfl rfl)) ?_
              refine sr rfl rfl rfl ((q_len rfl (.cons rfl inferInstance (.nil)) (by exact fun w hw => rd_own hw (by exact .tail _ (.head _))))) ?_
              refine sr rfl rfl rfl ((q_eql rfl rfl rfl)) (sr rfl rfl rfl ((q_move rfl rfl)) (sw_step rfl rfl rfl (q_call (CanCall.mk Try.call5) rfl (.nil) (fun _ w hw => callq hw (known7_spec w))) (sr rfl rfl rfl ((q_and2 rfl rfl rfl)) (sr rfl rfl rfl ((q_assign rfl rfl)) (sw_nil (post_then (cw_ret (post_ret1 rfl (resOk_tmp rfl) ?_))))))))
              exact fun w' hw => ⟨by simp; omega, (fun w h => Cl.sel (by exact .nil _) w h) w' hw⟩
end Go.Proofs.Ytomjbfeafodfbaa

/-
  What came in, opened by its type: cells and what they read as, whatever the shape. General lemmas, no program text.
-/
set_option autoImplicit false
set_option linter.unusedSectionVars false
namespace Go.Sx
open Go.ChangeShapes Go.WideShapes Go.ChangeAt Go.RowKit Go.WideElems
/-- A value of type t that came in: its cells are those of some x; it reads as some y. -/
class Deep (P : Program) (t : TypeId) (α β : outParam Type) [Enc α] where
  rd : α → β → World → Prop
  keep : ∀ {a : α} {b : β} {w w' : World}, rd a b w → Chg [] w w' → rd a b w'
  opens : ∀ {H : Type} {enc : TypeId × Value → H} {w : World} {sp : Nat → Bool} {fuel : Nat} {cs : List Value} {x : DataW H × List MemPlace}, DataW.trod enc P w 0 sp true fuel t cs = some x → ∃ a b, cs = Enc.enc a ∧ rd a b w
  vals : ∀ {w : World} {r : Reach} {b0 : Nat} {v : Value} {a : α}, Value.okWide P w r b0 t v → v.cells = (Enc.enc a).toArray → v = Enc.val a
theorem open_deep {P : Program} {t : TypeId} {α β : Type} [Enc α] [hD : Deep P t α β] {H : Type} {enc : TypeId × Value → H} {W : World} {r : Reach} {b0 : Nat} {v : Value} {d : DataW H} {ps : List MemPlace}
    (hval : Value.okWide P W r b0 t v) (hd : DataW.Trod enc P W 0 (fun _ => true) true t v d ps) : ∃ (a : α) (b : β), v = Enc.val a ∧ Stb W [] (hD.rd a b) := by
  obtain ⟨fuel, hf⟩ := hd
  obtain ⟨a, b, hc, hr⟩ := hD.opens hf
  exact ⟨a, b, hD.vals hval (by rw [← hc]), ⟨fun w' k => hD.keep hr k⟩⟩
/-- int -/
@[reducible] def deepInt {P : Program} {t : TypeId} (ht : P.underlying t = some (.int .i64)) : Deep P t Int Int where
  rd a b _ := a = b ∧ -9223372036854775808 ≤ b ∧ b ≤ 9223372036854775807
  keep h _ := h
  opens h := by
    obtain ⟨n, h1, _, hw⟩ := DataW.trod_int ht h
    refine ⟨n, n, h1, rfl, ?_⟩
    have e1 : IntKind.i64.min = -9223372036854775808 := by decide
    have e2 : IntKind.i64.max = 9223372036854775807 := by decide
    simp [Lit.wf, e1, e2] at hw
    omega
  vals hv hc := by
    obtain ⟨n, rfl⟩ := okWide_int ht hv
    simpa [Value.cells, Enc.enc, Enc.val] using hc
@[reducible] def deepBool {P : Program} {t : TypeId} (ht : P.underlying t = some .bool) : Deep P t Bool Bool where
  rd a b _ := a = b
  keep h _ := h
  opens h := by
    obtain ⟨n, h1, _⟩ := DataW.trod_bool ht h
    exact ⟨n, n, h1, rfl⟩
  vals hv hc := by
    obtain ⟨n, rfl⟩ := okWide_bool ht hv
    simpa [Value.cells, Enc.enc, Enc.val] using hc
@[reducible] def deepString {P : Program} {t : TypeId} (ht : P.underlying t = some .string) : Deep P t ByteArray ByteArray where
  rd a b _ := a = b ∧ b.size ≤ maxLen
  keep h _ := h
  opens h := by
    obtain ⟨n, h1, _, hw⟩ := DataW.trod_string ht h
    exact ⟨n, n, h1, rfl, hw⟩
  vals hv hc := by
    obtain ⟨n, rfl⟩ := okWide_string ht hv
    simpa [Value.cells, Enc.enc, Enc.val] using hc
/-- Slices. -/
def rdSl {α β : Type} [Enc α] (rd : α → β → World → Prop) (s : SlV) (l : List β) (w : World) : Prop :=
  ∃ ls : List α, RdL s.v ls w ∧ ls.length = l.length ∧ ∀ (i : Nat) (a : α) (b : β), ls[i]? = some a → l[i]? = some b → rd a b w
theorem rdSl_flat {α : Type} [Enc α] {rd : α → α → World → Prop} (hf : ∀ a b w, rd a b w → a = b) {s : SlV} {l : List α} {w : World} (h : rdSl rd s l w) : RdL s.v l w := by
  obtain ⟨ls, h1, h2, h3⟩ := h
  have : ls = l := by
    refine List.ext_getElem h2 fun i hi hj => ?_
    exact hf _ _ _ (h3 i _ _ (List.getElem?_eq_getElem hi) (List.getElem?_eq_getElem hj))
  rw [← this]; exact h1
theorem stb_flat {α : Type} [Enc α] {rd : α → α → World → Prop} (hf : ∀ a b w, rd a b w → a = b) {s : SlV} {l : List α} {w : World} {fp : List Nat} (h : Stb w fp (rdSl rd s l)) : Stb w fp (RdL s.v l) := ⟨fun w' k => rdSl_flat hf (h.stb w' k)⟩
theorem rdSl_mem {α β : Type} [Enc α] {rd : α → β → World → Prop} {p : β → Prop} (hf : ∀ a b w, rd a b w → p b) {s : SlV} {l : List β} {w : World} (h : rdSl rd s l w) : ∀ b ∈ l, p b := by
  obtain ⟨ls, h1, h2, h3⟩ := h
  intro b hb
  obtain ⟨i, hi, rfl⟩ := List.getElem_of_mem hb
  exact hf _ _ _ (h3 i _ _ (List.getElem?_eq_getElem (by omega)) (List.getElem?_eq_getElem hi))
theorem pick {α : Type} {n : Nat} {p : Nat → α → Prop} (h : ∀ i, i < n → ∃ a, p i a) : ∃ l : List α, l.length = n ∧ ∀ i a, l[i]? = some a → p i a := by
  induction n with
  | zero => exact ⟨[], rfl, fun i a h => by simp at h⟩
  | succ n ih =>
    obtain ⟨l, hl, hp⟩ := ih fun i hi => h i (by omega)
    obtain ⟨a, ha⟩ := h n (by omega)
    refine ⟨l ++ [a], by simp [hl], fun i b hb => ?_⟩
    by_cases hi : i < n
    · rw [List.getElem?_append_left (by omega)] at hb; exact hp i b hb
    · by_cases hi' : i = n
      · subst hi'
        rw [List.getElem?_append_right (by omega), hl] at hb
        simp at hb; subst hb; exact ha
      · rw [List.getElem?_eq_none (by simp; omega)] at hb; cases hb
/-- A row of cells as the memory holds it. -/
theorem cells_at {w : World} {base : Nat} {a : Addr} {n : Nat} {cs : List Value} (h : w.cells? base a n = some cs) : cs.length = n ∧ ∀ j v, cs[j]? = some v → w.cell? (a.add j) = some v := by
  unfold World.cells? at h
  split at h
  · have hl := mapM_some_length h
    rw [List.length_range] at hl
    refine ⟨hl, fun j v hj => ?_⟩
    have hlt := (List.getElem?_eq_some_iff.1 hj).1
    have := mapM_some_get h j j (List.getElem?_range (by omega))
    rw [this, hj]
  · cases h
@[reducible] def deepSlice {P : Program} {t e : TypeId} {α β : Type} [Enc α] (ht : P.underlying t = some (.slice e)) (hc : P.cellsOf e = Enc.sz α) [hD : Deep P e α β] : Deep P t SlV (List β) where
  rd := rdSl hD.rd
  keep := fun ⟨ls, h1, h2, h3⟩ k => ⟨ls, (rd_stb h1).stb _ k, h2, fun i a b ha hb => hD.keep (h3 i a b ha hb) k⟩
  opens {H enc w sp fuel cs x} h := by
    rcases DataW.trod_slice ht h with ⟨rfl, _⟩ | ⟨a, len, cap, elems, rest, n, _, rfl, _, _, hl, hm, hlen, hel, _, _⟩
    · exact ⟨⟨none, 0, 0⟩, [], rfl, [], ⟨none, 0, 0, rfl, rfl, Nat.le_refl _, by simp [maxLen], fun i x j v hx => by simp at hx⟩, rfl, fun i a b h => by simp at h⟩
    · have key : ∀ i, i < len → ∃ y : α × β, (∀ j v, (Enc.enc y.1)[j]? = some v → w.cell? ((a.add (i * Enc.sz α)).add j) = some v) ∧ hD.rd y.1 y.2 w := by
        intro i hi
        have h1 := hel i hi
        rw [hc] at h1
        have h2 : ∃ z, elems[i]? = some z := ⟨_, List.getElem?_eq_getElem (by omega)⟩
        obtain ⟨z, hz⟩ := h2
        rw [hz, Option.bind_eq_some_iff] at h1
        obtain ⟨cs', hcs, hy⟩ := h1
        obtain ⟨x, y, hx, hr⟩ := hD.opens hy
        refine ⟨(x, y), fun j v hj => ?_, hr⟩
        rw [← hx] at hj
        exact (cells_at hcs).2 j v hj
      obtain ⟨l, hl2, hp⟩ := pick key
      refine ⟨⟨some a, len, cap⟩, l.map (·.2), rfl, l.map (·.1), ⟨some a, len, cap, rfl, by simpa using hl2, hl, hm, fun i x j v hx hv => ⟨a, rfl, ?_⟩⟩, by simp, fun i x y hx hy => ?_⟩
      · rw [List.getElem?_map, Option.map_eq_some_iff] at hx
        obtain ⟨z, hz, rfl⟩ := hx
        have := (hp i z hz).1 j v hv
        rw [addr_add_assoc] at this
        exact this
      · rw [List.getElem?_map, Option.map_eq_some_iff] at hx hy
        obtain ⟨z, hz, rfl⟩ := hx
        obtain ⟨z', hz', rfl⟩ := hy
        rw [hz] at hz'; cases hz'
        exact (hp i z hz).2
  vals hv hc' := by
    obtain ⟨a0, len, cap, rfl⟩ := okWide_slice ht hv
    rename_i a
    simpa [Value.cells, Enc.enc, Enc.val] using hc'
/-- A field of a struct. -/
theorem trod_fld {P : Program} {t : TypeId} {fs : Array Field} {H : Type} {enc : TypeId × Value → H} {w : World} {sp : Nat → Bool} {fuel : Nat} {cs : List Value} {x : DataW H × List MemPlace} (ht : P.underlying t = some (.struct fs))
    (h : DataW.trod enc P w 0 sp true fuel t cs = some x) (i : Nat) {f : Field} (hf : fs[i]? = some f) {ty off c : Nat} (e1 : f.type = ty) (e2 : f.offset = off) (e3 : P.cellsOf ty = c) : ∃ n y, DataW.trod enc P w 0 sp true n ty ((cs.drop off).take c) = some y := by
  subst e1 e2 e3
  obtain ⟨xs, n, _, _, _, hl, hx⟩ := DataW.trod_struct ht h
  have := hx i f hf
  have hi := (Array.getElem?_eq_some_iff.1 hf).1
  rw [List.getElem?_eq_getElem (by omega)] at this
  exact ⟨n, _, this⟩
theorem trod_len {P : Program} {t : TypeId} {fs : Array Field} {H : Type} {enc : TypeId × Value → H} {w : World} {sp : Nat → Bool} {fuel : Nat} {cs : List Value} {x : DataW H × List MemPlace} (ht : P.underlying t = some (.struct fs))
    (h : DataW.trod enc P w 0 sp true fuel t cs = some x) : cs.length = P.cellsOf t := by
  obtain ⟨xs, n, _, _, h1, _⟩ := DataW.trod_struct ht h
  exact h1
theorem vals_struct {P : Program} {t : TypeId} {fs : Array Field} {α : Type} [Enc α] (ht : P.underlying t = some (.struct fs)) (hv : ∀ a : α, Enc.val a = .agg (Enc.enc a).toArray) {w : World} {r : Reach} {b0 : Nat} {v : Value} {a : α} (hok : Value.okWide P w r b0 t v) (hc : v.cells = (Enc.enc a).toArray) : v = Enc.val a := by
  obtain ⟨cs, rfl, _⟩ := okWide_struct ht hok
  rw [hv]
  simp [Value.cells] at hc
  rw [hc]
end Go.Sx

set_option autoImplicit false
set_option maxRecDepth 100000
namespace Go.Proofs.Ytomjbfeafodfbaa
open Go.Sx
instance : Deep Try.prog 3 Int Int := deepInt Try.underlying3
instance dL : Deep Try.prog 22 SlV (List Int) := deepSlice Try.underlying22 (by kernel_rfl)
end Go.Proofs.Ytomjbfeafodfbaa
