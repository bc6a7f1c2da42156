import Derived.Test.YtomjbfeafodfbaaWWhole0
import Derived.WalkKit
import Derived.ProofKit
import Derived.OpenShut
import Derived.Carry
import Derived.ChangeOld
import Derived.ChangeSlices

/- Best-first search over sequences whose rest costs are known: what it gives, in order. Plain laws, no program text. -/
set_option autoImplicit false
set_option linter.unusedSimpArgs false
set_option linter.unusedVariables false
namespace Go.Sx
def lexLt : List Int → List Int → Bool
  | _, [] => false
  | [], _ :: _ => true
  | x :: a, y :: b => decide (x < y) || (decide (x = y) && lexLt a b)
theorem lex_irr : ∀ a, lexLt a a = false
  | [] => rfl
  | x :: a => by simp [lexLt, lex_irr a]
theorem lex_as : ∀ a b, lexLt a b = true → lexLt b a = false
  | [], [], h => by simp [lexLt] at h
  | [], _ :: _, _ => rfl
  | _ :: _, [], h => by simp [lexLt] at h
  | x :: a, y :: b, h => by
    simp only [lexLt, Bool.or_eq_true, Bool.and_eq_true, decide_eq_true_eq] at h
    simp only [lexLt, Bool.or_eq_false_iff, Bool.and_eq_false_iff, decide_eq_false_iff_not]
    rcases h with h | ⟨h1, h2⟩
    · exact ⟨by omega, .inl (by omega)⟩
    · exact ⟨by omega, .inr (lex_as a b h2)⟩
theorem lex_eq : ∀ a b, lexLt a b = false → lexLt b a = false → a = b
  | [], [], _, _ => rfl
  | [], _ :: _, h, _ => by simp [lexLt] at h
  | _ :: _, [], _, h => by simp [lexLt] at h
  | x :: a, y :: b, h, g => by
    simp only [lexLt, Bool.or_eq_false_iff, Bool.and_eq_false_iff, decide_eq_false_iff_not] at h g
    have e : x = y := by omega
    subst e
    rw [lex_eq a b (by simpa using h.2) (by simpa using g.2)]
theorem lex_tr : ∀ a b c, lexLt b a = false → lexLt c b = false → lexLt c a = false
  | [], b, c, _, _ => by cases c <;> rfl
  | x :: a, [], c, h, _ => by simp [lexLt] at h
  | x :: a, y :: b, [], _, h => by simp [lexLt] at h
  | x :: a, y :: b, z :: c, h, g => by
    simp only [lexLt, Bool.or_eq_false_iff, Bool.and_eq_false_iff, decide_eq_false_iff_not] at h g ⊢
    refine ⟨by omega, ?_⟩
    by_cases e : z = x
    · refine .inr (lex_tr a b c ?_ ?_)
      · rcases h.2 with h2 | h2
        · exact absurd (show y = x by omega) h2
        · exact h2
      · rcases g.2 with h2 | h2
        · exact absurd (show z = y by omega) h2
        · exact h2
    · exact .inl e
theorem lex_app : ∀ a t, lexLt (a ++ t) a = false
  | [], _ => by simp [lexLt]
  | x :: a, t => by simp [lexLt, lex_app a t]
structure Tsk where
  T : Nat
  us : Nat → List Int
  F : Nat → Int → Int
  J : Int → Int → Int
def minL (l : List Int) : Int := l.foldl min 9223372036854775807
theorem foldl_min_le : ∀ (l : List Int) (a : Int), l.foldl min a ≤ a ∧ ∀ x ∈ l, l.foldl min a ≤ x
  | [], a => ⟨Int.le_refl _, fun x h => by simp at h⟩
  | y :: l, a => by
    obtain ⟨h1, h2⟩ := foldl_min_le l (min a y)
    refine ⟨by simp only [List.foldl_cons]; omega, fun x hx => ?_⟩
    rcases List.mem_cons.1 hx with rfl | hx
    · simp only [List.foldl_cons]; omega
    · exact h2 x hx
theorem foldl_min_mem : ∀ (l : List Int) (a : Int), l.foldl min a = a ∨ l.foldl min a ∈ l
  | [], a => .inl rfl
  | y :: l, a => by
    simp only [List.foldl_cons]
    rcases foldl_min_mem l (min a y) with h | h
    · rw [h]
      by_cases hy : a ≤ y
      · left; omega
      · right; rw [show min a y = y by omega]; simp
    · right; exact List.mem_cons_of_mem _ h
theorem minL_le {l : List Int} {x : Int} (h : x ∈ l) : minL l ≤ x := (foldl_min_le l _).2 x h
theorem minL_mem {l : List Int} (hn : l ≠ []) (hb : ∀ x ∈ l, x ≤ 9223372036854775807) : minL l ∈ l := by
  rcases foldl_min_mem l 9223372036854775807 with h | h
  · cases l with
    | nil => exact absurd rfl hn
    | cons x l =>
      have h1 : minL (x :: l) ≤ x := minL_le (by simp)
      have h2 : minL (x :: l) = 9223372036854775807 := h
      have h3 := hb x (by simp)
      rw [show minL (x :: l) = x by omega]; simp
  · exact h
namespace Tsk
variable (t : Tsk)
/-- What the last k targets cost at least, if u is used for the first of them. -/
def R : Nat → Int → Int
  | 0, _ => 0
  | k + 1, u => t.F (t.T - (k + 1)) u + (if k = 0 then 0 else minL ((t.us (t.T - k)).map fun v => t.J u v + R k v))
/-- What a sequence costs, from a target on. -/
def tc : Nat → List Int → Int
  | _, [] => 0
  | i, [u] => t.F i u
  | i, u :: v :: s => t.F i u + t.J u v + tc (i + 1) (v :: s)
/-- All sequences for the last k targets. -/
def tl : Nat → List (List Int)
  | 0 => [[]]
  | k + 1 => (t.us (t.T - (k + 1))).flatMap fun u => (tl k).map (u :: ·)
theorem tl_len : ∀ k, ∀ s ∈ t.tl k, s.length = k
  | 0, s, h => by simp [tl] at h; simp [h]
  | k + 1, s, h => by
    simp only [tl, List.mem_flatMap, List.mem_map] at h
    obtain ⟨u, _, s', hs, rfl⟩ := h
    simp [tl_len k s' hs]
theorem R_le : ∀ k u s, k ≤ t.T → 1 ≤ k → s ∈ t.tl (k - 1) → t.R k u ≤ t.tc (t.T - k) (u :: s)
  | 0, _, _, _, h, _ => by omega
  | k + 1, u, s, hk, _, hs => by
    simp only [Nat.add_sub_cancel] at hs
    cases k with
    | zero => simp [tl] at hs; subst hs; simp [R, tc]
    | succ k =>
      simp only [tl, List.mem_flatMap, List.mem_map] at hs
      obtain ⟨v, hv, s', hs', rfl⟩ := hs
      have h1 := R_le (k + 1) v s' (by omega) (by omega) hs'
      have h2 : minL ((t.us (t.T - (k + 1))).map fun v => t.J u v + t.R (k + 1) v) ≤ t.J u v + t.R (k + 1) v := minL_le (List.mem_map.2 ⟨v, hv, rfl⟩)
      rw [R, if_neg (by omega)]
      simp only [tc]
      rw [show t.T - (k + 1 + 1) + 1 = t.T - (k + 1) by omega]
      omega
/-- Nothing overflows. -/
structure Small : Prop where
  some : ∀ i, i < t.T → t.us i ≠ []
  bd : ∀ k u v, 1 ≤ k → k ≤ t.T → v ∈ t.us (t.T - k) → t.J u v + t.R k v ≤ 9223372036854775807
theorem R_eq (hs : t.Small) : ∀ k u, k ≤ t.T → 1 ≤ k → ∃ s ∈ t.tl (k - 1), t.R k u = t.tc (t.T - k) (u :: s)
  | 0, _, _, h => by omega
  | k + 1, u, hk, _ => by
    simp only [Nat.add_sub_cancel]
    cases k with
    | zero => exact ⟨[], by simp [tl], by simp [R, tc]⟩
    | succ k =>
      have hm : minL ((t.us (t.T - (k + 1))).map fun v => t.J u v + t.R (k + 1) v) ∈ (t.us (t.T - (k + 1))).map fun v => t.J u v + t.R (k + 1) v := by
        refine minL_mem ?_ ?_
        · intro h; exact hs.some (t.T - (k + 1)) (by omega) (List.map_eq_nil_iff.1 h)
        · intro x hx
          obtain ⟨v, hv, rfl⟩ := List.mem_map.1 hx
          exact hs.bd (k + 1) u v (by omega) (by omega) hv
      obtain ⟨v, hv, e⟩ := List.mem_map.1 hm
      obtain ⟨s, h1, h2⟩ := R_eq hs (k + 1) v (by omega) (by omega)
      refine ⟨v :: s, ?_, ?_⟩
      · simp only [tl, List.mem_flatMap, List.mem_map]
        exact ⟨v, hv, s, h1, rfl⟩
      · rw [R, if_neg (by omega), ← e]
        simp only [tc]
        rw [show t.T - (k + 1 + 1) + 1 = t.T - (k + 1) by omega]
        omega
/-- A sequence that goes on. -/
theorem tc_app : ∀ (a : List Int) (i : Nat) (u : Int) (s : List Int), t.tc i (a ++ u :: s) = t.tc i (a ++ [u]) - t.F (i + a.length) u + t.tc (i + a.length) (u :: s)
  | [], i, u, s => by simp [tc]
  | [x], i, u, s => by
    show t.tc i (x :: u :: s) = t.tc i (x :: [u]) - _ + _
    cases s <;> simp [tc] <;> omega
  | x :: y :: a, i, u, s => by
    have := tc_app (y :: a) (i + 1) u s
    simp only [List.cons_append, tc] at this ⊢
    rw [this]
    have e : i + 1 + (y :: a).length = i + (x :: y :: a).length := by simp; omega
    rw [e]; omega
theorem tc_snoc : ∀ (a : List Int) (i : Nat) (u : Int), t.tc i (a ++ [u]) = t.tc i a + (match a.getLast? with | some x => t.J x u | none => 0) + t.F (i + a.length) u
  | [], i, u => by simp [tc]
  | [x], i, u => by simp [tc]
  | x :: y :: a, i, u => by
    have := tc_snoc (y :: a) (i + 1) u
    simp only [List.cons_append, tc] at this ⊢
    rw [this]
    have e : i + 1 + (y :: a).length = i + (x :: y :: a).length := by simp; omega
    rw [e, List.getLast?_cons_cons]; omega
end Tsk
structure Itm where
  ptr : Option Addr
  units : List Int
  cost : Int
  least : Int
instance : Inhabited Itm := ⟨⟨none, [], 0, 0⟩⟩
def Itm.lt (x y : Itm) : Bool := decide (x.least < y.least) || (decide (x.least = y.least) && lexLt x.units y.units)
theorem itm_tot : TotB Itm.lt where
  tr a b c h g := by
    simp only [Itm.lt, Bool.or_eq_false_iff, Bool.and_eq_false_iff, decide_eq_false_iff_not] at h g ⊢
    refine ⟨by omega, ?_⟩
    by_cases e : c.least = a.least
    · refine .inr (lex_tr a.units b.units c.units ?_ ?_)
      · rcases h.2 with h2 | h2
        · exact absurd (show b.least = a.least by omega) h2
        · exact h2
      · rcases g.2 with h2 | h2
        · exact absurd (show c.least = b.least by omega) h2
        · exact h2
    · exact .inl e
  anti a b h := by
    simp only [Itm.lt, Bool.or_eq_true, Bool.and_eq_true, decide_eq_true_eq] at h
    simp only [Itm.lt, Bool.or_eq_false_iff, Bool.and_eq_false_iff, decide_eq_false_iff_not]
    rcases h with h | ⟨h1, h2⟩
    · exact ⟨by omega, .inl (by omega)⟩
    · exact ⟨by omega, .inr (lex_as _ _ h2)⟩
def seqLt (x y : List Int × Int) : Prop := x.2 < y.2 ∨ (x.2 = y.2 ∧ lexLt x.1 y.1 = true)
namespace Tsk
variable (t : Tsk)
structure Ok (x : Itm) : Prop where
  len : x.units.length ≤ t.T
  mem : ∀ k, k < x.units.length → nth x.units k ∈ t.us k
  cost : x.cost = t.tc 0 x.units
  least : x.least = match x.units.getLast? with | some u => t.tc 0 x.units - t.F (x.units.length - 1) u + t.R (t.T - x.units.length + 1) u | none => 0
def comp (x : Itm) : List (List Int) := (t.tl (t.T - x.units.length)).map (x.units ++ ·)
def kid (x : Itm) (u : Int) (p : Option Addr) : Itm :=
  let j := match x.units.getLast? with | some y => t.J y u | none => 0
  ⟨p, x.units ++ [u], x.cost + j + t.F x.units.length u, x.cost + j + t.R (t.T - x.units.length) u⟩
theorem kid_ok {x : Itm} (h : t.Ok x) (hl : x.units.length < t.T) {u : Int} (hu : u ∈ t.us x.units.length) (p : Option Addr) : t.Ok (t.kid x u p) where
  len := by simp [kid]; omega
  mem k hk := by
    simp [kid] at hk ⊢
    by_cases h1 : k < x.units.length
    · have e : nth (x.units ++ [u]) k = nth x.units k := by simp only [nth, List.getD]; rw [List.getElem?_append_left h1]
      rw [e]; exact h.mem k h1
    · have h2 : k = x.units.length := by omega
      subst h2
      have e : nth (x.units ++ [u]) x.units.length = u := by simp [nth, List.getD]
      rw [e]; exact hu
  cost := by
    simp only [kid]
    rw [t.tc_snoc, h.cost]
    simp
  least := by
    simp only [kid, List.getLast?_append, List.getLast?_singleton, Option.some_or, List.length_append, List.length_singleton, Nat.add_sub_cancel]
    rw [t.tc_snoc, h.cost, show t.T - (x.units.length + 1) + 1 = t.T - x.units.length by omega]
    simp only [Nat.zero_add]
    omega
theorem comp_kids {x : Itm} (hl : x.units.length < t.T) : t.comp x = (t.us x.units.length).flatMap fun u => (t.tl (t.T - x.units.length - 1)).map fun s => x.units ++ [u] ++ s := by
  unfold comp
  obtain ⟨k, hk⟩ : ∃ k, t.T - x.units.length = k + 1 := ⟨t.T - x.units.length - 1, by omega⟩
  rw [hk, tl, show t.T - (k + 1) = x.units.length by omega, List.map_flatMap]
  simp [List.map_map, Function.comp_def]
/-- A completion costs at least what its beginning says. -/
theorem least_le {x : Itm} (h : t.Ok x) (hn : x.units ≠ []) : ∀ s ∈ t.comp x, x.least ≤ t.tc 0 s := by
  intro s hs
  obtain ⟨s', hs', rfl⟩ := List.mem_map.1 hs
  have hl := h.len
  have hz : 0 < x.units.length := List.length_pos_iff.2 hn
  obtain ⟨a, u, e⟩ : ∃ a u, x.units = a ++ [u] := ⟨_, _, (List.dropLast_concat_getLast hn).symm⟩
  have he := h.least
  rw [e] at he hs' hl ⊢
  simp only [List.getLast?_append, List.getLast?_singleton, Option.some_or, List.length_append, List.length_singleton, Nat.add_sub_cancel] at he hs' hl
  rw [he, List.append_assoc, List.singleton_append, t.tc_app a 0 u s', Nat.zero_add]
  have := t.R_le (t.T - (a.length + 1) + 1) u s' (by omega) (by omega) (by simpa using hs')
  rw [show t.T - (t.T - (a.length + 1) + 1) = a.length by omega] at this
  omega
/-- The search so far. -/
structure BF (l : List Itm) (out : List (List Int × Int)) : Prop where
  ok : ∀ x ∈ l, t.Ok x
  one : (∀ x ∈ l, x.units ≠ []) ∨ ∃ x, l = [x]
  cov : (l.flatMap t.comp ++ out.map (·.1)).Perm (t.tl t.T)
  cst : ∀ o ∈ out, o.2 = t.tc 0 o.1
  srt : out.Pairwise seqLt
  bel : ∀ o ∈ out, ∀ s ∈ l.flatMap t.comp, seqLt o (s, t.tc 0 s)
variable {t}
theorem flatMap_perm {α β : Type} {l l' : List α} (f : α → List β) (h : l.Perm l') : (l.flatMap f).Perm (l'.flatMap f) := h.flatMap_right f
theorem BF.start : t.BF [⟨none, [], 0, 0⟩] [] where
  ok x hx := by
    simp only [List.mem_singleton] at hx; subst hx
    exact ⟨by simp, fun k hk => by simp at hk, by simp [tc], by simp⟩
  one := .inr ⟨_, rfl⟩
  cov := by simp [comp]
  cst o ho := by simp at ho
  srt := List.Pairwise.nil
  bel o ho := by simp at ho
/-- A whole sequence comes up. -/
theorem BF.take (hnd : (t.tl t.T).Nodup) {l l' : List Itm} {out : List (List Int × Int)} (h : t.BF l out) {x : Itm} (hp : l.Perm (x :: l')) (hmin : ∀ y ∈ l', Itm.lt y x = false) (hx : x.units.length = t.T) : t.BF l' (out ++ [(x.units, x.cost)]) := by
  have hxm : x ∈ l := hp.mem_iff.2 (by simp)
  have hok := h.ok x hxm
  have hl' : ∀ y ∈ l', y ∈ l := fun y hy => hp.mem_iff.2 (by simp [hy])
  have hcx : t.comp x = [x.units] := by simp [comp, hx, tl]
  have hfp : (l.flatMap t.comp).Perm (x.units :: l'.flatMap t.comp) := by
    have := flatMap_perm t.comp hp
    rw [List.flatMap_cons, hcx] at this; exact this
  have hcov : (x.units :: l'.flatMap t.comp ++ out.map (·.1)).Perm (t.tl t.T) := (hfp.symm.append_right _).trans h.cov
  have hnd2 := hcov.nodup_iff.2 hnd
  have hnx : x.units ∉ l'.flatMap t.comp := by
    rw [List.cons_append, List.nodup_cons] at hnd2
    exact fun hc => hnd2.1 (List.mem_append_left _ hc)
  have hone : (∀ y ∈ l', y.units ≠ []) ∧ (l' ≠ [] → x.units ≠ []) := by
    rcases h.one with h1 | ⟨z, hz⟩
    · exact ⟨fun y hy => h1 y (hl' y hy), fun _ => h1 x hxm⟩
    · have := hp.length_eq
      rw [hz] at this
      have : l' = [] := by cases l' <;> simp_all
      subst this
      exact ⟨fun y hy => by simp at hy, fun hc => absurd rfl hc⟩
  have key : ∀ s ∈ l'.flatMap t.comp, seqLt (x.units, x.cost) (s, t.tc 0 s) := by
    intro s hs
    obtain ⟨y, hy, hsy⟩ := List.mem_flatMap.1 hs
    have hm := hmin y hy
    have hle := t.least_le (h.ok y (hl' y hy)) (hone.1 y hy) s hsy
    have hlx : x.least = x.cost := by
      have := hok.least
      obtain ⟨a, u, e⟩ : ∃ a u, x.units = a ++ [u] := ⟨_, _, (List.dropLast_concat_getLast (hone.2 (List.ne_nil_of_mem hy))).symm⟩
      rw [this, hok.cost, hx]
      rw [hx.symm, e]
      simp only [List.getLast?_append, List.getLast?_singleton, Option.some_or, Nat.sub_self, Nat.zero_add, R, List.length_append, List.length_singleton]
      have hT : t.T = a.length + 1 := by rw [← hx, e]; simp
      simp [hT]
    simp only [Itm.lt, Bool.or_eq_false_iff, Bool.and_eq_false_iff, decide_eq_false_iff_not] at hm
    unfold seqLt
    by_cases hlt : x.cost < t.tc 0 s
    · exact .inl hlt
    · refine .inr ⟨by simp only; omega, ?_⟩
      obtain ⟨s', _, rfl⟩ := List.mem_map.1 hsy
      have g1 : lexLt y.units x.units = false := by
        rcases hm.2 with h2 | h2
        · exact absurd (show y.least = x.least by omega) h2
        · exact h2
      have g2 := lex_app y.units s'
      have g3 := lex_tr _ _ _ g1 g2
      cases hh : lexLt x.units (y.units ++ s')
      · have := lex_eq _ _ hh g3
        exact absurd (this ▸ hs) hnx
      · rfl
  refine ⟨fun y hy => h.ok y (hl' y hy), .inl hone.1, ?_, ?_, ?_, ?_⟩
  · refine List.Perm.trans ?_ hcov
    rw [List.map_append, List.map_singleton, ← List.append_assoc]
    exact (List.perm_append_singleton _ _)
  · intro o ho
    rcases List.mem_append.1 ho with h1 | h1
    · exact h.cst o h1
    · simp only [List.mem_singleton] at h1; subst h1; exact hok.cost
  · rw [List.pairwise_append]
    refine ⟨h.srt, List.pairwise_singleton _ _, fun o ho y hy => ?_⟩
    simp only [List.mem_singleton] at hy; subst hy
    have := h.bel o ho x.units (hfp.mem_iff.2 (by simp))
    rw [hok.cost]; exact this
  · intro o ho s hs
    rcases List.mem_append.1 ho with h1 | h1
    · exact h.bel o h1 s (hfp.mem_iff.2 (by simp [hs]))
    · simp only [List.mem_singleton] at h1; subst h1; exact key s hs
/-- A beginning is followed by all that go on. -/
theorem BF.grow {l l' l'' : List Itm} {out : List (List Int × Int)} (h : t.BF l out) {x : Itm} (hp : l.Perm (x :: l')) (hx : x.units.length < t.T) {ps : List (Option Addr)} (hps : ps.length = (t.us x.units.length).length)
    (hk : l''.Perm (l' ++ (List.zipWith (t.kid x) (t.us x.units.length) ps))) : t.BF l'' out := by
  have hxm : x ∈ l := hp.mem_iff.2 (by simp)
  have hl' : ∀ y ∈ l', y ∈ l := fun y hy => hp.mem_iff.2 (by simp [hy])
  have hkm : ∀ y ∈ List.zipWith (t.kid x) (t.us x.units.length) ps, ∃ u ∈ t.us x.units.length, ∃ p, y = t.kid x u p := by
    intro y hy
    rw [← List.map_uncurry_zip_eq_zipWith] at hy
    obtain ⟨⟨u, p⟩, hz, rfl⟩ := List.mem_map.1 hy
    exact ⟨u, (List.of_mem_zip hz).1, p, rfl⟩
  have hcomp : (List.zipWith (t.kid x) (t.us x.units.length) ps).flatMap t.comp = t.comp x := by
    rw [t.comp_kids hx]
    clear hk hkm
    generalize t.us x.units.length = us at hps
    induction us generalizing ps with
    | nil => simp
    | cons u us ih =>
      cases ps with
      | nil => simp at hps
      | cons p ps =>
        simp only [List.zipWith_cons_cons, List.flatMap_cons]
        rw [ih (by simpa using hps)]
        congr 1
        simp [comp, kid, Nat.sub_sub]
  have hfp : (l''.flatMap t.comp).Perm (l.flatMap t.comp) := by
    refine (flatMap_perm t.comp hk).trans ?_
    rw [List.flatMap_append, hcomp]
    refine List.perm_append_comm.trans ?_
    have := flatMap_perm t.comp hp
    rw [List.flatMap_cons] at this
    exact this.symm
  refine ⟨fun y hy => ?_, .inl fun y hy => ?_, (hfp.append_right _).trans h.cov, h.cst, h.srt, fun o ho s hs => h.bel o ho s (hfp.mem_iff.1 hs)⟩
  · rcases List.mem_append.1 (hk.mem_iff.1 hy) with h1 | h1
    · exact h.ok y (hl' y h1)
    · obtain ⟨u, hu, p, rfl⟩ := hkm y h1
      exact t.kid_ok (h.ok x hxm) hx hu p
  · rcases List.mem_append.1 (hk.mem_iff.1 hy) with h1 | h1
    · rcases h.one with h2 | ⟨z, hz⟩
      · exact h2 y (hl' y h1)
      · have := hp.length_eq
        rw [hz] at this
        have : l' = [] := by cases l' <;> simp_all
        subst this
        simp at h1
    · obtain ⟨u, _, p, rfl⟩ := hkm y h1
      simp [kid]
/-- How many beginnings there are below one. -/
def wgt (t : Tsk) : Nat → Nat
  | 0 => 1
  | k + 1 => 1 + (t.us (t.T - (k + 1))).length * wgt t k
def mu (t : Tsk) (l : List Itm) : Nat := (l.map fun x => t.wgt (t.T - x.units.length)).sum
theorem wgt_pos (t : Tsk) : ∀ k, 1 ≤ t.wgt k
  | 0 => by simp [wgt]
  | k + 1 => by simp [wgt]
theorem len_mu (t : Tsk) : ∀ l : List Itm, l.length ≤ t.mu l
  | [] => by simp
  | x :: l => by
    have h := len_mu t l
    have := wgt_pos t (t.T - x.units.length)
    simp only [mu, List.map_cons, List.sum_cons, List.length_cons] at h ⊢
    omega
theorem mu_perm (t : Tsk) {l l' : List Itm} (h : l.Perm l') : t.mu l = t.mu l' := (h.map _).sum_nat
theorem mu_take (t : Tsk) {l l' : List Itm} {x : Itm} (h : l.Perm (x :: l')) : t.mu l' < t.mu l := by
  rw [mu_perm t h]
  have := wgt_pos t (t.T - x.units.length)
  simp only [mu, List.map_cons, List.sum_cons]; omega
theorem mu_kids (t : Tsk) (x : Itm) (hx : x.units.length < t.T) : ∀ (us : List Int) (ps : List (Option Addr)), t.mu (List.zipWith (t.kid x) us ps) ≤ us.length * t.wgt (t.T - x.units.length - 1)
  | [], _ => by simp [mu]
  | _ :: _, [] => by simp [mu]
  | u :: us, p :: ps => by
    have := mu_kids t x hx us ps
    simp only [mu, List.zipWith_cons_cons, List.map_cons, List.sum_cons, List.length_cons] at this ⊢
    rw [Nat.add_mul, Nat.one_mul]
    have e : t.T - (t.kid x u p).units.length = t.T - x.units.length - 1 := by simp [kid]; omega
    rw [e]; omega
theorem mu_grow (t : Tsk) {l l' : List Itm} {x : Itm} (h : l.Perm (x :: l')) (hx : x.units.length < t.T) (ps : List (Option Addr)) : t.mu (l' ++ List.zipWith (t.kid x) (t.us x.units.length) ps) < t.mu l := by
  rw [mu_perm t h]
  have h1 := mu_kids t x hx (t.us x.units.length) ps
  have h2 : t.wgt (t.T - x.units.length) = 1 + (t.us x.units.length).length * t.wgt (t.T - x.units.length - 1) := by
    obtain ⟨k, hk⟩ : ∃ k, t.T - x.units.length = k + 1 := ⟨t.T - x.units.length - 1, by omega⟩
    rw [hk, wgt, show t.T - (k + 1) = x.units.length by omega, Nat.add_sub_cancel]
  have h3 : t.mu (l' ++ List.zipWith (t.kid x) (t.us x.units.length) ps) = t.mu l' + t.mu (List.zipWith (t.kid x) (t.us x.units.length) ps) := by simp [mu]
  rw [h3]
  simp only [mu, List.map_cons, List.sum_cons] at h1 ⊢
  omega
theorem wgt_le (t : Tsk) {c : Nat} (hc : ∀ i, (t.us i).length ≤ c) : ∀ k, t.wgt k ≤ (c + 1) ^ k
  | 0 => by simp [wgt]
  | k + 1 => by
    have h1 := wgt_le t hc k
    have h2 := hc (t.T - (k + 1))
    have h3 : (t.us (t.T - (k + 1))).length * t.wgt k ≤ c * (c + 1) ^ k := Nat.mul_le_mul h2 h1
    have h4 : 1 ≤ (c + 1) ^ k := Nat.one_le_pow _ _ (by omega)
    rw [wgt, Nat.pow_succ, Nat.mul_add, Nat.mul_one, Nat.mul_comm ((c + 1) ^ k) c]
    omega
end Tsk
end Go.Sx

set_option autoImplicit false
set_option maxRecDepth 100000
namespace Go.Proofs.Ytomjbfeafodfbaa
open Go.Sx
open Enc (enc val)
/-- A unit; the lists are what its vectors read as. -/
structure Un where
  phone : ByteArray
  before : ByteArray
  after : ByteArray
  pitch : Int
  length : Int
  take : Int
  fr : Int
  to : Int
  bs : SlV
  es : SlV
  bl : List Int
  el : List Int
instance : Inhabited Un := ⟨⟨default, default, default, 0, 0, 0, 0, 0, default, default, [], []⟩⟩
instance : Enc Un := ⟨fun u => [.string u.phone, .string u.before, .string u.after, .int .i64 u.pitch, .int .i64 u.length, .int .i64 u.take, .int .i64 u.fr, .int .i64 u.to, u.bs.v, u.es.v], 10, fun u => .agg #[.string u.phone, .string u.before, .string u.after, .int .i64 u.pitch, .int .i64 u.length, .int .i64 u.take, .int .i64 u.fr, .int .i64 u.to, u.bs.v, u.es.v], fun _ => rfl, by simp [Value.oneCell', SlV.v], fun _ => rfl, by decide⟩
instance : HasTy Try.prog 30 Un := hasTy_agg Try.sizeOf30 Try.isAgg30 (fun _ => rfl)
structure Wan where
  phone : ByteArray
  before : ByteArray
  after : ByteArray
  pitch : Int
  length : Int
instance : Inhabited Wan := ⟨⟨default, default, default, 0, 0⟩⟩
instance : Enc Wan := ⟨fun u => [.string u.phone, .string u.before, .string u.after, .int .i64 u.pitch, .int .i64 u.length], 5, fun u => .agg #[.string u.phone, .string u.before, .string u.after, .int .i64 u.pitch, .int .i64 u.length], fun _ => rfl, by simp [Value.oneCell'], fun _ => rfl, by decide⟩
instance : HasTy Try.prog 32 Wan := hasTy_agg Try.sizeOf32 Try.isAgg32 (fun _ => rfl)
structure Wts where
  beside : Int
  pitch : Int
  length : Int
  join : Int
instance : Inhabited Wts := ⟨⟨0, 0, 0, 0⟩⟩
instance : Enc Wts := ⟨fun u => [.int .i64 u.beside, .int .i64 u.pitch, .int .i64 u.length, .int .i64 u.join], 4, fun u => .agg #[.int .i64 u.beside, .int .i64 u.pitch, .int .i64 u.length, .int .i64 u.join], fun _ => rfl, by simp [Value.oneCell'], fun _ => rfl, by decide⟩
instance : HasTy Try.prog 39 Wts := hasTy_agg Try.sizeOf39 Try.isAgg39 (fun _ => rfl)
/-- A sequence; the list is what its units read as. -/
structure Sq where
  us : SlV
  cost : Int
  ul : List Int
instance : Inhabited Sq := ⟨⟨default, 0, []⟩⟩
instance : Enc Sq := ⟨fun u => [u.us.v, .int .i64 u.cost], 2, fun u => .agg #[u.us.v, .int .i64 u.cost], fun _ => rfl, by simp [Value.oneCell', SlV.v], fun _ => rfl, by decide⟩
instance : HasTy Try.prog 34 Sq := hasTy_agg Try.sizeOf34 Try.isAgg34 (fun _ => rfl)
theorem stb_true (w : World) (fp : List Nat) : Stb w fp (fun _ => True) := ⟨fun _ _ => trivial⟩
def inB (x lo hi : Int) : Bool := decide (lo ≤ x) && decide (x ≤ hi)
theorem within_spec (x lo hi : Int) (w : World) : Calls Try.prog 48 #[.int .i64 x, .int .i64 lo, .int .i64 hi] w fun e w' => e = .returned (.bool (inB x lo hi)) ∧ Cl w [] [] w' := by
  refine calls_cw (vs := [_, _, _]) Try.func48 rfl Try.ntmps48 rfl (Cl.start0 w) (cw_seq (cw_region (sr rfl rfl rfl ((q_assign rfl rfl)) (sw_nil (post_then (cw_seq (cw_region (sr rfl rfl rfl ((q_move rfl rfl)) (sr rfl rfl rfl ((q_move rfl rfl)) (sr rfl rfl rfl ((q_geq rfl rfl rfl)) (sr rfl rfl rfl ((q_move rfl rfl)) (sr rfl rfl rfl ((q_move rfl rfl)) (sr rfl rfl rfl ((q_move rfl rfl)) (sr rfl rfl rfl ((q_leq rfl rfl rfl)) (sr rfl rfl rfl ((q_and2 rfl rfl rfl)) (sr rfl rfl rfl ((q_assign rfl rfl)) (sw_nil (post_then (cw_ret (post_ret1 rfl (resOk_tmp rfl) ?_))))))))))))))))))))
  refine fun w' hw => ⟨rfl, hw⟩
theorem far_spec (a b : Int) (w : World) (h : -4611686018427387904 ≤ a - b ∧ a - b ≤ 4611686018427387904) : Calls Try.prog 49 #[.int .i64 a, .int .i64 b] w fun e w' => e = .returned (.int .i64 (max (a - b) (b - a))) ∧ Cl w [] [] w' := by
  refine calls_cw (vs := [_, _]) Try.func49 rfl Try.ntmps49 rfl (Cl.start0 w) (cw_seq (cw_region (sr rfl rfl rfl ((q_assign rfl rfl)) (sw_nil (post_then (cw_seq (cw_region (sr rfl rfl rfl ((q_move rfl rfl)) (sr rfl rfl rfl ((q_move rfl rfl)) ?_)))))))))
  refine sr rfl rfl rfl ((q_sub rfl rfl rfl (by intro hc; omega))) ?_
  refine sr rfl rfl rfl ((q_move rfl rfl)) (sr rfl rfl rfl ((q_move rfl rfl)) ?_)
  refine sr rfl rfl rfl ((q_sub rfl rfl rfl (by intro hc; omega))) ?_
  refine sr rfl rfl rfl ((q_max rfl (.cons rfl inferInstance (.cons rfl inferInstance (.nil))))) (sr rfl rfl rfl ((q_assign rfl rfl)) (sw_nil (post_then (cw_ret (post_ret1 rfl (resOk_tmp rfl) ?_)))))
  refine fun w' hw => ⟨rfl, hw⟩
def idxP {α : Type} (p : α → Bool) (xs : List α) : Int := match xs.findIdx? p with
  | some i => i
  | none => -1
theorem idxP_at {α : Type} [Inhabited α] {p : α → Bool} {xs : List α} {k : Nat} (hk : k < xs.length) (h : ∀ j, j < k → p (nth xs j) = false) (hp : p (nth xs k) = true) : idxP p xs = k := by
  have : xs.findIdx? p = some k := by
    rw [List.findIdx?_eq_some_iff_getElem]
    refine ⟨hk, by rw [← nth_get hk]; exact hp, fun j hj => ?_⟩
    have := h j hj
    rw [nth_get (by omega)] at this
    simp [this]
  simp [idxP, this]
theorem idxP_none {α : Type} [Inhabited α] {p : α → Bool} {xs : List α} (h : ∀ j, j < xs.length → p (nth xs j) = false) : idxP p xs = -1 := by
  have : xs.findIdx? p = none := by
    rw [List.findIdx?_eq_none_iff]
    intro x hx
    obtain ⟨i, hi, rfl⟩ := List.getElem_of_mem hx
    have := h i hi
    rw [nth_get hi] at this
    exact this
  simp [idxP, this]
theorem idxP_any {α : Type} {p : α → Bool} {xs : List α} : decide (0 ≤ idxP p xs) = xs.any p := by
  unfold idxP
  cases h : xs.findIdx? p with
  | none =>
    rw [List.findIdx?_eq_none_iff] at h
    have : xs.any p = false := by rw [List.any_eq_false]; intro x hx; simp [h x hx]
    rw [this]; rfl
  | some i =>
    obtain ⟨hi, hp, _⟩ := List.findIdx?_eq_some_iff_getElem.1 h
    have : xs.any p = true := List.any_eq_true.2 ⟨_, List.getElem_mem hi, hp⟩
    rw [this]; simp
/-- A function value that only reads, and answers p at what lies in a list. -/
def PredL (P : Program) {α : Type} [Enc α] (g : FuncId) (cap : Array Value) (p : α → Bool) (R : World → Prop) (xs : List α) : Prop :=
  ∀ x, x ∈ xs → ∀ w, R w → Calls P g ([val x].toArray ++ cap) w fun e w' => e = .returned (.bool (p x)) ∧ Cl w [] [] w'
theorem containsInt_index (sv : Value) (xs : List Int) (g : FuncId) (cap : Array Value) (p : Int → Bool) (R : World → Prop) (w : World) (hs : Stb w [] (RdL sv xs)) (hR : Stb w [] R) (hgc : CanCall Try.prog g) (hg : PredL Try.prog g cap p R xs) :
    Calls Try.prog 61 #[sv, .func (.func g) #[] cap] w fun e w' => e = .returned (.int .i64 (idxP p xs)) ∧ Cl w [] [] w' := by
  have hL := rd_len hs.here
  refine calls_cw (vs := [_, _]) Try.func61 rfl Try.ntmps61 rfl (Cl.start0 w) (cw_seq (cw_region (sr rfl rfl rfl ((q_assign rfl rfl)) (sw_nil (post_then (cw_seq (cw_seq (cw_region (sr rfl rfl rfl ((q_move rfl rfl)) ?_)))))))))
  refine sr rfl rfl rfl ((q_len rfl (.cons rfl inferInstance (.nil)) (by exact fun w hw => Stb.cl (by assumption) hw))) ?_
  refine sr rfl rfl rfl ((q_move rfl rfl)) (sw_nil (post_then (cw_block ?_)))
  refine cw_loop (S := Nat) (fun k => [(0, [], sv), (1, [], .func (.func g) #[] cap), (7, [], .int .i64 xs.length), (8, [], .int .i64 k)]) (fun _ => Cl w [] []) (fun k => k ≤ xs.length ∧ ∀ j, j < k → p (nth xs j) = false) (fun k => xs.length - k) 0 ⟨by omega, fun j hj => by omega⟩ (by exact .cons rfl (.cons rfl (.cons rfl (.cons rfl .nil)))) (fun _ h => h) ?_
  rintro k ⟨hk, hbe⟩
  refine cw_seq (cw_region (sr rfl rfl rfl ((q_lss rfl rfl rfl)) (sw_nil (post_then (cw_seq ?_)))))
  refine cw_cond rfl (fun h => ?_) (fun h => ?_)
  · skip
    have hk' : k < xs.length := by simp only [decide_eq_true_eq] at h; omega
    refine cw_skip (post_then (cw_seq (cw_block (cw_seq (cw_region (sr rfl rfl rfl ((q_move rfl rfl)) (sr rfl rfl rfl ((q_assign rfl rfl)) (sw_nil (post_then (cw_seq (cw_region (sr rfl rfl rfl ((q_move rfl rfl)) (sr rfl rfl rfl ((q_move rfl rfl)) (sr rfl rfl rfl ((q_move rfl rfl)) ?_))))))))))))))
    refine sr rfl rfl rfl ((q_indexN rfl rfl rfl (by exact fun w hw => Stb.cl (by assumption) hw) (by intro hc; omega))) ?_
    refine sr rfl rfl rfl ((q_loadEl rfl rfl rfl (by exact fun w hw => Stb.cl (by assumption) hw) (by intro hc; omega))) ?_
    refine sw_step rfl rfl rfl (q_callv hgc rfl rfl (.cons rfl inferInstance (.nil)) (fun _ w' hw => callq hw (hg (nth xs k) (by rw [nth_get hk']; exact List.getElem_mem hk') w' (hR.cl hw)))) ?_
    refine sw_nil (post_then ?_)
    refine cw_cond rfl (fun h2 => ?_) (fun h2 => ?_)
    · skip
      refine cw_seq (cw_region (sr rfl rfl rfl ((q_move rfl rfl)) (sr rfl rfl rfl ((q_assign rfl rfl)) (sw_nil (post_then (cw_ret (post_blk_r (post_then_r (post_then_r (post_blk_r (post_then_r (post_ret1 rfl (resOk_tmp rfl) ?_))))))))))))
      exact fun w' hw => ⟨by rw [idxP_at hk' hbe h2], hw⟩
    · skip
      refine cw_skip (post_blk (post_then (cw_region ?_)))
      refine sr rfl rfl rfl ((q_add rfl rfl rfl (by intro hc; omega))) ?_
      refine sr rfl rfl rfl ((q_move rfl rfl)) (sw_nil ?_)
      refine post_next (k + 1) (by exact .cons rfl (.cons rfl (.cons rfl (.cons rfl .nil)))) (fun _ h => h) ⟨by omega, fun j hj => ?_⟩ (by omega)
      by_cases hjk : j = k
      · rw [hjk]; exact h2
      · exact hbe j (by omega)
  · skip
    have hk' : k = xs.length := by simp only [decide_eq_false_iff_not] at h; omega
    subst hk'
    refine cw_exit (post_then_x (post_then_x (post_blk_eq (post_then (cw_seq (cw_region (sr rfl rfl rfl ((q_assign rfl rfl)) (sw_nil (post_then (cw_ret (post_ret1 rfl (resOk_tmp rfl) ?_)))))))))))
    exact fun w' hw => ⟨by rw [idxP_none hbe], hw⟩
theorem containsInt_spec (sv : Value) (xs : List Int) (g : FuncId) (cap : Array Value) (p : Int → Bool) (R : World → Prop) (w : World) (hs : Stb w [] (RdL sv xs)) (hR : Stb w [] R) (hgc : CanCall Try.prog g) (hg : PredL Try.prog g cap p R xs) :
    Calls Try.prog 56 #[sv, .func (.func g) #[] cap] w fun e w' => e = .returned (.bool (xs.any p)) ∧ Cl w [] [] w' := by
  refine calls_cw (vs := [_, _]) Try.func56 rfl Try.ntmps56 rfl (Cl.start0 w) (cw_seq (cw_region (sr rfl rfl rfl ((q_assign rfl rfl)) (sw_nil (post_then (cw_seq (cw_region (sr rfl rfl rfl ((q_move rfl rfl)) (sr rfl rfl rfl ((q_move rfl rfl)) ?_)))))))))
  refine sw_step rfl rfl rfl (q_call (CanCall.mk Try.call61) rfl (.cons rfl inferInstance (.cons rfl inferInstance (.nil))) (fun _ w hw => callq hw (containsInt_index _ _ _ _ _ _ w (by exact stb_arg hw (by assumption)) (stb_arg hw hR) hgc hg))) ?_
  refine sr rfl rfl rfl ((q_geq rfl rfl rfl)) (sr rfl rfl rfl ((q_assign rfl rfl)) (sw_nil (post_then (cw_ret (post_ret1 rfl (resOk_tmp rfl) ?_)))))
  exact fun w' hw => ⟨by rw [idxP_any], hw⟩
theorem containsUn_index (sv : Value) (xs : List Un) (g : FuncId) (cap : Array Value) (p : Un → Bool) (R : World → Prop) (w : World) (hs : Stb w [] (RdL sv xs)) (hR : Stb w [] R) (hgc : CanCall Try.prog g) (hg : PredL Try.prog g cap p R xs) :
    Calls Try.prog 58 #[sv, .func (.func g) #[] cap] w fun e w' => e = .returned (.int .i64 (idxP p xs)) ∧ Cl w [] [] w' := by
  have hL := rd_len hs.here
  refine calls_cw (vs := [_, _]) Try.func58 rfl Try.ntmps58 rfl (Cl.start0 w) (cw_seq (cw_region (sr rfl rfl rfl ((q_assign rfl rfl)) (sw_nil (post_then (cw_seq (cw_seq (cw_region (sr rfl rfl rfl ((q_move rfl rfl)) ?_)))))))))
  refine sr rfl rfl rfl ((q_len rfl (.cons rfl inferInstance (.nil)) (by exact fun w hw => Stb.cl (by assumption) hw))) ?_
  refine sr rfl rfl rfl ((q_move rfl rfl)) (sw_nil (post_then (cw_block ?_)))
  refine cw_loop (S := Nat) (fun k => [(0, [], sv), (1, [], .func (.func g) #[] cap), (7, [], .int .i64 xs.length), (8, [], .int .i64 k)]) (fun _ => Cl w [] []) (fun k => k ≤ xs.length ∧ ∀ j, j < k → p (nth xs j) = false) (fun k => xs.length - k) 0 ⟨by omega, fun j hj => by omega⟩ (by exact .cons rfl (.cons rfl (.cons rfl (.cons rfl .nil)))) (fun _ h => h) ?_
  rintro k ⟨hk, hbe⟩
  refine cw_seq (cw_region (sr rfl rfl rfl ((q_lss rfl rfl rfl)) (sw_nil (post_then (cw_seq ?_)))))
  refine cw_cond rfl (fun h => ?_) (fun h => ?_)
  · skip
    have hk' : k < xs.length := by simp only [decide_eq_true_eq] at h; omega
    refine cw_skip (post_then (cw_seq (cw_block (cw_seq (cw_region (sr rfl rfl rfl ((q_move rfl rfl)) (sr rfl rfl rfl ((q_assign rfl rfl)) (sw_nil (post_then (cw_seq (cw_region (sr rfl rfl rfl ((q_move rfl rfl)) (sr rfl rfl rfl ((q_move rfl rfl)) (sr rfl rfl rfl ((q_move rfl rfl)) ?_))))))))))))))
    refine sr rfl rfl rfl ((q_indexN rfl rfl rfl (by exact fun w hw => Stb.cl (by assumption) hw) (by intro hc; omega))) ?_
    refine sr rfl rfl rfl ((q_loadEl rfl rfl rfl (by exact fun w hw => Stb.cl (by assumption) hw) (by intro hc; omega))) ?_
    refine sw_step rfl rfl rfl (q_callv hgc rfl rfl (.cons rfl inferInstance (.nil)) (fun _ w' hw => callq hw (hg (nth xs k) (by rw [nth_get hk']; exact List.getElem_mem hk') w' (hR.cl hw)))) ?_
    refine sw_nil (post_then ?_)
    refine cw_cond rfl (fun h2 => ?_) (fun h2 => ?_)
    · skip
      refine cw_seq (cw_region (sr rfl rfl rfl ((q_move rfl rfl)) (sr rfl rfl rfl ((q_assign rfl rfl)) (sw_nil (post_then (cw_ret (post_blk_r (post_then_r (post_then_r (post_blk_r (post_then_r (post_ret1 rfl (resOk_tmp rfl) ?_))))))))))))
      exact fun w' hw => ⟨by rw [idxP_at hk' hbe h2], hw⟩
    · skip
      refine cw_skip (post_blk (post_then (cw_region ?_)))
      refine sr rfl rfl rfl ((q_add rfl rfl rfl (by intro hc; omega))) ?_
      refine sr rfl rfl rfl ((q_move rfl rfl)) (sw_nil ?_)
      refine post_next (k + 1) (by exact .cons rfl (.cons rfl (.cons rfl (.cons rfl .nil)))) (fun _ h => h) ⟨by omega, fun j hj => ?_⟩ (by omega)
      by_cases hjk : j = k
      · rw [hjk]; exact h2
      · exact hbe j (by omega)
  · skip
    have hk' : k = xs.length := by simp only [decide_eq_false_iff_not] at h; omega
    subst hk'
    refine cw_exit (post_then_x (post_then_x (post_blk_eq (post_then (cw_seq (cw_region (sr rfl rfl rfl ((q_assign rfl rfl)) (sw_nil (post_then (cw_ret (post_ret1 rfl (resOk_tmp rfl) ?_)))))))))))
    exact fun w' hw => ⟨by rw [idxP_none hbe], hw⟩
theorem containsUn_spec (sv : Value) (xs : List Un) (g : FuncId) (cap : Array Value) (p : Un → Bool) (R : World → Prop) (w : World) (hs : Stb w [] (RdL sv xs)) (hR : Stb w [] R) (hgc : CanCall Try.prog g) (hg : PredL Try.prog g cap p R xs) :
    Calls Try.prog 41 #[sv, .func (.func g) #[] cap] w fun e w' => e = .returned (.bool (xs.any p)) ∧ Cl w [] [] w' := by
  refine calls_cw (vs := [_, _]) Try.func41 rfl Try.ntmps41 rfl (Cl.start0 w) (cw_seq (cw_region (sr rfl rfl rfl ((q_assign rfl rfl)) (sw_nil (post_then (cw_seq (cw_region (sr rfl rfl rfl ((q_move rfl rfl)) (sr rfl rfl rfl ((q_move rfl rfl)) ?_)))))))))
  refine sw_step rfl rfl rfl (q_call (CanCall.mk Try.call58) rfl (.cons rfl inferInstance (.cons rfl inferInstance (.nil))) (fun _ w hw => callq hw (containsUn_index _ _ _ _ _ _ w (by exact stb_arg hw (by assumption)) (stb_arg hw hR) hgc hg))) ?_
  refine sr rfl rfl rfl ((q_geq rfl rfl rfl)) (sr rfl rfl rfl ((q_assign rfl rfl)) (sw_nil (post_then (cw_ret (post_ret1 rfl (resOk_tmp rfl) ?_)))))
  exact fun w' hw => ⟨by rw [idxP_any], hw⟩
theorem containsWan_index (sv : Value) (xs : List Wan) (g : FuncId) (cap : Array Value) (p : Wan → Bool) (R : World → Prop) (w : World) (hs : Stb w [] (RdL sv xs)) (hR : Stb w [] R) (hgc : CanCall Try.prog g) (hg : PredL Try.prog g cap p R xs) :
    Calls Try.prog 45 #[sv, .func (.func g) #[] cap] w fun e w' => e = .returned (.int .i64 (idxP p xs)) ∧ Cl w [] [] w' := by
  have hL := rd_len hs.here
  refine calls_cw (vs := [_, _]) Try.func45 rfl Try.ntmps45 rfl (Cl.start0 w) (cw_seq (cw_region (sr rfl rfl rfl ((q_assign rfl rfl)) (sw_nil (post_then (cw_seq (cw_seq (cw_region (sr rfl rfl rfl ((q_move rfl rfl)) ?_)))))))))
  refine sr rfl rfl rfl ((q_len rfl (.cons rfl inferInstance (.nil)) (by exact fun w hw => Stb.cl (by assumption) hw))) ?_
  refine sr rfl rfl rfl ((q_move rfl rfl)) (sw_nil (post_then (cw_block ?_)))
  refine cw_loop (S := Nat) (fun k => [(0, [], sv), (1, [], .func (.func g) #[] cap), (7, [], .int .i64 xs.length), (8, [], .int .i64 k)]) (fun _ => Cl w [] []) (fun k => k ≤ xs.length ∧ ∀ j, j < k → p (nth xs j) = false) (fun k => xs.length - k) 0 ⟨by omega, fun j hj => by omega⟩ (by exact .cons rfl (.cons rfl (.cons rfl (.cons rfl .nil)))) (fun _ h => h) ?_
  rintro k ⟨hk, hbe⟩
  refine cw_seq (cw_region (sr rfl rfl rfl ((q_lss rfl rfl rfl)) (sw_nil (post_then (cw_seq ?_)))))
  refine cw_cond rfl (fun h => ?_) (fun h => ?_)
  · skip
    have hk' : k < xs.length := by simp only [decide_eq_true_eq] at h; omega
    refine cw_skip (post_then (cw_seq (cw_block (cw_seq (cw_region (sr rfl rfl rfl ((q_move rfl rfl)) (sr rfl rfl rfl ((q_assign rfl rfl)) (sw_nil (post_then (cw_seq (cw_region (sr rfl rfl rfl ((q_move rfl rfl)) (sr rfl rfl rfl ((q_move rfl rfl)) (sr rfl rfl rfl ((q_move rfl rfl)) ?_))))))))))))))
    refine sr rfl rfl rfl ((q_indexN rfl rfl rfl (by exact fun w hw => Stb.cl (by assumption) hw) (by intro hc; omega))) ?_
    refine sr rfl rfl rfl ((q_loadEl rfl rfl rfl (by exact fun w hw => Stb.cl (by assumption) hw) (by intro hc; omega))) ?_
    refine sw_step rfl rfl rfl (q_callv hgc rfl rfl (.cons rfl inferInstance (.nil)) (fun _ w' hw => callq hw (hg (nth xs k) (by rw [nth_get hk']; exact List.getElem_mem hk') w' (hR.cl hw)))) ?_
    refine sw_nil (post_then ?_)
    refine cw_cond rfl (fun h2 => ?_) (fun h2 => ?_)
    · skip
      refine cw_seq (cw_region (sr rfl rfl rfl ((q_move rfl rfl)) (sr rfl rfl rfl ((q_assign rfl rfl)) (sw_nil (post_then (cw_ret (post_blk_r (post_then_r (post_then_r (post_blk_r (post_then_r (post_ret1 rfl (resOk_tmp rfl) ?_))))))))))))
      exact fun w' hw => ⟨by rw [idxP_at hk' hbe h2], hw⟩
    · skip
      refine cw_skip (post_blk (post_then (cw_region ?_)))
      refine sr rfl rfl rfl ((q_add rfl rfl rfl (by intro hc; omega))) ?_
      refine sr rfl rfl rfl ((q_move rfl rfl)) (sw_nil ?_)
      refine post_next (k + 1) (by exact .cons rfl (.cons rfl (.cons rfl (.cons rfl .nil)))) (fun _ h => h) ⟨by omega, fun j hj => ?_⟩ (by omega)
      by_cases hjk : j = k
      · rw [hjk]; exact h2
      · exact hbe j (by omega)
  · skip
    have hk' : k = xs.length := by simp only [decide_eq_false_iff_not] at h; omega
    subst hk'
    refine cw_exit (post_then_x (post_then_x (post_blk_eq (post_then (cw_seq (cw_region (sr rfl rfl rfl ((q_assign rfl rfl)) (sw_nil (post_then (cw_ret (post_ret1 rfl (resOk_tmp rfl) ?_)))))))))))
    exact fun w' hw => ⟨by rw [idxP_none hbe], hw⟩
theorem containsWan_spec (sv : Value) (xs : List Wan) (g : FuncId) (cap : Array Value) (p : Wan → Bool) (R : World → Prop) (w : World) (hs : Stb w [] (RdL sv xs)) (hR : Stb w [] R) (hgc : CanCall Try.prog g) (hg : PredL Try.prog g cap p R xs) :
    Calls Try.prog 22 #[sv, .func (.func g) #[] cap] w fun e w' => e = .returned (.bool (xs.any p)) ∧ Cl w [] [] w' := by
  refine calls_cw (vs := [_, _]) Try.func22 rfl Try.ntmps22 rfl (Cl.start0 w) (cw_seq (cw_region (sr rfl rfl rfl ((q_assign rfl rfl)) (sw_nil (post_then (cw_seq (cw_region (sr rfl rfl rfl ((q_move rfl rfl)) (sr rfl rfl rfl ((q_move rfl rfl)) ?_)))))))))
  refine sw_step rfl rfl rfl (q_call (CanCall.mk Try.call45) rfl (.cons rfl inferInstance (.cons rfl inferInstance (.nil))) (fun _ w hw => callq hw (containsWan_index _ _ _ _ _ _ w (by exact stb_arg hw (by assumption)) (stb_arg hw hR) hgc hg))) ?_
  refine sr rfl rfl rfl ((q_geq rfl rfl rfl)) (sr rfl rfl rfl ((q_assign rfl rfl)) (sw_nil (post_then (cw_ret (post_ret1 rfl (resOk_tmp rfl) ?_)))))
  exact fun w' hw => ⟨by rw [idxP_any], hw⟩
theorem containsRow_index (sv : Value) (xs : List SlV) (g : FuncId) (cap : Array Value) (p : SlV → Bool) (R : World → Prop) (w : World) (hs : Stb w [] (RdL sv xs)) (hR : Stb w [] R) (hgc : CanCall Try.prog g) (hg : PredL Try.prog g cap p R xs) :
    Calls Try.prog 50 #[sv, .func (.func g) #[] cap] w fun e w' => e = .returned (.int .i64 (idxP p xs)) ∧ Cl w [] [] w' := by
  have hL := rd_len hs.here
  refine calls_cw (vs := [_, _]) Try.func50 rfl Try.ntmps50 rfl (Cl.start0 w) (cw_seq (cw_region (sr rfl rfl rfl ((q_assign rfl rfl)) (sw_nil (post_then (cw_seq (cw_seq (cw_region (sr rfl rfl rfl ((q_move rfl rfl)) ?_)))))))))
  refine sr rfl rfl rfl ((q_len rfl (.cons rfl inferInstance (.nil)) (by exact fun w hw => Stb.cl (by assumption) hw))) ?_
  refine sr rfl rfl rfl ((q_move rfl rfl)) (sw_nil (post_then (cw_block ?_)))
  refine cw_loop (S := Nat) (fun k => [(0, [], sv), (1, [], .func (.func g) #[] cap), (7, [], .int .i64 xs.length), (8, [], .int .i64 k)]) (fun _ => Cl w [] []) (fun k => k ≤ xs.length ∧ ∀ j, j < k → p (nth xs j) = false) (fun k => xs.length - k) 0 ⟨by omega, fun j hj => by omega⟩ (by exact .cons rfl (.cons rfl (.cons rfl (.cons rfl .nil)))) (fun _ h => h) ?_
  rintro k ⟨hk, hbe⟩
  refine cw_seq (cw_region (sr rfl rfl rfl ((q_lss rfl rfl rfl)) (sw_nil (post_then (cw_seq ?_)))))
  refine cw_cond rfl (fun h => ?_) (fun h => ?_)
  · skip
    have hk' : k < xs.length := by simp only [decide_eq_true_eq] at h; omega
    refine cw_skip (post_then (cw_seq (cw_block (cw_seq (cw_region (sr rfl rfl rfl ((q_move rfl rfl)) (sr rfl rfl rfl ((q_assign rfl rfl)) (sw_nil (post_then (cw_seq (cw_region (sr rfl rfl rfl ((q_move rfl rfl)) (sr rfl rfl rfl ((q_move rfl rfl)) (sr rfl rfl rfl ((q_move rfl rfl)) ?_))))))))))))))
    refine sr rfl rfl rfl ((q_indexN rfl rfl rfl (by exact fun w hw => Stb.cl (by assumption) hw) (by intro hc; omega))) ?_
    refine sr rfl rfl rfl ((q_loadEl rfl rfl rfl (by exact fun w hw => Stb.cl (by assumption) hw) (by intro hc; omega))) ?_
    refine sw_step rfl rfl rfl (q_callv hgc rfl rfl (.cons rfl inferInstance (.nil)) (fun _ w' hw => callq hw (hg (nth xs k) (by rw [nth_get hk']; exact List.getElem_mem hk') w' (hR.cl hw)))) ?_
    refine sw_nil (post_then ?_)
    refine cw_cond rfl (fun h2 => ?_) (fun h2 => ?_)
    · skip
      refine cw_seq (cw_region (sr rfl rfl rfl ((q_move rfl rfl)) (sr rfl rfl rfl ((q_assign rfl rfl)) (sw_nil (post_then (cw_ret (post_blk_r (post_then_r (post_then_r (post_blk_r (post_then_r (post_ret1 rfl (resOk_tmp rfl) ?_))))))))))))
      exact fun w' hw => ⟨by rw [idxP_at hk' hbe h2], hw⟩
    · skip
      refine cw_skip (post_blk (post_then (cw_region ?_)))
      refine sr rfl rfl rfl ((q_add rfl rfl rfl (by intro hc; omega))) ?_
      refine sr rfl rfl rfl ((q_move rfl rfl)) (sw_nil ?_)
      refine post_next (k + 1) (by exact .cons rfl (.cons rfl (.cons rfl (.cons rfl .nil)))) (fun _ h => h) ⟨by omega, fun j hj => ?_⟩ (by omega)
      by_cases hjk : j = k
      · rw [hjk]; exact h2
      · exact hbe j (by omega)
  · skip
    have hk' : k = xs.length := by simp only [decide_eq_false_iff_not] at h; omega
    subst hk'
    refine cw_exit (post_then_x (post_then_x (post_blk_eq (post_then (cw_seq (cw_region (sr rfl rfl rfl ((q_assign rfl rfl)) (sw_nil (post_then (cw_ret (post_ret1 rfl (resOk_tmp rfl) ?_)))))))))))
    exact fun w' hw => ⟨by rw [idxP_none hbe], hw⟩
theorem containsRow_spec (sv : Value) (xs : List SlV) (g : FuncId) (cap : Array Value) (p : SlV → Bool) (R : World → Prop) (w : World) (hs : Stb w [] (RdL sv xs)) (hR : Stb w [] R) (hgc : CanCall Try.prog g) (hg : PredL Try.prog g cap p R xs) :
    Calls Try.prog 28 #[sv, .func (.func g) #[] cap] w fun e w' => e = .returned (.bool (xs.any p)) ∧ Cl w [] [] w' := by
  refine calls_cw (vs := [_, _]) Try.func28 rfl Try.ntmps28 rfl (Cl.start0 w) (cw_seq (cw_region (sr rfl rfl rfl ((q_assign rfl rfl)) (sw_nil (post_then (cw_seq (cw_region (sr rfl rfl rfl ((q_move rfl rfl)) (sr rfl rfl rfl ((q_move rfl rfl)) ?_)))))))))
  refine sw_step rfl rfl rfl (q_call (CanCall.mk Try.call50) rfl (.cons rfl inferInstance (.cons rfl inferInstance (.nil))) (fun _ w hw => callq hw (containsRow_index _ _ _ _ _ _ w (by exact stb_arg hw (by assumption)) (stb_arg hw hR) hgc hg))) ?_
  refine sr rfl rfl rfl ((q_geq rfl rfl rfl)) (sr rfl rfl rfl ((q_assign rfl rfl)) (sw_nil (post_then (cw_ret (post_ret1 rfl (resOk_tmp rfl) ?_)))))
  exact fun w' hw => ⟨by rw [idxP_any], hw⟩
def bOk (s : ByteArray) (i : Nat) : Bool := decide (33 ≤ byteAt s i) && decide (byteAt s i ≤ 126)
def phoneB (s : ByteArray) : Bool := (List.range s.size).all (bOk s) && inB s.size 1 8
theorem phone_no {s : ByteArray} {k : Nat} (hk : k < s.size) (h : bOk s k = false) : phoneB s = false := by
  have : (List.range s.size).all (bOk s) = false := List.all_eq_false.2 ⟨k, by simpa using hk, by simp [h]⟩
  simp [phoneB, this]
theorem phone_yes {s : ByteArray} (h : ∀ j, j < s.size → bOk s j = true) : phoneB s = inB s.size 1 8 := by
  have : (List.range s.size).all (bOk s) = true := List.all_eq_true.2 fun x hx => h x (by simpa using hx)
  simp [phoneB, this]
theorem phone_spec (s : ByteArray) (w : World) (hs : s.size ≤ 140737488355328) : Calls Try.prog 46 #[.string s] w fun e w' => e = .returned (.bool (phoneB s)) ∧ Cl w [] [] w' := by
  refine calls_cw (vs := [_]) Try.func46 rfl Try.ntmps46 rfl (Cl.start0 w) (cw_seq (cw_region (sr rfl rfl rfl ((q_assign rfl rfl)) (sw_nil (post_then (cw_seq (cw_seq (cw_region (sr rfl rfl rfl ((q_move rfl rfl)) (sr rfl rfl rfl ((q_lenS rfl (.cons rfl inferInstance (.nil)) Try.underlying9)) (sr rfl rfl rfl ((q_move rfl rfl)) (sw_nil (post_then (cw_block ?_))))))))))))))
  refine cw_loop (S := Nat) (fun k => [(0, [], .string s), (5, [], .int .i64 s.size), (6, [], .int .i64 k)]) (fun _ => Cl w [] []) (fun k => k ≤ s.size ∧ ∀ j, j < k → bOk s j = true) (fun k => s.size - k) 0 ⟨by omega, fun j hj => by omega⟩ (by exact .cons rfl (.cons rfl (.cons rfl .nil))) (fun _ h => h) ?_
  rintro k ⟨hk, hbe⟩
  refine cw_seq (cw_region (sr rfl rfl rfl ((q_lss rfl rfl rfl)) (sw_nil (post_then (cw_seq ?_)))))
  refine cw_cond rfl (fun h => ?_) (fun h => ?_)
  · skip
    have hk' : k < s.size := by simp only [decide_eq_true_eq] at h; omega
    refine cw_skip (post_then (cw_seq (cw_block (cw_seq (cw_region (sr rfl rfl rfl ((q_move rfl rfl)) (sr rfl rfl rfl ((q_assign rfl rfl)) (sw_nil (post_then (cw_seq (cw_region (sr rfl rfl rfl ((q_move rfl rfl)) (sr rfl rfl rfl ((q_move rfl rfl)) ?_)))))))))))))
    refine sr rfl rfl rfl ((q_indexS rfl rfl rfl Try.underlying9 (by intro hc; omega))) ?_
    refine sr rfl rfl rfl ((q_lss rfl rfl rfl)) (sr rfl rfl rfl ((q_move rfl rfl)) (sr rfl rfl rfl ((q_move rfl rfl)) (sr rfl rfl rfl ((q_move rfl rfl)) ?_)))
    refine sr rfl rfl rfl ((q_indexS rfl rfl rfl Try.underlying9 (by intro hc; omega))) ?_
    refine sr rfl rfl rfl ((q_gtr rfl rfl rfl)) (sr rfl rfl rfl ((q_or2 rfl rfl rfl)) (sw_nil (post_then ?_)))
    refine cw_cond rfl (fun h2 => ?_) (fun h2 => ?_)
    · skip
      have h3 : bOk s k = false := by
        simp only [Int.toNat_natCast, Bool.or_eq_true, decide_eq_true_eq] at h2
        simp [bOk]; omega
      refine cw_seq (cw_region (sr rfl rfl rfl ((q_assign rfl rfl)) (sw_nil (post_then (cw_ret (post_blk_r (post_then_r (post_then_r (post_blk_r (post_then_r (post_ret1 rfl (resOk_tmp rfl) ?_)))))))))))
      exact fun w' hw => ⟨by rw [phone_no hk' h3], hw⟩
    · skip
      have h3 : bOk s k = true := by
        simp only [Int.toNat_natCast, Bool.or_eq_false_iff, decide_eq_false_iff_not] at h2
        simp [bOk]; omega
      refine cw_skip (post_blk (post_then (cw_region ?_)))
      refine sr rfl rfl rfl ((q_add rfl rfl rfl (by intro hc; omega))) ?_
      refine sr rfl rfl rfl ((q_move rfl rfl)) (sw_nil ?_)
      refine post_next (k + 1) (by exact .cons rfl (.cons rfl (.cons rfl .nil))) (fun _ h => h) ⟨by omega, fun j hj => ?_⟩ (by omega)
      by_cases hjk : j = k
      · rw [hjk]; exact h3
      · exact hbe j (by omega)
  · skip
    have hk' : k = s.size := by simp only [decide_eq_false_iff_not] at h; omega
    subst hk'
    refine cw_exit (post_then_x (post_then_x (post_blk_eq (post_then (cw_seq (cw_region (sr rfl rfl rfl ((q_move rfl rfl)) (sr rfl rfl rfl ((q_lenS rfl (.cons rfl inferInstance (.nil)) Try.underlying9)) (sw_step rfl rfl rfl (q_call (CanCall.mk Try.call48) rfl (.cons rfl inferInstance (.cons rfl inferInstance (.cons rfl inferInstance (.nil)))) (fun _ w hw => callq hw (within_spec _ _ _ w))) (sr rfl rfl rfl ((q_assign rfl rfl)) (sw_nil (post_then (cw_ret (post_ret1 rfl (resOk_tmp rfl) ?_))))))))))))))
    exact fun w' hw => ⟨by rw [phone_yes hbe] <;> rfl, hw⟩
def besideB (s : ByteArray) : Bool := decide (s = ByteArray.empty) || phoneB s
theorem beside_spec (s : ByteArray) (w : World) (hs : s.size ≤ 140737488355328) : Calls Try.prog 47 #[.string s] w fun e w' => e = .returned (.bool (besideB s)) ∧ Cl w [] [] w' := by
  refine calls_cw (vs := [_]) Try.func47 rfl Try.ntmps47 rfl (Cl.start0 w) (cw_seq (cw_region (sr rfl rfl rfl ((q_assign rfl rfl)) (sw_nil (post_then (cw_seq (cw_region (sr rfl rfl rfl ((q_move rfl rfl)) (sr rfl rfl rfl ((q_eqlStr rfl rfl rfl Try.underlying9)) (sr rfl rfl rfl ((q_move rfl rfl)) (sr rfl rfl rfl ((q_move rfl rfl)) ?_)))))))))))
  refine sw_step rfl rfl rfl (q_call (CanCall.mk Try.call46) rfl (.cons rfl inferInstance (.nil)) (fun _ w hw => callq hw (phone_spec _ w (by omega)))) ?_
  refine sr rfl rfl rfl ((q_or2 rfl rfl rfl)) (sr rfl rfl rfl ((q_assign rfl rfl)) (sw_nil (post_then (cw_ret (post_ret1 rfl (resOk_tmp rfl) ?_)))))
  exact fun w' hw => ⟨rfl, hw⟩
end Go.Proofs.Ytomjbfeafodfbaa

set_option autoImplicit false
set_option maxRecDepth 100000
namespace Go.Proofs.Ytomjbfeafodfbaa
open Go.Sx
open Enc (enc val)
theorem nth_bd {l : List Int} {lo hi : Int} (h0 : lo ≤ 0 ∧ 0 ≤ hi) (h : ∀ v ∈ l, lo ≤ v ∧ v ≤ hi) (k : Nat) : lo ≤ nth l k ∧ nth l k ≤ hi := by
  by_cases hk : k < l.length
  · rw [nth_get hk]; exact h _ (List.getElem_mem _)
  · simp only [nth, List.getD, List.getElem?_eq_none (by omega : l.length ≤ k)]; exact h0
def vecB (l : List Int) : Bool := (l.all fun x => inB x (-10000) 10000) && inB l.length 1 40
theorem vec_bd {l : List Int} (h : vecB l = true) : (∀ k, -10000 ≤ nth l k ∧ nth l k ≤ 10000) ∧ 1 ≤ l.length ∧ l.length ≤ 40 := by
  simp only [vecB, Bool.and_eq_true, List.all_eq_true, inB, decide_eq_true_eq] at h
  exact ⟨nth_bd (by omega) fun v hv => h.1 v hv, by omega, by omega⟩
theorem vec_any (l : List Int) : (inB l.length 1 40 && !(l.any fun x => !inB x (-10000) 10000)) = vecB l := by
  have : (!(l.any fun x => !inB x (-10000) 10000)) = l.all fun x => inB x (-10000) 10000 := by
    rw [List.not_any_eq_all_not]; congr 1; funext x; simp
  rw [this, vecB, Bool.and_comm]
theorem vec1_spec (xs : List Int) : PredL Try.prog 62 #[] (fun x : Int => !inB x (-10000) 10000) (fun _ => True) xs := fun x _ w _ => by
    refine calls_cw (vs := [_]) Try.func62 rfl Try.ntmps62 rfl (Cl.start0 w) (cw_seq (cw_region (sr rfl rfl rfl ((q_assign rfl rfl)) (sw_nil (post_then (cw_seq (cw_region (sr rfl rfl rfl ((q_move rfl rfl)) (sw_step rfl rfl rfl (q_call (CanCall.mk Try.call48) rfl (.cons rfl inferInstance (.cons rfl inferInstance (.cons rfl inferInstance (.nil)))) (fun _ w hw => callq hw (within_spec _ _ _ w))) (sr rfl rfl rfl ((q_not rfl rfl)) (sr rfl rfl rfl ((q_assign rfl rfl)) (sw_nil (post_then (cw_ret (post_ret1 rfl (resOk_tmp rfl) ?_)))))))))))))))
    exact fun w' hw => ⟨rfl, hw⟩
theorem vector_spec (sv : Value) (l : List Int) (w : World) (hl : Stb w [] (RdL sv l)) : Calls Try.prog 59 #[sv] w fun e w' => e = .returned (.bool (vecB l)) ∧ Cl w [] [] w' := by
  have hL := rd_len hl.here
  refine calls_cw (vs := [_]) Try.func59 rfl Try.ntmps59 rfl (Cl.start0 w) (cw_seq (cw_region (sr rfl rfl rfl ((q_assign rfl rfl)) (sw_nil (post_then (cw_seq (cw_region (sr rfl rfl rfl ((q_move rfl rfl)) ?_))))))))
  refine sr rfl rfl rfl ((q_len rfl (.cons rfl inferInstance (.nil)) (by exact fun w hw => Stb.cl (by assumption) hw))) ?_
  refine sw_step rfl rfl rfl (q_call (CanCall.mk Try.call48) rfl (.cons rfl inferInstance (.cons rfl inferInstance (.cons rfl inferInstance (.nil)))) (fun _ w hw => callq hw (within_spec _ _ _ w))) (sr rfl rfl rfl ((q_move rfl rfl)) (sr rfl rfl rfl ((q_move rfl rfl)) ?_))
  refine sw_step rfl rfl rfl (q_call (CanCall.mk Try.call56) rfl (.cons rfl inferInstance (.cons rfl inferInstance (.nil))) (fun _ w hw => callq hw (containsInt_spec _ _ _ _ _ _ w (by exact stb_arg hw (by assumption)) (stb_true w []) (CanCall.mk Try.call62) (vec1_spec _)))) ?_
  refine sr rfl rfl rfl ((q_not rfl rfl)) (sr rfl rfl rfl ((q_and2 rfl rfl rfl)) (sr rfl rfl rfl ((q_assign rfl rfl)) (sw_nil (post_then (cw_ret (post_ret1 rfl (resOk_tmp rfl) ?_))))))
  exact fun w' hw => ⟨by rw [← vec_any], hw⟩
def distTo (a b : List Int) : Nat → Int
  | 0 => 0
  | k + 1 => distTo a b k + max (nth a k - nth b k) (nth b k - nth a k)
def dist (a b : List Int) : Int := distTo a b a.length
theorem distTo_bd {a b : List Int} (ha : ∀ k, -10000 ≤ nth a k ∧ nth a k ≤ 10000) (hb : ∀ k, -10000 ≤ nth b k ∧ nth b k ≤ 10000) : ∀ k : Nat, 0 ≤ distTo a b k ∧ distTo a b k ≤ 20000 * k
  | 0 => by simp [distTo]
  | k + 1 => by
    have h := distTo_bd ha hb k
    have h1 := ha k
    have h2 := hb k
    simp only [distTo]; omega
theorem dist_bd {a b : List Int} (ha : vecB a = true) (hb : vecB b = true) : 0 ≤ dist a b ∧ dist a b ≤ 800000 := by
  have h1 := vec_bd ha
  have := distTo_bd h1.1 (vec_bd hb).1 a.length
  unfold dist; omega
theorem distance_spec (sa sb : Value) (a b : List Int) (w : World) (ha : Stb w [] (RdL sa a)) (hb : Stb w [] (RdL sb b)) (va : vecB a = true) (vb : vecB b = true) (hab : a.length = b.length) : Calls Try.prog 54 #[sa, sb] w fun e w' => e = .returned (.int .i64 (dist a b)) ∧ Cl w [] [] w' := by
  have bda := vec_bd va
  have bdb := vec_bd vb
  refine calls_cw (vs := [_, _]) Try.func54 rfl Try.ntmps54 rfl (Cl.start0 w) (cw_seq (cw_region (sr rfl rfl rfl ((q_assign rfl rfl)) (sw_nil (post_then (cw_seq (cw_region (sr rfl rfl rfl ((q_assign rfl rfl)) (sw_nil (post_then (cw_seq (cw_seq (cw_region (sr rfl rfl rfl ((q_move rfl rfl)) ?_))))))))))))))
  refine sr rfl rfl rfl ((q_len rfl (.cons rfl inferInstance (.nil)) (by exact fun w hw => Stb.cl (by assumption) hw))) ?_
  refine sr rfl rfl rfl ((q_move rfl rfl)) (sw_nil (post_then (cw_block ?_)))
  refine cw_loop (S := Nat) (fun k => [(0, [], sa), (1, [], sb), (5, [], .int .i64 (distTo a b k)), (8, [], .int .i64 a.length), (9, [], .int .i64 k)]) (fun _ => Cl w [] []) (fun k => k ≤ a.length) (fun k => a.length - k) 0 (Nat.zero_le _) (by exact .cons rfl (.cons rfl (.cons rfl (.cons rfl (.cons rfl .nil))))) (fun _ h => h) ?_
  intro k hk
  have hd := distTo_bd bda.1 bdb.1 k
  have h1 := bda.1 k
  have h2 := bdb.1 k
  refine cw_seq (cw_region (sr rfl rfl rfl ((q_lss rfl rfl rfl)) (sw_nil (post_then (cw_seq ?_)))))
  refine cw_cond rfl (fun h => ?_) (fun h => ?_)
  · skip
    have hk' : k < a.length := by simp only [decide_eq_true_eq] at h; omega
    refine cw_skip (post_then (cw_seq (cw_block (cw_seq (cw_region (sr rfl rfl rfl ((q_move rfl rfl)) (sr rfl rfl rfl ((q_assign rfl rfl)) (sw_nil (post_then ?_)))))))))
    refine cw_region_q mixed_Try (by kernel_rfl) ?_
    refine qr rfl rfl rfl ((q_move rfl rfl)) (qr rfl rfl rfl ((q_move rfl rfl)) (qr rfl rfl rfl ((q_move rfl rfl)) ?_))
    refine qr rfl rfl rfl ((q_indexN rfl rfl rfl (by exact fun w hw => Stb.cl (by assumption) hw) (by intro hc; omega))) ?_
    refine qr rfl rfl rfl ((q_loadEl rfl rfl rfl (by exact fun w hw => Stb.cl (by assumption) hw) (by intro hc; omega))) ?_
    refine qr rfl rfl rfl ((q_move rfl rfl)) (qr rfl rfl rfl ((q_move rfl rfl)) ?_)
    refine qr rfl rfl rfl ((q_indexN rfl rfl rfl (by exact fun w hw => Stb.cl (by assumption) hw) (by intro hc; omega))) ?_
    refine qr rfl rfl rfl ((q_loadEl rfl rfl rfl (by exact fun w hw => Stb.cl (by assumption) hw) (by intro hc; omega))) ?_
    refine qw_step rfl rfl rfl (q_call (CanCall.mk Try.call49) rfl (.cons rfl inferInstance (.cons rfl inferInstance (.nil))) (fun _ w hw => callq hw (far_spec _ _ w (by omega)))) ?_
    refine qr rfl rfl rfl ((q_add rfl rfl rfl (by intro hc; omega))) ?_
    refine qr rfl rfl rfl ((q_assign rfl rfl)) (qw_end (post_blk (post_then (cw_region ?_))))
    refine sr rfl rfl rfl ((q_add rfl rfl rfl (by intro hc; omega))) ?_
    refine sr rfl rfl rfl ((q_move rfl rfl)) (sw_nil ?_)
    exact post_next (k + 1) (by exact .cons rfl (.cons rfl (.cons rfl (.cons rfl (.cons rfl .nil))))) (fun _ h => h) (by omega) (by omega)
  · skip
    have hk' : k = a.length := by simp only [decide_eq_false_iff_not] at h; omega
    subst hk'
    refine cw_exit (post_then_x (post_then_x (post_blk_eq (post_then (cw_seq (cw_region (sr rfl rfl rfl ((q_move rfl rfl)) (sr rfl rfl rfl ((q_assign rfl rfl)) (sw_nil (post_then (cw_ret (post_ret1 rfl (resOk_tmp rfl) ?_))))))))))))
    exact fun w' hw => ⟨rfl, hw⟩
end Go.Proofs.Ytomjbfeafodfbaa

set_option autoImplicit false
set_option maxRecDepth 100000
namespace Go.Proofs.Ytomjbfeafodfbaa
open Go.Sx
open Enc (enc val)
def unB (u : Un) : Bool := phoneB u.phone && besideB u.before && besideB u.after && inB u.pitch 0 2000 && inB u.length 1 100000 && decide (0 ≤ u.take) && decide (0 ≤ u.fr) && decide (u.fr < u.to) && decide (u.to ≤ 2147483648) && vecB u.bl && vecB u.el && decide (u.bl.length = u.el.length)
def waB (t : Wan) : Bool := phoneB t.phone && besideB t.before && besideB t.after && inB t.pitch 0 2000 && inB t.length 1 100000
def wtB (w : Wts) : Bool := inB w.beside 0 1000 && inB w.pitch 0 1000 && inB w.length 0 1000 && inB w.join 0 1000
/-- A unit's strings are no monsters, its vectors read as the lists. -/
structure UnRd (w : World) (u : Un) : Prop where
  s1 : u.phone.size ≤ 140737488355328
  s2 : u.before.size ≤ 140737488355328
  s3 : u.after.size ≤ 140737488355328
  b : Stb w [] (RdL u.bs.v u.bl)
  e : Stb w [] (RdL u.es.v u.el)
theorem UnRd.arg {w0 w : World} {H : List Asn} {u : Un} (hw : Cl w0 [] H w) (h : UnRd w0 u) : UnRd w u := ⟨h.s1, h.s2, h.s3, stb_arg hw h.b, stb_arg hw h.e⟩
structure WaRd (t : Wan) : Prop where
  s1 : t.phone.size ≤ 140737488355328
  s2 : t.before.size ≤ 140737488355328
  s3 : t.after.size ≤ 140737488355328
theorem q_off {P : Program} {n : Fr} {E : Env} {C : World → Prop} {cs : List Bool} {o : Oper} {v : Value} (h : ¬ AllT cs) : OpR P n E C cs o v := fun _ _ hc => absurd hc h
theorem right_spec (u : Un) (w : World) (hu : UnRd w u) : Calls Try.prog 43 #[val u] w fun e w' => e = .returned (.bool (unB u)) ∧ Cl w [] [] w' := by
  obtain ⟨s1, s2, s3, hb, he⟩ := hu
  refine calls_cw (vs := [_]) Try.func43 rfl Try.ntmps43 rfl (Cl.start0 w) (cw_seq (cw_region ?_))
  refine sw_x rfl rfl rfl (e_box rfl rfl rfl) (fun b1 => ?_)
  refine sr rfl rfl rfl ((q_assign rfl rfl)) (sw_nil (post_then (cw_seq (cw_region (sr rfl rfl rfl ((q_fieldAddr rfl rfl)) ?_)))))
  refine sr rfl rfl rfl ((q_loadC rfl rfl (by exact .head _) rfl)) ?_
  refine sw_step rfl rfl rfl (q_call (CanCall.mk Try.call46) rfl (.cons rfl inferInstance (.nil)) (fun _ w hw => callq hw (phone_spec _ w (by omega)))) ?_
  refine sr rfl rfl rfl ((q_move rfl rfl)) (sr rfl rfl rfl ((q_fieldAddr rfl rfl)) ?_)
  refine sr rfl rfl rfl ((q_loadC rfl rfl (by exact .head _) rfl)) ?_
  refine sw_step rfl rfl rfl (q_call (CanCall.mk Try.call47) rfl (.cons rfl inferInstance (.nil)) (fun _ w hw => callq hw (beside_spec _ w (by omega)))) ?_
  refine sr rfl rfl rfl ((q_and2 rfl rfl rfl)) (sr rfl rfl rfl ((q_move rfl rfl)) (sr rfl rfl rfl ((q_fieldAddr rfl rfl)) ?_))
  refine sr rfl rfl rfl ((q_loadC rfl rfl (by exact .head _) rfl)) ?_
  refine sw_step rfl rfl rfl (q_call (CanCall.mk Try.call47) rfl (.cons rfl inferInstance (.nil)) (fun _ w hw => callq hw (beside_spec _ w (by omega)))) ?_
  refine sr rfl rfl rfl ((q_and2 rfl rfl rfl)) (sr rfl rfl rfl ((q_move rfl rfl)) (sr rfl rfl rfl ((q_fieldAddr rfl rfl)) ?_))
  refine sr rfl rfl rfl ((q_loadC rfl rfl (by exact .head _) rfl)) ?_
  refine sw_step rfl rfl rfl (q_call (CanCall.mk Try.call48) rfl (.cons rfl inferInstance (.cons rfl inferInstance (.cons rfl inferInstance (.nil)))) (fun _ w hw => callq hw (within_spec _ _ _ w))) (sr rfl rfl rfl ((q_and2 rfl rfl rfl)) (sr rfl rfl rfl ((q_move rfl rfl)) (sr rfl rfl rfl ((q_fieldAddr rfl rfl)) ?_)))
  refine sr rfl rfl rfl ((q_loadC rfl rfl (by exact .head _) rfl)) ?_
  refine sw_step rfl rfl rfl (q_call (CanCall.mk Try.call48) rfl (.cons rfl inferInstance (.cons rfl inferInstance (.cons rfl inferInstance (.nil)))) (fun _ w hw => callq hw (within_spec _ _ _ w))) (sr rfl rfl rfl ((q_and2 rfl rfl rfl)) (sr rfl rfl rfl ((q_move rfl rfl)) (sr rfl rfl rfl ((q_fieldAddr rfl rfl)) ?_)))
  refine sr rfl rfl rfl ((q_loadC rfl rfl (by exact .head _) rfl)) ?_
  refine sr rfl rfl rfl ((q_geq rfl rfl rfl)) (sr rfl rfl rfl ((q_and2 rfl rfl rfl)) (sr rfl rfl rfl ((q_move rfl rfl)) (sr rfl rfl rfl ((q_fieldAddr rfl rfl)) ?_)))
  refine sr rfl rfl rfl ((q_loadC rfl rfl (by exact .head _) rfl)) ?_
  refine sr rfl rfl rfl ((q_geq rfl rfl rfl)) (sr rfl rfl rfl ((q_and2 rfl rfl rfl)) (sr rfl rfl rfl ((q_move rfl rfl)) (sr rfl rfl rfl ((q_fieldAddr rfl rfl)) ?_)))
  refine sr rfl rfl rfl ((q_loadC rfl rfl (by exact .head _) rfl)) ?_
  refine sr rfl rfl rfl ((q_fieldAddr rfl rfl)) ?_
  refine sr rfl rfl rfl ((q_loadC rfl rfl (by exact .head _) rfl)) ?_
  refine sr rfl rfl rfl ((q_lss rfl rfl rfl)) (sr rfl rfl rfl ((q_and2 rfl rfl rfl)) (sr rfl rfl rfl ((q_move rfl rfl)) (sr rfl rfl rfl ((q_fieldAddr rfl rfl)) ?_)))
  refine sr rfl rfl rfl ((q_loadC rfl rfl (by exact .head _) rfl)) ?_
  refine sr rfl rfl rfl ((q_leq rfl rfl rfl)) (sr rfl rfl rfl ((q_and2 rfl rfl rfl)) (sr rfl rfl rfl ((q_move rfl rfl)) (sr rfl rfl rfl ((q_fieldAddr rfl rfl)) ?_)))
  refine sr rfl rfl rfl ((q_loadC rfl rfl (by exact .head _) rfl)) ?_
  refine sw_step rfl rfl rfl (q_call (CanCall.mk Try.call59) rfl (.cons rfl inferInstance (.nil)) (fun _ w hw => callq hw (vector_spec _ _ w (by exact stb_arg hw (by assumption))))) ?_
  refine sr rfl rfl rfl ((q_and2 rfl rfl rfl)) (sr rfl rfl rfl ((q_move rfl rfl)) (sr rfl rfl rfl ((q_fieldAddr rfl rfl)) ?_))
  refine sr rfl rfl rfl ((q_loadC rfl rfl (by exact .head _) rfl)) ?_
  refine sw_step rfl rfl rfl (q_call (CanCall.mk Try.call59) rfl (.cons rfl inferInstance (.nil)) (fun _ w hw => callq hw (vector_spec _ _ w (by exact stb_arg hw (by assumption))))) ?_
  refine sr rfl rfl rfl ((q_and2 rfl rfl rfl)) (sr rfl rfl rfl ((q_move rfl rfl)) (sr rfl rfl rfl ((q_fieldAddr rfl rfl)) ?_))
  refine sr rfl rfl rfl ((q_loadC rfl rfl (by exact .head _) rfl)) ?_
  refine sr rfl rfl rfl ((q_len rfl (.cons rfl inferInstance (.nil)) (by exact fun w hw => Stb.cl (by assumption) hw))) ?_
  refine sr rfl rfl rfl ((q_fieldAddr rfl rfl)) ?_
  refine sr rfl rfl rfl ((q_loadC rfl rfl (by exact .head _) rfl)) ?_
  refine sr rfl rfl rfl ((q_len rfl (.cons rfl inferInstance (.nil)) (by exact fun w hw => Stb.cl (by assumption) hw))) ?_
  refine sr rfl rfl rfl ((q_eql rfl rfl rfl)) (sr rfl rfl rfl ((q_and2 rfl rfl rfl)) (sr rfl rfl rfl ((q_assign rfl rfl)) (sw_nil (post_then (cw_ret (post_ret1 rfl (resOk_tmp rfl) ?_))))))
  exact fun w' hw => ⟨by unfold unB; rw [show decide (((u.bl.length : Nat) : Int) = u.el.length) = decide (u.bl.length = u.el.length) from decide_eq_decide.2 (by omega)], (fun w h => Cl.sel (by exact .nil _) w h) _ hw⟩
theorem wanted_spec (t : Wan) (w : World) (ht : WaRd t) : Calls Try.prog 24 #[val t] w fun e w' => e = .returned (.bool (waB t)) ∧ Cl w [] [] w' := by
  obtain ⟨s1, s2, s3⟩ := ht
  refine calls_cw (vs := [_]) Try.func24 rfl Try.ntmps24 rfl (Cl.start0 w) (cw_seq (cw_region ?_))
  refine sw_x rfl rfl rfl (e_box rfl rfl rfl) (fun b1 => ?_)
  refine sr rfl rfl rfl ((q_assign rfl rfl)) (sw_nil (post_then (cw_seq (cw_region (sr rfl rfl rfl ((q_fieldAddr rfl rfl)) ?_)))))
  refine sr rfl rfl rfl ((q_loadC rfl rfl (by exact .head _) rfl)) ?_
  refine sw_step rfl rfl rfl (q_call (CanCall.mk Try.call46) rfl (.cons rfl inferInstance (.nil)) (fun _ w hw => callq hw (phone_spec _ w (by omega)))) ?_
  refine sr rfl rfl rfl ((q_move rfl rfl)) (sr rfl rfl rfl ((q_fieldAddr rfl rfl)) ?_)
  refine sr rfl rfl rfl ((q_loadC rfl rfl (by exact .head _) rfl)) ?_
  refine sw_step rfl rfl rfl (q_call (CanCall.mk Try.call47) rfl (.cons rfl inferInstance (.nil)) (fun _ w hw => callq hw (beside_spec _ w (by omega)))) ?_
  refine sr rfl rfl rfl ((q_and2 rfl rfl rfl)) (sr rfl rfl rfl ((q_move rfl rfl)) (sr rfl rfl rfl ((q_fieldAddr rfl rfl)) ?_))
  refine sr rfl rfl rfl ((q_loadC rfl rfl (by exact .head _) rfl)) ?_
  refine sw_step rfl rfl rfl (q_call (CanCall.mk Try.call47) rfl (.cons rfl inferInstance (.nil)) (fun _ w hw => callq hw (beside_spec _ w (by omega)))) ?_
  refine sr rfl rfl rfl ((q_and2 rfl rfl rfl)) (sr rfl rfl rfl ((q_move rfl rfl)) (sr rfl rfl rfl ((q_fieldAddr rfl rfl)) ?_))
  refine sr rfl rfl rfl ((q_loadC rfl rfl (by exact .head _) rfl)) ?_
  refine sw_step rfl rfl rfl (q_call (CanCall.mk Try.call48) rfl (.cons rfl inferInstance (.cons rfl inferInstance (.cons rfl inferInstance (.nil)))) (fun _ w hw => callq hw (within_spec _ _ _ w))) (sr rfl rfl rfl ((q_and2 rfl rfl rfl)) (sr rfl rfl rfl ((q_move rfl rfl)) (sr rfl rfl rfl ((q_fieldAddr rfl rfl)) ?_)))
  refine sr rfl rfl rfl ((q_loadC rfl rfl (by exact .head _) rfl)) ?_
  refine sw_step rfl rfl rfl (q_call (CanCall.mk Try.call48) rfl (.cons rfl inferInstance (.cons rfl inferInstance (.cons rfl inferInstance (.nil)))) (fun _ w hw => callq hw (within_spec _ _ _ w))) (sr rfl rfl rfl ((q_and2 rfl rfl rfl)) (sr rfl rfl rfl ((q_assign rfl rfl)) (sw_nil (post_then (cw_ret (post_ret1 rfl (resOk_tmp rfl) ?_))))))
  exact fun w' hw => ⟨rfl, (fun w h => Cl.sel (by exact .nil _) w h) _ hw⟩
theorem weights_spec (x : Wts) (w : World) : Calls Try.prog 25 #[val x] w fun e w' => e = .returned (.bool (wtB x)) ∧ Cl w [] [] w' := by
  refine calls_cw (vs := [_]) Try.func25 rfl Try.ntmps25 rfl (Cl.start0 w) (cw_seq (cw_region ?_))
  refine sw_x rfl rfl rfl (e_box rfl rfl rfl) (fun b1 => ?_)
  refine sr rfl rfl rfl ((q_assign rfl rfl)) (sw_nil (post_then (cw_seq (cw_region (sr rfl rfl rfl ((q_fieldAddr rfl rfl)) ?_)))))
  refine sr rfl rfl rfl ((q_loadC rfl rfl (by exact .head _) rfl)) ?_
  refine sw_step rfl rfl rfl (q_call (CanCall.mk Try.call48) rfl (.cons rfl inferInstance (.cons rfl inferInstance (.cons rfl inferInstance (.nil)))) (fun _ w hw => callq hw (within_spec _ _ _ w))) (sr rfl rfl rfl ((q_move rfl rfl)) (sr rfl rfl rfl ((q_fieldAddr rfl rfl)) ?_))
  refine sr rfl rfl rfl ((q_loadC rfl rfl (by exact .head _) rfl)) ?_
  refine sw_step rfl rfl rfl (q_call (CanCall.mk Try.call48) rfl (.cons rfl inferInstance (.cons rfl inferInstance (.cons rfl inferInstance (.nil)))) (fun _ w hw => callq hw (within_spec _ _ _ w))) (sr rfl rfl rfl ((q_and2 rfl rfl rfl)) (sr rfl rfl rfl ((q_move rfl rfl)) (sr rfl rfl rfl ((q_fieldAddr rfl rfl)) ?_)))
  refine sr rfl rfl rfl ((q_loadC rfl rfl (by exact .head _) rfl)) ?_
  refine sw_step rfl rfl rfl (q_call (CanCall.mk Try.call48) rfl (.cons rfl inferInstance (.cons rfl inferInstance (.cons rfl inferInstance (.nil)))) (fun _ w hw => callq hw (within_spec _ _ _ w))) (sr rfl rfl rfl ((q_and2 rfl rfl rfl)) (sr rfl rfl rfl ((q_move rfl rfl)) (sr rfl rfl rfl ((q_fieldAddr rfl rfl)) ?_)))
  refine sr rfl rfl rfl ((q_loadC rfl rfl (by exact .head _) rfl)) ?_
  refine sw_step rfl rfl rfl (q_call (CanCall.mk Try.call48) rfl (.cons rfl inferInstance (.cons rfl inferInstance (.cons rfl inferInstance (.nil)))) (fun _ w hw => callq hw (within_spec _ _ _ w))) (sr rfl rfl rfl ((q_and2 rfl rfl rfl)) (sr rfl rfl rfl ((q_assign rfl rfl)) (sw_nil (post_then (cw_ret (post_ret1 rfl (resOk_tmp rfl) ?_))))))
  exact fun w' hw => ⟨rfl, (fun w h => Cl.sel (by exact .nil _) w h) _ hw⟩
def joinC (x : Wts) (a b : Un) : Int := if a.take = b.take ∧ a.to = b.fr then 0 else x.join * dist a.el b.bl
def fitC (x : Wts) (u : Un) (t : Wan) : Int :=
  x.length * max (u.length - t.length) (t.length - u.length) + (if u.before = t.before then 0 else x.beside) + (if u.after = t.after then 0 else x.beside) +
    (if 0 < u.pitch ∧ 0 < t.pitch then x.pitch * max (u.pitch - t.pitch) (t.pitch - u.pitch) else if 0 < u.pitch ∨ 0 < t.pitch then 2000 * x.pitch else 0)
structure UnOk (u : Un) : Prop where
  p : 0 ≤ u.pitch ∧ u.pitch ≤ 2000
  l : 1 ≤ u.length ∧ u.length ≤ 100000
  t : 0 ≤ u.take
  f : 0 ≤ u.fr ∧ u.fr < u.to ∧ u.to ≤ 2147483648
  b : vecB u.bl = true
  e : vecB u.el = true
  be : u.bl.length = u.el.length
theorem un_ok {u : Un} (h : unB u = true) : UnOk u := by
  simp only [unB, Bool.and_eq_true, inB, decide_eq_true_eq] at h
  obtain ⟨⟨⟨⟨⟨⟨⟨⟨⟨⟨⟨_, _⟩, _⟩, h1⟩, h2⟩, h3⟩, h4⟩, h5⟩, h6⟩, h7⟩, h8⟩, h9⟩ := h
  exact ⟨h1, h2, h3, ⟨h4, h5, h6⟩, h7, h8, h9⟩
structure WaOk (t : Wan) : Prop where
  p : 0 ≤ t.pitch ∧ t.pitch ≤ 2000
  l : 1 ≤ t.length ∧ t.length ≤ 100000
theorem wa_ok {t : Wan} (h : waB t = true) : WaOk t := by
  simp only [waB, Bool.and_eq_true, inB, decide_eq_true_eq] at h
  exact ⟨h.1.2, h.2⟩
structure WtOk (x : Wts) : Prop where
  b : 0 ≤ x.beside ∧ x.beside ≤ 1000
  p : 0 ≤ x.pitch ∧ x.pitch ≤ 1000
  l : 0 ≤ x.length ∧ x.length ≤ 1000
  j : 0 ≤ x.join ∧ x.join ≤ 1000
theorem wt_ok {x : Wts} (h : wtB x = true) : WtOk x := by
  simp only [wtB, Bool.and_eq_true, inB, decide_eq_true_eq] at h
  exact ⟨h.1.1.1, h.1.1.2, h.1.2, h.2⟩
theorem mul_bd {a b A B : Int} (ha : 0 ≤ a ∧ a ≤ A) (hb : 0 ≤ b ∧ b ≤ B) : 0 ≤ a * b ∧ a * b ≤ A * B := ⟨Int.mul_nonneg ha.1 hb.1, Int.mul_le_mul ha.2 hb.2 hb.1 (by omega)⟩
theorem joinC_bd {x : Wts} {a b : Un} (hx : WtOk x) (ha : UnOk a) (hb : UnOk b) : 0 ≤ joinC x a b ∧ joinC x a b ≤ 800000000 := by
  have := mul_bd hx.j (dist_bd ha.e hb.b)
  unfold joinC; split <;> omega
theorem fitC_bd {x : Wts} {u : Un} {t : Wan} (hx : WtOk x) (hu : UnOk u) (ht : WaOk t) : 0 ≤ fitC x u t ∧ fitC x u t ≤ 102002000 := by
  obtain ⟨p1, l1, _, _, _, _, _⟩ := hu
  obtain ⟨p2, l2⟩ := ht
  have h1 := mul_bd hx.l (show 0 ≤ max (u.length - t.length) (t.length - u.length) ∧ max (u.length - t.length) (t.length - u.length) ≤ 100000 by omega)
  have h2 := mul_bd hx.p (show 0 ≤ max (u.pitch - t.pitch) (t.pitch - u.pitch) ∧ max (u.pitch - t.pitch) (t.pitch - u.pitch) ≤ 2000 by omega)
  have h3 := hx.b
  have h4 := hx.p
  unfold fitC
  split <;> split <;> split <;> (try split) <;> omega
theorem joining_spec (a b : Un) (x : Wts) (w : World) (ha : UnRd w a) (hb : UnRd w b) (oa : UnOk a) (ob : UnOk b) (hab : a.el.length = b.bl.length) (ox : WtOk x) : Calls Try.prog 34 #[val a, val b, val x] w fun e w' => e = .returned (.int .i64 (joinC x a b)) ∧ Cl w [] [] w' := by
  have hae := ha.e
  have hbb := hb.b
  have hd := dist_bd oa.e ob.b
  have hm := mul_bd ox.j hd
  refine calls_cw (vs := [_, _, _]) Try.func34 rfl Try.ntmps34 rfl (Cl.start0 w) (cw_seq (cw_region ?_))
  refine sw_x rfl rfl rfl (e_box rfl rfl rfl) (fun b3 => ?_)
  refine sw_x rfl rfl rfl (e_box rfl rfl rfl) (fun b4 => ?_)
  refine sw_x rfl rfl rfl (e_box rfl rfl rfl) (fun b5 => ?_)
  refine sr rfl rfl rfl ((q_assign rfl rfl)) (sw_nil (post_then (cw_seq (cw_seq (cw_region (sr rfl rfl rfl ((q_fieldAddr rfl rfl)) ?_))))))
  refine sr rfl rfl rfl ((q_loadC rfl rfl (by exact .tail _ (.tail _ (.head _))) rfl)) ?_
  refine sr rfl rfl rfl ((q_fieldAddr rfl rfl)) ?_
  refine sr rfl rfl rfl ((q_loadC rfl rfl (by exact .tail _ (.head _)) rfl)) ?_
  refine sr rfl rfl rfl ((q_eql rfl rfl rfl)) (sr rfl rfl rfl ((q_move rfl rfl)) (sr rfl rfl rfl ((q_fieldAddr rfl rfl)) ?_))
  refine sr rfl rfl rfl ((q_loadC rfl rfl (by exact .tail _ (.head _)) rfl)) ?_
  refine sr rfl rfl rfl ((q_fieldAddr rfl rfl)) ?_
  refine sr rfl rfl rfl ((q_loadC rfl rfl (by exact .tail _ (.tail _ (.head _))) rfl)) ?_
  refine sr rfl rfl rfl ((q_eql rfl rfl rfl)) (sr rfl rfl rfl ((q_and2 rfl rfl rfl)) (sw_nil (post_then ?_)))
  refine cw_cond rfl (fun h => ?_) (fun h => ?_)
  · skip
    have h1 : a.take = b.take ∧ a.to = b.fr := by
      simp only [Bool.and_eq_true, decide_eq_true_eq] at h
      omega
    refine cw_seq (cw_region (sr rfl rfl rfl ((q_assign rfl rfl)) (sw_nil (post_then (cw_ret (post_then_r (post_ret1 rfl (resOk_tmp rfl) ?_)))))))
    exact fun w' hw => ⟨by rw [joinC, if_pos h1], (fun w h => Cl.sel (by exact .nil _) w h) _ hw⟩
  · skip
    have h1 : ¬ (a.take = b.take ∧ a.to = b.fr) := by
      intro hc
      simp [hc] at h
    refine cw_skip (post_then (cw_seq ?_))
    refine cw_region_q mixed_Try (by kernel_rfl) ?_
    refine qr rfl rfl rfl ((q_fieldAddr rfl rfl)) ?_
    refine qr rfl rfl rfl ((q_loadC rfl rfl (by exact .head _) rfl)) ?_
    refine qr rfl rfl rfl ((q_fieldAddr rfl rfl)) ?_
    refine qr rfl rfl rfl ((q_loadC rfl rfl (by exact .tail _ (.tail _ (.head _))) rfl)) ?_
    refine qr rfl rfl rfl ((q_fieldAddr rfl rfl)) ?_
    refine qr rfl rfl rfl ((q_loadC rfl rfl (by exact .tail _ (.head _)) rfl)) ?_
    refine qw_step rfl rfl rfl (q_call (CanCall.mk Try.call54) rfl (.cons rfl inferInstance (.cons rfl inferInstance (.nil))) (fun _ w hw => callq hw (distance_spec _ _ _ _ w (by exact stb_arg hw (by assumption)) (by exact stb_arg hw (by assumption)) oa.e ob.b hab))) ?_
    refine qr rfl rfl rfl ((q_mul rfl rfl rfl (by intro hc; omega))) ?_
    refine qr rfl rfl rfl ((q_assign rfl rfl)) (qw_end (post_then (cw_ret (post_ret1 rfl (resOk_tmp rfl) ?_))))
    exact fun w' hw => ⟨by rw [joinC, if_neg h1], (fun w h => Cl.sel (by exact .nil _) w h) _ hw⟩
end Go.Proofs.Ytomjbfeafodfbaa

set_option autoImplicit false
set_option maxRecDepth 100000
namespace Go.Proofs.Ytomjbfeafodfbaa
open Go.Sx
open Enc (enc val)
theorem fitting_spec (u : Un) (t : Wan) (x : Wts) (w : World) (ou : UnOk u) (ot : WaOk t) (ox : WtOk x) : Calls Try.prog 27 #[val u, val t, val x] w fun e w' => e = .returned (.int .i64 (fitC x u t)) ∧ Cl w [] [] w' := by
  obtain ⟨p1, l1, _, _, _, _, _⟩ := ou
  obtain ⟨p2, l2⟩ := ot
  have h1 := mul_bd ox.l (show 0 ≤ max (u.length - t.length) (t.length - u.length) ∧ max (u.length - t.length) (t.length - u.length) ≤ 100000 by omega)
  have h2 := mul_bd ox.p (show 0 ≤ max (u.pitch - t.pitch) (t.pitch - u.pitch) ∧ max (u.pitch - t.pitch) (t.pitch - u.pitch) ≤ 2000 by omega)
  have h3 := ox.b
  have h4 := ox.p
  refine calls_cw (vs := [_, _, _]) Try.func27 rfl Try.ntmps27 rfl (Cl.start0 w) (cw_seq (cw_region ?_))
  refine sw_x rfl rfl rfl (e_box rfl rfl rfl) (fun b3 => ?_)
  refine sw_x rfl rfl rfl (e_box rfl rfl rfl) (fun b4 => ?_)
  refine sw_x rfl rfl rfl (e_box rfl rfl rfl) (fun b5 => ?_)
  refine sr rfl rfl rfl ((q_assign rfl rfl)) (sw_nil (post_then (cw_seq ?_)))
  refine cw_region_q mixed_Try (by kernel_rfl) ?_
  refine qr rfl rfl rfl ((q_fieldAddr rfl rfl)) ?_
  refine qr rfl rfl rfl ((q_loadC rfl rfl (by exact .head _) rfl)) ?_
  refine qr rfl rfl rfl ((q_fieldAddr rfl rfl)) ?_
  refine qr rfl rfl rfl ((q_loadC rfl rfl (by exact .tail _ (.tail _ (.head _))) rfl)) ?_
  refine qr rfl rfl rfl ((q_fieldAddr rfl rfl)) ?_
  refine qr rfl rfl rfl ((q_loadC rfl rfl (by exact .tail _ (.head _)) rfl)) ?_
  refine qw_step rfl rfl rfl (q_call (CanCall.mk Try.call49) rfl (.cons rfl inferInstance (.cons rfl inferInstance (.nil))) (fun _ w hw => callq hw (far_spec _ _ w (by omega)))) ?_
  refine qr rfl rfl rfl ((q_mul rfl rfl rfl (by intro hc; omega))) ?_
  refine qr rfl rfl rfl ((q_assign rfl rfl)) (qw_end (post_then (cw_seq (cw_seq (cw_region (sr rfl rfl rfl ((q_fieldAddr rfl rfl)) ?_))))))
  refine sr rfl rfl rfl ((q_loadC rfl rfl (by exact .tail _ (.tail _ (.head _))) rfl)) ?_
  refine sr rfl rfl rfl ((q_fieldAddr rfl rfl)) ?_
  refine sr rfl rfl rfl ((q_loadC rfl rfl (by exact .tail _ (.head _)) rfl)) ?_
  refine sr rfl rfl rfl ((q_neqStr rfl rfl rfl Try.underlying9)) (sw_nil (post_then ?_))
  obtain ⟨n1, hn1⟩ : ∃ n1 : Int, (if u.before = t.before then 0 else x.beside) = n1 := ⟨_, rfl⟩
  have bn1 : 0 ≤ n1 ∧ n1 ≤ 1000 := by rw [← hn1]; split <;> omega
  refine cw_cut (S := Unit) (fun _ => [(3, [], .pointer (some ⟨b3, 0, none⟩)), (4, [], .pointer (some ⟨b4, 0, none⟩)), (5, [], .pointer (some ⟨b5, 0, none⟩)), (7, [], .int .i64 (x.length * max (u.length - t.length) (t.length - u.length) + n1))]) (fun _ => Cl w [] [blk b5 (enc x) 39, blk b4 (enc t) 32, blk b3 (enc u) 30]) (fun _ => True) ?_ ?_
  · refine cw_cond rfl (fun g => ?_) (fun g => ?_)
    · skip
      have g1 : ¬ u.before = t.before := by simpa using g
      refine cw_region (sr rfl rfl rfl ((q_move rfl rfl)) (sr rfl rfl rfl ((q_fieldAddr rfl rfl)) ?_))
      refine sr rfl rfl rfl ((q_loadC rfl rfl (by exact .head _) rfl)) ?_
      refine sr rfl rfl rfl ((q_add rfl rfl rfl (by intro hc; omega))) ?_
      refine sr rfl rfl rfl ((q_assign rfl rfl)) (sw_nil ?_)
      exact post_meet () (by rw [← hn1, if_neg g1]; exact (by exact .cons rfl (.cons rfl (.cons rfl (.cons rfl .nil))))) (fun w h => Cl.sel (by exact .take 0 rfl (.take 0 rfl (.take 0 rfl (.nil _)))) w h) trivial
    · skip
      have g1 : u.before = t.before := by simpa using g
      refine cw_skip ?_
      exact post_meet () (by rw [← hn1, if_pos g1]; exact (by exact .cons rfl (.cons rfl (.cons rfl (.cons' rfl (by congr 1; first | omega | (simp only; omega)) .nil))))) (fun w h => Cl.sel (by exact .take 0 rfl (.take 0 rfl (.take 0 rfl (.nil _)))) w h) trivial
  intro _ _
  refine post_then (cw_seq (cw_seq (cw_region (sr rfl rfl rfl ((q_fieldAddr rfl rfl)) ?_))))
  refine sr rfl rfl rfl ((q_loadC rfl rfl (by exact .tail _ (.tail _ (.head _))) rfl)) ?_
  refine sr rfl rfl rfl ((q_fieldAddr rfl rfl)) ?_
  refine sr rfl rfl rfl ((q_loadC rfl rfl (by exact .tail _ (.head _)) rfl)) ?_
  refine sr rfl rfl rfl ((q_neqStr rfl rfl rfl Try.underlying9)) (sw_nil (post_then ?_))
  obtain ⟨n2, hn2⟩ : ∃ n2 : Int, (if u.after = t.after then 0 else x.beside) = n2 := ⟨_, rfl⟩
  have bn2 : 0 ≤ n2 ∧ n2 ≤ 1000 := by rw [← hn2]; split <;> omega
  refine cw_cut (S := Unit) (fun _ => [(3, [], .pointer (some ⟨b3, 0, none⟩)), (4, [], .pointer (some ⟨b4, 0, none⟩)), (5, [], .pointer (some ⟨b5, 0, none⟩)), (7, [], .int .i64 (x.length * max (u.length - t.length) (t.length - u.length) + n1 + n2))]) (fun _ => Cl w [] [blk b5 (enc x) 39, blk b4 (enc t) 32, blk b3 (enc u) 30]) (fun _ => True) ?_ ?_
  · refine cw_cond rfl (fun g => ?_) (fun g => ?_)
    · skip
      have g1 : ¬ u.after = t.after := by simpa using g
      refine cw_region (sr rfl rfl rfl ((q_move rfl rfl)) (sr rfl rfl rfl ((q_fieldAddr rfl rfl)) ?_))
      refine sr rfl rfl rfl ((q_loadC rfl rfl (by exact .head _) rfl)) ?_
      refine sr rfl rfl rfl ((q_add rfl rfl rfl (by intro hc; omega))) ?_
      refine sr rfl rfl rfl ((q_assign rfl rfl)) (sw_nil ?_)
      exact post_meet () (by rw [← hn2, if_neg g1]; exact (by exact .cons rfl (.cons rfl (.cons rfl (.cons rfl .nil))))) (fun w h => Cl.sel (by exact .take 0 rfl (.take 0 rfl (.take 0 rfl (.nil _)))) w h) trivial
    · skip
      have g1 : u.after = t.after := by simpa using g
      refine cw_skip ?_
      exact post_meet () (by rw [← hn2, if_pos g1]; exact (by exact .cons rfl (.cons rfl (.cons rfl (.cons' rfl (by congr 1; first | omega | (simp only; omega)) .nil))))) (fun w h => Cl.sel (by exact .take 0 rfl (.take 0 rfl (.take 0 rfl (.nil _)))) w h) trivial
  intro _ _
  refine post_then (cw_seq (cw_block (cw_seq (cw_region (sr rfl rfl rfl ((q_fieldAddr rfl rfl)) ?_)))))
  refine sr rfl rfl rfl ((q_loadC rfl rfl (by exact .tail _ (.tail _ (.head _))) rfl)) ?_
  refine sr rfl rfl rfl ((q_gtr rfl rfl rfl)) (sr rfl rfl rfl ((q_move rfl rfl)) (sr rfl rfl rfl ((q_fieldAddr rfl rfl)) ?_))
  refine sr rfl rfl rfl ((q_loadC rfl rfl (by exact .tail _ (.head _)) rfl)) ?_
  refine sr rfl rfl rfl ((q_gtr rfl rfl rfl)) (sr rfl rfl rfl ((q_and2 rfl rfl rfl)) (sr rfl rfl rfl ((q_assign rfl rfl)) (sw_nil (post_then ?_))))
  refine cw_cond rfl (fun g => ?_) (fun g => ?_)
  · skip
    have g1 : 0 < u.pitch ∧ 0 < t.pitch := by simpa using g
    refine cw_region_q mixed_Try (by kernel_rfl) ?_
    refine qr rfl rfl rfl ((q_move rfl rfl)) (qr rfl rfl rfl ((q_fieldAddr rfl rfl)) ?_)
    refine qr rfl rfl rfl ((q_loadC rfl rfl (by exact .head _) rfl)) ?_
    refine qr rfl rfl rfl ((q_fieldAddr rfl rfl)) ?_
    refine qr rfl rfl rfl ((q_loadC rfl rfl (by exact .tail _ (.tail _ (.head _))) rfl)) ?_
    refine qr rfl rfl rfl ((q_fieldAddr rfl rfl)) ?_
    refine qr rfl rfl rfl ((q_loadC rfl rfl (by exact .tail _ (.head _)) rfl)) ?_
    refine qw_step rfl rfl rfl (q_call (CanCall.mk Try.call49) rfl (.cons rfl inferInstance (.cons rfl inferInstance (.nil))) (fun _ w hw => callq hw (far_spec _ _ w (by omega)))) ?_
    refine qr rfl rfl rfl ((q_mul rfl rfl rfl (by intro hc; omega))) ?_
    refine qr rfl rfl rfl ((q_add rfl rfl rfl (by intro hc; omega))) ?_
    refine qr rfl rfl rfl ((q_assign rfl rfl)) (qw_end (post_blk (post_then (cw_seq (cw_region (sr rfl rfl rfl ((q_move rfl rfl)) (sr rfl rfl rfl ((q_assign rfl rfl)) (sw_nil (post_then (cw_ret (post_ret1 rfl (resOk_tmp rfl) ?_)))))))))))
    exact fun w' hw => ⟨by rw [fitC, if_pos g1, hn1, hn2], (fun w h => Cl.sel (by exact .nil _) w h) _ hw⟩
  · skip
    have g1 : ¬ (0 < u.pitch ∧ 0 < t.pitch) := by intro hc; simp [hc] at g
    refine cw_seq (cw_region (sr rfl rfl rfl ((q_fieldAddr rfl rfl)) ?_))
    refine sr rfl rfl rfl ((q_loadC rfl rfl (by exact .tail _ (.tail _ (.head _))) rfl)) ?_
    refine sr rfl rfl rfl ((q_gtr rfl rfl rfl)) (sr rfl rfl rfl ((q_move rfl rfl)) (sr rfl rfl rfl ((q_fieldAddr rfl rfl)) ?_))
    refine sr rfl rfl rfl ((q_loadC rfl rfl (by exact .tail _ (.head _)) rfl)) ?_
    refine sr rfl rfl rfl ((q_gtr rfl rfl rfl)) (sr rfl rfl rfl ((q_or2 rfl rfl rfl)) (sr rfl rfl rfl ((q_assign rfl rfl)) (sw_nil (post_then ?_))))
    refine cw_cond rfl (fun g2 => ?_) (fun g2 => ?_)
    · skip
      have g3 : 0 < u.pitch ∨ 0 < t.pitch := by simpa using g2
      refine cw_region (sr rfl rfl rfl ((q_move rfl rfl)) (sr rfl rfl rfl ((q_fieldAddr rfl rfl)) ?_))
      refine sr rfl rfl rfl ((q_loadC rfl rfl (by exact .head _) rfl)) ?_
      refine sr rfl rfl rfl ((q_mul rfl rfl rfl (by intro hc; omega))) ?_
      refine sr rfl rfl rfl ((q_add rfl rfl rfl (by intro hc; omega))) ?_
      refine sr rfl rfl rfl ((q_assign rfl rfl)) (sw_nil (post_blk (post_then (cw_seq (cw_region (sr rfl rfl rfl ((q_move rfl rfl)) (sr rfl rfl rfl ((q_assign rfl rfl)) (sw_nil (post_then (cw_ret (post_ret1 rfl (resOk_tmp rfl) ?_)))))))))))
      exact fun w' hw => ⟨by rw [fitC, if_neg g1, if_pos g3, hn1, hn2], (fun w h => Cl.sel (by exact .nil _) w h) _ hw⟩
    · skip
      have g3 : ¬ (0 < u.pitch ∨ 0 < t.pitch) := by intro hc; rcases hc with hc | hc <;> simp [hc] at g2
      refine cw_skip (post_blk (post_then (cw_seq (cw_region (sr rfl rfl rfl ((q_move rfl rfl)) (sr rfl rfl rfl ((q_assign rfl rfl)) (sw_nil (post_then (cw_ret (post_ret1 rfl (resOk_tmp rfl) ?_))))))))))
      exact fun w' hw => ⟨by rw [fitC, if_neg g1, if_neg g3, hn1, hn2]; simp, (fun w h => Cl.sel (by exact .nil _) w h) _ hw⟩
end Go.Proofs.Ytomjbfeafodfbaa

set_option autoImplicit false
set_option maxRecDepth 100000
namespace Go.Proofs.Ytomjbfeafodfbaa
open Go.Sx
open Enc (enc val)
theorem cl_of {w w' : World} (k : Chg [] w w') : Cl w [] [] w' := ⟨k, [], rfl, List.nodup_nil, fun b h => by simp at h⟩
def vectorsB (ls : List (List Int)) : Bool := ls.all fun v => vecB v && decide (v.length = (nth ls 0).length)
theorem two_reads {w : World} {a b : SlV} {x y : List Int} (ha : Stb w [] (RdL a.v x)) (hb : Stb w [] (RdL b.v y)) (i : Nat) (hi : i < [x, y].length) : Stb w [] (RdL (nth [a, b] i).v (nth [x, y] i)) := by
  match i, hi with
  | 0, _ => exact ha
  | 1, _ => exact hb
def unG (u : Un) : Bool := decide (0 ≤ u.take) && decide (0 ≤ u.fr) && decide (u.fr < u.to) && decide (u.to ≤ 2147483648)
theorem unB_eq (u : Un) : unB u = ((phoneB u.phone && besideB u.before && besideB u.after && inB u.pitch 0 2000 && inB u.length 1 100000) && (unG u && vectorsB [u.bl, u.el])) := by
  have : vectorsB [u.bl, u.el] = (vecB u.bl && (vecB u.el && decide (u.bl.length = u.el.length))) := by
    simp [vectorsB, nth, eq_comm]
  rw [this]
  simp [unB, unG, Bool.and_assoc]
end Go.Proofs.Ytomjbfeafodfbaa

/-
  Rows of laws for the layer of symbolic frames: what was handed in reads the same behind a call that left memory alone, whatever its shape; slices of integers laid open as lists. General lemmas, no program text.
-/
set_option autoImplicit false
set_option linter.unusedSectionVars false
namespace Go.Sx
open Go.ChangeShapes Go.WideShapes Go.ChangeAt Go.RowKit Go.WideElems
theorem trodAll_keep {H : Type} {enc : TypeId × Value → H} {P : Program} (hl : laidOutB P = true) {W W' : World} (hb : Below W.heap.size W W') (sp : Nat → Bool) :
    ∀ {ts : List TypeId} {vs : List Value} {ds : List (DataW H)} {ps : List MemPlace}, (∀ t ∈ ts, P.readableRec t = true ∧ t < P.types.size) → DataW.TrodAll enc P W 0 (fun _ => true) true ts vs ds ps →
      (∀ x ∈ ps, x.block < W.heap.size) → (∀ x ∈ ps, sp x.block = true) → DataW.TrodAll enc P W' 0 sp true ts vs ds ps
  | [], [], [], _, _, h, _, _ => h
  | t :: ts, v :: vs, d :: ds, ps, ht, ⟨p, q, ⟨n, h1⟩, h2, e⟩, hlt, hsp => by
    have ht0 := ht t (by simp)
    have hp : ∀ x ∈ p, x.block < W.heap.size := fun x hx => hlt x (by rw [e]; simp [hx])
    have hq : ∀ x ∈ q, x.block < W.heap.size := fun x hx => hlt x (by rw [e]; simp [hx])
    exact ⟨p, q, ⟨n, DataW.trod_stays (kids_book hl ht0.1) (book_sized ht0.1) (fun h => by cases h) ⟨ht0.2, book_self t⟩ h1 (fun x hx => hb.same (hp x hx)) (fun x hx => hsp x (by rw [e]; simp [hx]))⟩,
      trodAll_keep hl hb sp (fun t ht' => ht t (by simp [ht'])) h2 hq (fun x hx => hsp x (by rw [e]; simp [hx])), e⟩
theorem cell_lt {w : World} {a : Addr} {v : Value} (h : w.cell? a = some v) : a.block < w.heap.size := by
  cases hh : w.heap[a.block]? with
  | none => unfold World.cell? at h; simp [hh] at h
  | some o => exact (Array.getElem?_eq_some_iff.1 hh).1
/-- What reads as a list does so as long as old blocks stay. -/
theorem rd_stb {α : Type} [Enc α] {sv : Value} {l : List α} {w : World} (h : RdL sv l w) : Stb w [] (RdL sv l) := by
  obtain ⟨a, n, cap, h1, h2, h3, h4, h5⟩ := h
  refine ⟨fun w' k => ⟨a, n, cap, h1, h2, h3, h4, fun i x j v hx hv => ?_⟩⟩
  obtain ⟨b, hb, hc⟩ := h5 i x j v hx hv
  refine ⟨b, hb, ?_⟩
  rw [World.cell?_of_block (w := w) (k.block _ (cell_lt hc) (by simp)), hc]
theorem below_of {w w' : World} {H : List Asn} (h : Cl w [] H w') : RowKit.Below w.heap.size w w' := h.chg.below
/-- A slice of integers that came in. -/
theorem open_sl {H : Type} {enc : TypeId × Value → H} {P : Program} {W : World} {r : Reach} {b0 : Nat} {t e : TypeId} {v : Value} {d : DataW H} {ps : List MemPlace} (ht : P.underlying t = some (.slice e)) (he : P.underlying e = some (.int .i64)) (hc : P.cellsOf e = 1)
    (hval : Value.okWide P W r b0 t v) (hd : DataW.Trod enc P W 0 (fun _ => true) true t v d ps) : ∃ (s : SlV) (l : List Int), v = s.v ∧ Stb W [] (RdL s.v l) := by
  obtain ⟨a0, len, cap, rfl⟩ := okWide_slice ht hval
  obtain ⟨n, hn⟩ := hd
  rcases open_ints ht he hc hn with ⟨hcs, _⟩ | ⟨a, len', cap', zs, hcs, _, hl, hm, hz, _, hcell, _⟩
  · refine ⟨⟨a0, len, cap⟩, [], rfl, rd_stb ?_⟩
    simp [Value.cells] at hcs
    obtain ⟨rfl, rfl, rfl⟩ := hcs
    exact ⟨none, 0, 0, rfl, rfl, Nat.le_refl _, by simp [maxLen], fun i x j v hx => by simp at hx⟩
  · simp [Value.cells] at hcs
    obtain ⟨rfl, rfl, rfl⟩ := hcs
    refine ⟨⟨some a, len, cap⟩, zs.take len, rfl, rd_stb ⟨some a, len, cap, rfl, by simp; simp at hz; omega, hl, hm, fun i x j v hx hv => ⟨a, rfl, ?_⟩⟩⟩
    rw [List.getElem?_take] at hx
    split at hx
    · have hlt := (List.getElem?_eq_some_iff.1 hx).1
      have := hcell i hlt
      simp [List.getElem?_eq_getElem hlt] at hx
      have hj : j = 0 ∧ v = .int .i64 x := by
        cases j with
        | zero => simpa [Enc.enc, eq_comm] using hv
        | succ j => simp [Enc.enc] at hv
      obtain ⟨rfl, rfl⟩ := hj
      show W.cell? (a.add (i * 1 + 0)) = _
      rw [Nat.mul_one, Nat.add_zero, this]
      simp [List.getD, List.getElem?_eq_getElem hlt, hx]
    · simp at hx
end Go.Sx

set_option autoImplicit false
set_option maxRecDepth 100000
namespace Go.Proofs.Ytomjbfeafodfbaa
open Go.Sx
open Enc (enc val)
theorem blk_stb {b : Nat} {cells : List Value} {t : TypeId} {w : World} (h : BlkAt b cells t w) : Stb w [] (BlkAt b cells t) := by
  obtain ⟨bs, h1, h2⟩ := h
  exact ⟨fun w' k => ⟨bs, h1, (k.block b (Array.getElem?_eq_some_iff.1 h2).1 (by simp)).trans h2⟩⟩
theorem UnRd.of {w : World} {u : Un} (s1 : u.phone.size ≤ 140737488355328) (s2 : u.before.size ≤ 140737488355328) (s3 : u.after.size ≤ 140737488355328) (h1 : RdL u.bs.v u.bl w) (h2 : RdL u.es.v u.el w) : UnRd w u := ⟨s1, s2, s3, rd_stb h1, rd_stb h2⟩
/-- A list of units: it reads so, and so does each. -/
structure VoRd (w : World) (sp : SlV) (p : List Un) : Prop where
  l : Stb w [] (RdL sp.v p)
  u : ∀ u ∈ p, UnRd w u
theorem VoRd.arg {w0 w : World} {H : List Asn} {sp : SlV} {p : List Un} (hw : Cl w0 [] H w) (h : VoRd w0 sp p) : VoRd w sp p := ⟨stb_arg hw h.l, fun u hu => UnRd.arg hw (h.u u hu)⟩
theorem VoRd.stb {w : World} {sp : SlV} {p : List Un} (h : VoRd w sp p) : Stb w [] (fun w' => VoRd w' sp p) := ⟨fun w' k => h.arg (cl_of k)⟩
def eqB (p : List Un) : Bool := p.all fun u => decide (u.bl.length = (nth p 0).bl.length) && decide (u.el.length = (nth p 0).bl.length)
theorem equal1_spec (b : Nat) (sp : SlV) (p : List Un) : PredL Try.prog 60 #[.pointer (some ⟨b, 0, none⟩)] (fun u => !(decide (u.bl.length = (nth p 0).bl.length) && decide (u.el.length = (nth p 0).bl.length))) (fun w => BlkAt b [sp.v] 26 w ∧ VoRd w sp p) p := fun u hu w ⟨hR1, hR2⟩ => by
  have hb := blk_stb hR1
  have hl := hR2.l
  have hp : 0 < p.length := List.length_pos_iff.2 (List.ne_nil_of_mem hu)
  have h0 := (hR2.u (nth p 0) (by rw [nth_get hp]; exact List.getElem_mem hp)).b
  have h1 := (hR2.u u hu).b
  have h2 := (hR2.u u hu).e
  refine calls_cw (vs := [_, _]) Try.func60 rfl Try.ntmps60 rfl (Cl.start0 w) (cw_seq (cw_region ?_))
  refine sw_x rfl rfl rfl (e_box rfl rfl rfl) (fun b2 => ?_)
  refine sr rfl rfl rfl ((q_assign rfl rfl)) (sw_nil (post_then (cw_seq ?_)))
  refine cw_region_q mixed_Try (by kernel_rfl) ?_
  refine qr rfl rfl rfl ((q_fieldAddr rfl rfl)) ?_
  refine qr rfl rfl rfl ((q_loadC rfl rfl (by exact .head _) rfl)) ?_
  refine qr rfl rfl rfl ((q_len rfl (.cons rfl inferInstance (.nil)) (by exact fun w hw => Stb.cl (by assumption) hw))) ?_
  refine qr rfl rfl rfl ((q_loadS rfl rfl (fun w hw => Stb.cl (by assumption) hw) rfl)) ?_
  refine qr rfl rfl rfl ((q_indexN rfl rfl rfl (by exact fun w hw => Stb.cl (by assumption) hw) (by intro hc; omega))) ?_
  refine qr rfl rfl rfl ((q_fieldEl rfl rfl (by exact fun w hw => Stb.cl (by assumption) hw) (by intro hc; omega))) ?_
  refine qr rfl rfl rfl ((q_loadF rfl rfl rfl (by exact fun w hw => Stb.cl (by assumption) hw) (by intro hc; omega) rfl)) ?_
  refine qr rfl rfl rfl ((q_len rfl (.cons rfl inferInstance (.nil)) (by exact fun w hw => Stb.cl (by assumption) hw))) ?_
  refine qr rfl rfl rfl ((q_neq rfl rfl rfl)) (qr rfl rfl rfl ((q_move rfl rfl)) (qr rfl rfl rfl ((q_fieldAddr rfl rfl)) ?_))
  refine qr rfl rfl rfl ((q_loadC rfl rfl (by exact .head _) rfl)) ?_
  refine qr rfl rfl rfl ((q_len rfl (.cons rfl inferInstance (.nil)) (by exact fun w hw => Stb.cl (by assumption) hw))) ?_
  refine qr rfl rfl rfl ((q_loadS rfl rfl (fun w hw => Stb.cl (by assumption) hw) rfl)) ?_
  refine qr rfl rfl rfl ((q_indexN rfl rfl rfl (by exact fun w hw => Stb.cl (by assumption) hw) (by intro hc; omega))) ?_
  refine qr rfl rfl rfl ((q_fieldEl rfl rfl (by exact fun w hw => Stb.cl (by assumption) hw) (by intro hc; omega))) ?_
  refine qr rfl rfl rfl ((q_loadF rfl rfl rfl (by exact fun w hw => Stb.cl (by assumption) hw) (by intro hc; omega) rfl)) ?_
  refine qr rfl rfl rfl ((q_len rfl (.cons rfl inferInstance (.nil)) (by exact fun w hw => Stb.cl (by assumption) hw))) ?_
  refine qr rfl rfl rfl ((q_neq rfl rfl rfl)) (qr rfl rfl rfl ((q_or2 rfl rfl rfl)) (qr rfl rfl rfl ((q_assign rfl rfl)) (qw_end (post_then (cw_ret (post_ret1 rfl (resOk_tmp rfl) ?_))))))
  refine fun w' hw => ⟨?_, (fun w h => Cl.sel (by exact .nil _) w h) _ hw⟩
  by_cases e1 : u.bl.length = (nth p 0).bl.length <;> by_cases e2 : u.el.length = (nth p 0).bl.length <;> simp [e1, e2] <;> omega
theorem equal_spec (sp : SlV) (p : List Un) (w : World) (hp : VoRd w sp p) : Calls Try.prog 44 #[sp.v] w fun e w' => e = .returned (.bool (eqB p)) ∧ Cl w [] [] w' := by
  have hl := hp.l
  refine calls_cw (vs := [_]) Try.func44 rfl Try.ntmps44 rfl (Cl.start0 w) (cw_seq (cw_region ?_))
  refine sw_x rfl rfl rfl (e_box rfl rfl rfl) (fun b1 => ?_)
  refine sr rfl rfl rfl ((q_assign rfl rfl)) (sw_nil (post_then (cw_seq (cw_region ?_))))
  refine sr rfl rfl rfl ((q_loadC rfl rfl (by exact .head _) rfl)) ?_
  refine sr rfl rfl rfl ((q_func_l rfl (.cons rfl inferInstance (.nil)))) ?_
  refine sw_step rfl rfl rfl (q_call (CanCall.mk Try.call41) rfl (.cons rfl inferInstance (.cons rfl inferInstance (.nil))) (fun _ w hw => callq hw (containsUn_spec _ _ _ _ _ _ w (by exact stb_arg hw (by assumption)) ⟨fun w' k => ⟨(blk_stb (stb_blk hw (by exact .head _)).here).stb w' k, ((hp.arg hw).stb).stb w' k⟩⟩ (CanCall.mk Try.call60) (equal1_spec b1 sp p)))) ?_
  refine sr rfl rfl rfl ((q_not rfl rfl)) (sr rfl rfl rfl ((q_assign rfl rfl)) (sw_nil (post_then (cw_ret (post_ret1 rfl (resOk_tmp rfl) ?_)))))
  refine fun w' hw => ⟨?_, (fun w h => Cl.sel (by exact .nil _) w h) _ hw⟩
  rw [List.not_any_eq_all_not]
  simp [eqB]
theorem voice1_spec (sp : SlV) (p : List Un) : PredL Try.prog 42 #[] (fun u => !unB u) (fun w => VoRd w sp p) p := fun u hu w hR => by
  have h1 := hR.u u hu
  refine calls_cw (vs := [_]) Try.func42 rfl Try.ntmps42 rfl (Cl.start0 w) (cw_seq (cw_region ?_))
  refine sw_x rfl rfl rfl (e_box rfl rfl rfl) (fun b1 => ?_)
  refine sr rfl rfl rfl ((q_assign rfl rfl)) (sw_nil (post_then (cw_seq (cw_region ?_))))
  refine sr rfl rfl rfl ((q_loadA rfl rfl (by exact .head _) rfl)) ?_
  refine sw_step rfl rfl rfl (q_call (CanCall.mk Try.call43) rfl (.cons rfl inferInstance (.nil)) (fun _ w hw => callq hw (right_spec _ w (UnRd.arg hw h1)))) (sr rfl rfl rfl ((q_not rfl rfl)) (sr rfl rfl rfl ((q_assign rfl rfl)) (sw_nil (post_then (cw_ret (post_ret1 rfl (resOk_tmp rfl) ?_))))))
  exact fun w' hw => ⟨rfl, (fun w h => Cl.sel (by exact .nil _) w h) _ hw⟩
def voiceB (p : List Un) : Bool := p.all unB && eqB p && decide (1 ≤ p.length)
def voiceE (p : List Un) : Int := if 2000 < p.length then 4 else if voiceB p then 0 else 2
theorem voice_spec (sp : SlV) (p : List Un) (w : World) (hp : VoRd w sp p) : Calls Try.prog 21 #[sp.v] w fun e w' => e = .returned (.int .i64 (voiceE p)) ∧ Cl w [] [] w' := by
  have hl := hp.l
  have hL := rd_len hl.here
  refine calls_cw (vs := [_]) Try.func21 rfl Try.ntmps21 rfl (Cl.start0 w) (cw_seq (cw_region (sr rfl rfl rfl ((q_assign rfl rfl)) (sw_nil (post_then (cw_seq (cw_seq (cw_region (sr rfl rfl rfl ((q_move rfl rfl)) ?_)))))))))
  refine sr rfl rfl rfl ((q_len rfl (.cons rfl inferInstance (.nil)) (by exact fun w hw => Stb.cl (by assumption) hw))) ?_
  refine sr rfl rfl rfl ((q_gtr rfl rfl rfl)) (sw_nil (post_then ?_))
  refine cw_cond rfl (fun h => ?_) (fun h => ?_)
  · skip
    have h1 : 2000 < p.length := by simp only [decide_eq_true_eq] at h; omega
    refine cw_seq (cw_region (sr rfl rfl rfl ((q_assign rfl rfl)) (sw_nil (post_then (cw_ret (post_then_r (post_ret1 rfl (resOk_tmp rfl) ?_)))))))
    exact fun w' hw => ⟨by rw [voiceE, if_pos h1], hw⟩
  · skip
    have h1 : ¬ 2000 < p.length := by simp only [decide_eq_false_iff_not] at h; omega
    refine cw_skip (post_then (cw_seq (cw_seq (cw_region (sr rfl rfl rfl ((q_move rfl rfl)) ?_)))))
    refine sr rfl rfl rfl ((q_len rfl (.cons rfl inferInstance (.nil)) (by exact fun w hw => Stb.cl (by assumption) hw))) ?_
    refine sr rfl rfl rfl ((q_eql rfl rfl rfl)) (sr rfl rfl rfl ((q_move rfl rfl)) (sr rfl rfl rfl ((q_move rfl rfl)) ?_))
    refine sw_step rfl rfl rfl (q_call (CanCall.mk Try.call41) rfl (.cons rfl inferInstance (.cons rfl inferInstance (.nil))) (fun _ w hw => callq hw (containsUn_spec _ _ _ _ _ _ w (by exact stb_arg hw (by assumption)) ((hp.arg hw).stb) (CanCall.mk Try.call42) (voice1_spec sp p)))) ?_
    refine sr rfl rfl rfl ((q_or2 rfl rfl rfl)) (sr rfl rfl rfl ((q_move rfl rfl)) (sr rfl rfl rfl ((q_move rfl rfl)) (sw_step rfl rfl rfl (q_call (CanCall.mk Try.call44) rfl (.cons rfl inferInstance (.nil)) (fun _ w hw => callq hw (equal_spec sp p w (hp.arg hw)))) (sr rfl rfl rfl ((q_not rfl rfl)) (sr rfl rfl rfl ((q_or2 rfl rfl rfl)) (sw_nil (post_then ?_)))))))
    have ha : (p.any fun u => !unB u) = !p.all unB := by rw [List.not_all_eq_any_not]
    refine cw_cond rfl (fun h2 => ?_) (fun h2 => ?_)
    · skip
      have h3 : voiceB p = false := by
        rw [ha] at h2
        simp only [Bool.or_eq_true, decide_eq_true_eq] at h2
        rcases h2 with (h2 | h2) | h2
        · have : p.length = 0 := by omega
          simp [voiceB, this]
        · simp only [Bool.not_eq_true'] at h2; simp [voiceB, h2]
        · simp only [Bool.not_eq_true'] at h2; simp [voiceB, h2]
      refine cw_seq (cw_region (sr rfl rfl rfl ((q_assign rfl rfl)) (sw_nil (post_then (cw_ret (post_then_r (post_ret1 rfl (resOk_tmp rfl) ?_)))))))
      exact fun w' hw => ⟨by rw [voiceE, if_neg h1, h3]; rfl, hw⟩
    · skip
      have h3 : voiceB p = true := by
        rw [ha] at h2
        simp only [Bool.or_eq_false_iff, decide_eq_false_iff_not, Bool.not_eq_false'] at h2
        simp [voiceB, h2]; omega
      refine cw_skip (post_then (cw_seq (cw_region (sr rfl rfl rfl ((q_assign rfl rfl)) (sw_nil (post_then (cw_ret (post_ret1 rfl (resOk_tmp rfl) ?_))))))))
      exact fun w' hw => ⟨by rw [voiceE, if_neg h1, h3]; rfl, hw⟩
end Go.Proofs.Ytomjbfeafodfbaa

/- Two effects that may come in either order; a cut of a slice by its length alone. -/
set_option autoImplicit false
namespace Go.Sx
open Go
variable {P : Program} {ops : Array Oper} {C : World → Prop} {n : Fr} {E : Env} {Q : Exit → Act → World → Prop} {cs : List Bool} {o : Oper}
/-- Operation i is the one that comes now. -/
def AWat (P : Program) (ops : Array Oper) (Q : Exit → Act → World → Prop) (S : World → Prop) (m : List Nat) (f : Nat) (listed : Array Bool) (i : Nat) (n : Fr) (E : Env) (C : World → Prop) : Prop :=
  ∀ a w, Sat n E a → C w → wpOp P ops Q i (fun a' w' => (m.contains i = false → S w → S w') ∧ AnyS P ops Q S m f (listed.setIfInBounds i true) a' w') a w
theorem aw_two {S : World → Prop} {m : List Nat} {f : Nat} {listed : Array Bool} (i j : Nat) (hr : Region.ready .any ops listed = [i, j]) (h1 : AWat P ops Q S m f listed i n E C) (h2 : AWat P ops Q S m f listed j n E C) : AW P ops Q S m (f + 1) listed n E C := by
  intro a w ha hw
  refine ⟨fun h0 => (by rw [hr] at h0; cases h0), fun k hk => ?_⟩
  rw [hr] at hk
  simp only [List.mem_cons, List.not_mem_nil, or_false] at hk
  rcases hk with rfl | rfl
  · exact h1 a w ha hw
  · exact h2 a w ha hw
theorem at_one {S : World → Prop} {m : List Nat} {f : Nat} {listed : Array Bool} (i : Nat) {o : Oper} {d : Nat} {R : Value → World → Prop} (hi : ops[i]? = some o) (hg : o.guard = none) (hd : o.dst = some d) (hn : Nat.ble (d + 1) n.sz = true)
    (hop : OpE P n E C o R) (hS : m.contains i = false → ∀ v w, R v w → S w) (h : ∀ v, AW P ops Q S m f (listed.setIfInBounds i true) n ((d, [], v) :: E) (R v)) : AWat P ops Q S m f listed i n E C := by
  intro a w ha hw
  unfold wpOp
  simp only [hi]
  rw [if_pos (by simp [Region.wanted, hg])]
  refine .inl ((hop a w ha hw).wp fun v w' hR => ⟨fun him _ => hS him v w' hR, ?_⟩)
  have := h v _ w' (ha.put (cs := []) (v := v) (Nat.le_of_ble_eq_true hn)) hR
  rw [hd]; exact this
theorem at_x {S : World → Prop} {m : List Nat} {f : Nat} {listed : Array Bool} {α : Type} {vf : α → Value} {C' : α → World → Prop} (i : Nat) {o : Oper} {d : Nat} (hi : ops[i]? = some o) (hg : o.guard = none) (hd : o.dst = some d) (hn : Nat.ble (d + 1) n.sz = true)
    (hop : OpE P n E C o (fun v w' => ∃ x, v = vf x ∧ C' x w')) (hS : m.contains i = false → ∀ x w, C' x w → S w) (h : ∀ x, AW P ops Q S m f (listed.setIfInBounds i true) n ((d, [], vf x) :: E) (C' x)) : AWat P ops Q S m f listed i n E C :=
  at_one i hi hg hd hn hop (fun hb v w ⟨x, _, hx⟩ => hS hb x w hx) fun _ => aw_ex fun x => aw_imp fun hv => by subst hv; exact h x
theorem q_slicePH {t e : TypeId} {sz : Nat} {x z : Operand} {cx cz : List Bool} {s : SlV} {m : Nat} {b : Int} (ho : o.op = .slice t x none (some z) none) (hx : evl E x = some (cx, s.v)) (hz : evl E z = some (cz, .int .i64 b))
    [sx : Sub cx cs] [sz' : Sub cz cs] [ht : SlT P t e] [hs : SzT P e sz] (hl : s.len = m ∧ s.len ≤ s.cap ∧ s.cap ≤ maxLen) (h : AllT cs → 0 ≤ b ∧ b ≤ m) : OpR P n E C cs o (s.sub sz 0 b.toNat).v :=
  .of_run fun e he hc w hw => by
    obtain ⟨h1, h3⟩ := h hc
    obtain ⟨l1, l2, l3⟩ := hl
    unfold execOp; simp only [ho]
    have e1 := he.eval hx sx hc
    have e3 := he.eval hz sz' hc
    have := run_slice_of (P := P) (t := t) (s := s) (w := w) (a := 0) (b := b.toNat) (lo := none) (hi := some (.int .i64 b)) (by
      have f1 := run_sliceBound (P := P) (w := w) .i64 b s.cap .sliceAcap (by omega) (by omega)
      simp [Instr.sliceBounds, f1, Result.andThen])
    simp [e1, e3, this, Result.andThen]
theorem q_slicePL {t e : TypeId} {sz : Nat} {x y : Operand} {cx cy : List Bool} {s : SlV} {m : Nat} {a : Int} (ho : o.op = .slice t x (some y) none none) (hx : evl E x = some (cx, s.v)) (hy : evl E y = some (cy, .int .i64 a))
    [sx : Sub cx cs] [sy : Sub cy cs] [ht : SlT P t e] [hs : SzT P e sz] (hl : s.len = m ∧ s.len ≤ s.cap ∧ s.cap ≤ maxLen) (h : AllT cs → 0 ≤ a ∧ a ≤ m) : OpR P n E C cs o (s.sub sz a.toNat m).v :=
  .of_run fun e he hc w hw => by
    obtain ⟨h1, h3⟩ := h hc
    obtain ⟨l1, l2, l3⟩ := hl
    unfold execOp; simp only [ho]
    have e1 := he.eval hx sx hc
    have e2 := he.eval hy sy hc
    have := run_slice_of (P := P) (t := t) (s := s) (w := w) (a := a.toNat) (b := m) (lo := some (.int .i64 a)) (hi := none) (by
      have f2 := run_sliceBound (P := P) (w := w) .i64 a m .sliceB (by omega) (by omega)
      simp [Instr.sliceBounds, l1, f2, Result.andThen])
    simp [e1, e2, this, Result.andThen]
end Go.Sx

/- Interfaces: values put in, asserted, methods called. General lemmas, no program text. -/
set_option autoImplicit false
namespace Go.Sx
open Enc (enc val)
section
variable {P : Program} {n : Fr} {E : Env} {C : World → Prop} {cs : List Bool} {o : Oper}
theorem q_iface {t : TypeId} {d : TypeDesc} {x : Operand} {cx : List Bool} {v : Value} (ho : o.op = .makeInterface t x) (hx : evl E x = some (cx, v)) [hs : Sub cx cs] (hd : P.underlying t = some d) (hi : (match d with | .interface _ => false | _ => true) = true) : OpR P n E C cs o (.iface t v) :=
  .of_run fun a ha hc w _ => by
    unfold execOp; simp only [ho]; rw [ha.eval hx hs hc]
    simp only [Instr.makeInterface, Sem.run_bind, run_underlying hd, Result.andThen_ok, Sem.run_pure]
    cases d <;> first | rfl | cases hi
theorem q_assert {t xt : TypeId} {d : TypeDesc} {x : Operand} {cx : List Bool} {v : Value} (ho : o.op = .typeAssert x xt t false) (hx : evl E x = some (cx, .iface t v)) [hs : Sub cx cs] (hd : P.underlying t = some d) (hi : (match d with | .interface _ => false | _ => true) = true) : OpR P n E C cs o v :=
  .of_run fun a ha hc w _ => by
    unfold execOp; simp only [ho]; rw [ha.eval hx hs hc]
    simp only [Instr.typeAssert, Sem.run_bind, run_underlying hd, Result.andThen_ok]
    cases d <;> first | (simp [Result.andThen]; done) | cases hi
theorem q_neqPNil {t t' : TypeId} {x : Operand} {cx : List Bool} {p : Option Addr} (ho : o.op = .binOp .neq t x (.const (.pointer none)) t') (hx : evl E x = some (cx, .pointer p)) [sx : Sub cx cs] (ht : P.underlying t = some (.pointer (P.pointee t))) : OpR P n E C cs o (.bool p.isSome) :=
  fun a ha hc => bin_run (C := C) (y := .const (.pointer none)) ho hx rfl sx inferInstance (eqGuard_at_pointer ..) (fun w => by rw [run_neq_pointer_nil w t p ht]; cases p <;> rfl) a ha hc
theorem q_eqlPNil {t t' : TypeId} {x : Operand} {cx : List Bool} {p : Option Addr} (ho : o.op = .binOp .eql t x (.const (.pointer none)) t') (hx : evl E x = some (cx, .pointer p)) [sx : Sub cx cs] (ht : P.underlying t = some (.pointer (P.pointee t))) : OpR P n E C cs o (.bool p.isNone) :=
  fun a ha hc => bin_run (C := C) (y := .const (.pointer none)) ho hx rfl sx inferInstance (eqGuard_at_pointer ..) (fun w => by rw [run_eql_pointer_nil w t p ht]) a ha hc
/-- What a method call on a dynamic value of type t enters, and with which receiver. -/
def Meth (P : Program) (t : TypeId) (x : Value) (nm : String) (f : FuncId) (r : Value) (w : World) : Prop := (method (P.types.size + Made.depth) t x nm).run P w = .ok (f, r) w
theorem meth_ptr {t e : TypeId} {ti : TypeInfo} {nm : String} {f : FuncId} (hti : ∀ w, (typeInfo t).run P w = .ok ti w) (h : (ti.methods.find? (·.name == nm)).map (fun m => (m.path, m.func)) = some (#[], some (f, true))) (ht : P.underlying t = some (.pointer e)) (hk : Nat.ble 1 (P.types.size + Made.depth) = true)
    (a : Option Addr) (w : World) : Meth P t (.pointer a) nm f (.pointer a) w := by
  obtain ⟨m, hm, hm2⟩ := Option.map_eq_some_iff.1 h
  simp only [Prod.mk.injEq] at hm2
  have h1 := Nat.le_of_ble_eq_true hk
  unfold Meth
  rw [show P.types.size + Made.depth = (P.types.size + Made.depth - 1) + 1 by omega]
  unfold method
  simp [hti, hm, hm2.1, hm2.2, follow, receiverAt, Place.get, run_underlying ht, Result.andThen]
theorem meth_val {t e : TypeId} {ti : TypeInfo} {nm : String} {f : FuncId} (hti : ∀ w, (typeInfo t).run P w = .ok ti w) (h : (ti.methods.find? (·.name == nm)).map (fun m => (m.path, m.func)) = some (#[], some (f, false))) (ht : P.underlying t = some (.pointer e)) (hk : Nat.ble 1 (P.types.size + Made.depth) = true) [hc : CellT P e]
    {b : Nat} {sv : Value} {t' : TypeId} {w : World} (hb : BlkAt b [sv] t' w) : Meth P t (.pointer (some ⟨b, 0, none⟩)) nm f sv w := by
  obtain ⟨m, hm, hm2⟩ := Option.map_eq_some_iff.1 h
  simp only [Prod.mk.injEq] at hm2
  obtain ⟨bs, hbs⟩ := hb
  have hcell := blk.cell hbs 0
  have h1 := Nat.le_of_ble_eq_true hk
  unfold Meth
  rw [show P.types.size + Made.depth = (P.types.size + Made.depth - 1) + 1 by omega]
  unfold method
  have hwr : ∀ (u : String), Builtin.ssaWrapNilChk_ #[t] t #[.pointer (some ⟨b, 0, none⟩), strVal "", strVal u] = pure (.pointer (some ⟨b, 0, none⟩)) := fun _ => rfl
  simp [hti, hm, hm2.1, hm2.2, follow, receiverAt, Place.get, run_underlying ht, Result.andThen, hwr, asAddr, loadVar, hc.agg w, run_load, hcell]
/-- A method call that returns one value whatever the world of the class. -/
theorem q_inv {f : FuncId} {t : TypeId} {x r : Value} {nm : String} {y : Operand} {cy : List Bool} {l : List Operand} {ts : Array TypeId} {vs : List Value} {v : Value} (hf : CanCall P f) (ho : o.op = .call { callee := .invoke y nm, args := l.toArray, argTypes := ts })
    (hy : evl E y = some (cy, .iface t x)) [hs : Sub cy cs] (hv : Evs E cs l vs) (hm : ∀ w, C w → Meth P t x nm f r w) (h : AllT cs → ∀ w, C w → Calls P f (r :: vs).toArray w fun e w' => e = .returned v ∧ C w') : OpQ P n E C cs o v := by
  intro a ha hc w hw
  unfold Oper.quietAt execOp
  have hm' := hm w hw
  unfold Meth at hm'
  have e2 : (#[r] ++ vs.toArray : Array Value) = (r :: vs).toArray := by simp
  simp only [ho]
  simp only [resolve, ha.eval hy hs hc, invoke, List.map_toArray, hv.eval ha hc, Sem.run_bind, Sem.run_pure, Result.andThen_ok]
  simp [callMethod, Array.extract_append, hm', hf.run, Result.andThen]
  exact ⟨rfl, h hc w hw⟩
end
section
variable {P : Program} {n : Fr} {E : Env} {cs : List Bool} {o : Oper} {w0 : World} {fp : List Nat} {H : List Asn}
/-- One that works on blocks of ours. -/
theorem e_invH {α : Type} {vf : α → Value} {p : α → Prop} {A F : List Asn} {B : α → List Asn} {f : FuncId} {t : TypeId} {x r : Value} {nm : String} {y : Operand} {cy : List Bool} {l : List Operand} {ts : Array TypeId} {vs : List Value}
    (hf : CanCall P f) (ho : o.op = .call { callee := .invoke y nm, args := l.toArray, argTypes := ts }) (hy : evl E y = some (cy, .iface t x)) [hs : Sub cy []] (hv : Evs E [] l vs) (hm : ∀ w, Cl w0 fp H w → Meth P t x nm f r w) (hp : H.Perm (A ++ F))
    (h : ∀ w bs, Sep A w bs → bs.Nodup → (∀ b ∈ bs, b < w.heap.size) → (∀ R, Stb w0 fp R → Stb w bs R) → (∀ G ∈ F, ∃ b2, Stb w bs fun w' => G.holds w' b2) → Calls P f (r :: vs).toArray w fun e w' => ∃ x, e = .returned (vf x) ∧ p x ∧ Cl w bs (B x) w') :
    OpE P n E (Cl w0 fp H) o (fun v w' => ∃ x, v = vf x ∧ p x ∧ Cl w0 fp (B x ++ F) w') := by
  intro a w ha hw
  have hm' := hm w hw
  unfold Meth at hm'
  refine OpE.of_call (C := fun w' => w' = w) (f := f) (args := (r :: vs).toArray) (fun a w' ha hw' => ?_) (fun w' hw' => ?_) a w ha rfl
  · subst hw'
    unfold execOp; simp only [ho]
    simp only [resolve, ha.eval hy hs AllT.nil, invoke, List.map_toArray, hv.eval ha AllT.nil, Sem.run_bind, Sem.run_pure, Result.andThen_ok]
    simp [callMethod, hm', hf.run, Result.andThen]
  · subst hw'
    obtain ⟨bs, h1, h2, h3, h4, h5, h6⟩ := (hw.perm hp).split
    exact (h w' bs h1 h2 h3 h4 h5).mono fun e w' ⟨x, he, hpx, hc⟩ => ⟨_, he, x, rfl, hpx, h6 _ _ hc⟩
end
end Go.Sx

/-
  A slice that grows while a part of it is read through another name. General lemmas, no program text.
-/
set_option autoImplicit false
namespace Go.Sx
open Enc (enc val)
theorem append_alias {P : Program} {α : Type} [Enc α] {w : World} {t e ty : TypeId} {sz bytes : Nat} {z : List Value} {s : SlV} {sw : Value} {l r : List α} {bs : List Nat} [ht : SlT P t e] [hi : InfoT P e sz bytes z] (hsz : sz = Enc.sz α)
    (hown : (ownL e s.v l).holds w bs) (hrd : RdL sw r w) (hb : (l.length + r.length) * bytes ≤ 140737488355328) (hb1 : 1 ≤ bytes) :
    ∃ (v : SlV) (w' : World), (Builtin.append_ #[t, t] ty #[s.v, sw]).run P w = .ok v.v w' ∧ ((Cl w bs [ownL e v.v (l ++ r)] w' ∧ v.addr = s.addr ∧ v.cap = s.cap) ∨ Cl w [] [ownL e v.v (l ++ r)] w') := by
  obtain ⟨sa, sn, sc⟩ := s
  simp only [SlV.v] at hown ⊢
  obtain ⟨i, z0, h1, h2, h3, h4, h5, h6⟩ := hi.info
  obtain ⟨ad, m, c, rfl, hm, hmc, hcm, hcell⟩ := hrd
  subst hsz hm
  have hp := Enc.pos (α := α)
  have hnews : ∀ (a : Addr), ad = some a → ∀ j u, (r.flatMap enc)[j]? = some u → w.cell? (a.add j) = some u := by
    intro a ha j u hu
    obtain ⟨x, hx, hu'⟩ := flat_inv r j u hu
    obtain ⟨b, hb', hc⟩ := hcell _ x _ u hx hu'
    rw [ha] at hb'; cases hb'
    rw [Nat.mul_comm, Nat.div_add_mod] at hc
    exact hc
  have hsmall : l.length + r.length ≤ 140737488355328 := Nat.le_trans (Nat.le_mul_of_pos_right _ hb1) hb
  have hzc : z0.cells.size = Enc.sz α := by rw [h5]; simpa using h6
  have grown : ∀ (old : Nat), Cl w [] [ownL e (.slice (some ⟨w.heap.size, 0, none⟩) (l.length + r.length) (grownCap w (l.length + r.length) old e)) (l ++ r)]
      (w.drew.alloc (.cells ((l.flatMap enc).toArray ++ (r.flatMap enc).toArray ++ Builtin.zeroCells z0.cells (grownCap w (l.length + r.length) old e - (l.length + r.length))) e)) := by
    intro old
    have hge := grownCap_ge w (l.length + r.length) old e
    have hle := grownCap_le_maxLen w (l.length + r.length) old e (by simp only [maxLen]; omega)
    have := cl_own_new (e := e) (l := l ++ r) (cap := grownCap w (l.length + r.length) old e)
      (cur := (l.flatMap enc).toArray ++ (r.flatMap enc).toArray ++ Builtin.zeroCells z0.cells (grownCap w (l.length + r.length) old e - (l.length + r.length))) w.drew (by simpa using hge) hle
      (by simp only [Array.size_append, List.size_toArray, flat_len, size_zeroCells, hzc, ← Nat.add_mul]; congr 1; omega)
      (by
        simp only [Array.toList_append, List.flatMap_append]
        rw [List.toList_toArray, List.toList_toArray, List.take_left' (by rw [List.length_append, flat_len, flat_len, List.length_append, Nat.add_mul])])
    rw [List.length_append] at this
    exact this.drew_start
  by_cases hr0 : r = []
  · -- nothing is appended
    subst hr0
    rcases hown with ⟨hsv, hl, rfl⟩ | ⟨b, n', sc, cur, hsv, rfl, g3, g4, g5, g6, g7, g8⟩ <;> cases hsv
    · have hl0 : l = [] := by
        have := flat_len l
        rw [hl] at this
        rcases Nat.mul_eq_zero.1 this.symm with h | h
        · exact List.eq_nil_of_length_eq_zero h
        · omega
      subst hl0
      refine ⟨⟨none, 0, 0⟩, w, ?_, .inl ⟨⟨Chg.refl _ _, [], ⟨[], [], rfl, .inl ⟨rfl, rfl, rfl⟩, rfl⟩, by simp, by simp⟩, rfl, rfl⟩⟩
      simp [SlV.v, Builtin.append_, run_underlying ht.und, sizeOf, typeInfo, h1, Builtin.lenOf, Builtin.firstCells, loadCells, loadCellsFrom]
      cases ad <;> simp [Builtin.firstCells, loadCells, loadCellsFrom]
    · have hn' : sn = l.length := by
        rw [flat_len] at g7; exact (Nat.eq_of_mul_eq_mul_right hp g7).symm
      subst hn'
      refine ⟨⟨some ⟨b, 0, none⟩, l.length, sc⟩, w, ?_, .inl ⟨⟨Chg.refl _ _, [b], ⟨[b], [], rfl, .inr ⟨b, l.length, sc, cur, rfl, rfl, g3, g4, g5, g6, by simpa using g7, by simpa using g8⟩, rfl⟩, by simp, fun k hk => ?_⟩, rfl, rfl⟩⟩
      · simp [SlV.v, Builtin.append_, run_underlying ht.und, sizeOf, typeInfo, h1, Builtin.lenOf, Builtin.firstCells, loadCells, loadCellsFrom, g4]
        cases ad <;> simp [Builtin.firstCells, loadCells, loadCellsFrom, storeCells]
      · simp at hk; subst hk
        exact ⟨.inl (by simp), (Array.getElem?_eq_some_iff.1 g3).1⟩
  · have hpos : 0 < r.length := List.length_pos_iff.2 hr0
    have hex : ∃ a, ad = some a := by
      have hj : 0 < (enc r[0]).length := by rw [Enc.len]; exact hp
      obtain ⟨b, hb', _⟩ := hcell 0 r[0] 0 _ (List.getElem?_eq_getElem hpos) (List.getElem?_eq_getElem hj)
      exact ⟨b, hb'⟩
    obtain ⟨a, rfl⟩ := hex
    have hn := hnews a rfl
    rcases hown with ⟨hsv, hl, rfl⟩ | ⟨b, n', sc, cur, hsv, rfl, g3, g4, g5, g6, g7, g8⟩ <;> cases hsv
    · have hl0 : l = [] := by
        have := flat_len l
        rw [hl] at this
        rcases Nat.mul_eq_zero.1 this.symm with h | h
        · exact List.eq_nil_of_length_eq_zero h
        · omega
      subst hl0
      have hr := run_append_nil (P := P) w t ty e i z0 ht.und h1 h4 a r.length c (r.flatMap enc) (by rw [flat_len, h2]) hn hpos (by simp at hsmall; omega) (by rw [h3]; simp at hb; omega)
      have hg := grown 0
      simp only [List.length_nil, Nat.zero_add, List.flatMap_nil, List.nil_append] at hg
      refine ⟨⟨some ⟨w.heap.size, 0, none⟩, r.length, grownCap w r.length 0 e⟩, _, hr, .inr ?_⟩
      simp only [List.nil_append]
      rw [Array.empty_append] at hg
      exact hg
    · have hn' : sn = l.length := by
        rw [flat_len] at g7; exact (Nat.eq_of_mul_eq_mul_right hp g7).symm
      subst hn'
      by_cases hroom : l.length + r.length ≤ sc
      · have hfit : l.length * i.size + (r.flatMap enc).length ≤ cur.size := by
          rw [flat_len, h2, g6, ← Nat.add_mul]; exact Nat.mul_le_mul_right _ hroom
        have hr := run_append_room (P := P) w t ty e i ht.und h1 b l.length sc cur g3 a r.length c (r.flatMap enc) (by rw [flat_len, h2]) hn (flat_one r) hroom hfit
        refine ⟨⟨_, _, _⟩, _, hr, .inl ⟨cl_setRow g3 fun w' h' => .inr ⟨b, _, sc, _, rfl, rfl, h', hroom, g5, ?_, ?_, ?_⟩, rfl, rfl⟩⟩
        · simp only [List.size_toArray, List.length_append, List.length_take, List.length_drop, Array.length_toList]; omega
        · rw [flat_len, List.length_append]
        · rw [h2, g8, List.flatMap_append, Nat.add_mul]
          rw [List.take_left']
          rw [List.length_append, flat_len, flat_len]
      · have holds : ∀ j u, (l.flatMap enc)[j]? = some u → w.cell? ((⟨b, 0, none⟩ : Addr).add j) = some u := by
          intro j u hu
          rw [addr_add, Nat.zero_add, cell_at g3]
          rw [← g8, List.getElem?_take] at hu
          split at hu
          · simpa using hu
          · simp at hu
        have hr := run_append_grow (P := P) w t ty e i z0 ht.und h1 h4 ⟨b, 0, none⟩ l.length sc (l.flatMap enc) (by rw [flat_len, h2]) holds a r.length c (r.flatMap enc) (by rw [flat_len, h2]) hn (by omega) (by omega) (growslice_fits (by omega) (by rw [h3]; exact hb))
        exact ⟨⟨_, _, _⟩, _, hr, .inr (grown sc)⟩
section
variable {α : Type} [Enc α] {e : TypeId}
/-- The call's own slice s that reads as l, and what it was: s0, which reads as l0. -/
def keepA (e : TypeId) (s : SlV) (l : List α) (s0 : SlV) (l0 : List α) : Asn :=
  ⟨fun w bs => (s.addr = s0.addr ∧ s.cap = s0.cap ∧ l0 <+: l ∧ s0.len = l0.length ∧ (ownL e s.v l).holds w bs) ∨ ∃ b1 b2, bs = b1 ++ b2 ∧ (ownL e s.v l).holds w b1 ∧ (ownL e s0.v l0).holds w b2,
   fun w w' bs h hk => by
    rcases h with ⟨h1, h2, h3, h4, h5⟩ | ⟨b1, b2, rfl, h1, h2⟩
    · exact .inl ⟨h1, h2, h3, h4, (ownL e s.v l).loc _ _ _ h5 hk⟩
    · exact .inr ⟨b1, b2, rfl, (ownL e s.v l).loc _ _ _ h1 fun b hb => hk b (by simp [hb]), (ownL e s0.v l0).loc _ _ _ h2 fun b hb => hk b (by simp [hb])⟩⟩
variable {s : SlV} {l : List α} {s0 : SlV} {l0 : List α} {w0 w : World} {fp : List Nat} {H F : List Asn}
theorem keep_cases (h : Cl w0 fp ([keepA e s l s0 l0] ++ F) w) : (s.addr = s0.addr ∧ s.cap = s0.cap ∧ l0 <+: l ∧ s0.len = l0.length ∧ Cl w0 fp ([ownL e s.v l] ++ F) w) ∨ Cl w0 fp ([ownL e s.v l] ++ ([ownL e s0.v l0] ++ F)) w := by
  obtain ⟨hc, bs, ⟨b1, b2, rfl, h1, h2⟩, hn, hb⟩ := h
  rcases h1 with ⟨g1, g2, g3, g4, g5⟩ | ⟨c1, c2, rfl, g1, g2⟩
  · exact .inl ⟨g1, g2, g3, g4, hc, _, ⟨b1, b2, rfl, g5, h2⟩, hn, hb⟩
  · exact .inr ⟨hc, _, ⟨c1, c2 ++ b2, by simp, g1, c2, b2, rfl, g2, h2⟩, hn, hb⟩
theorem keep_same (h1 : s.addr = s0.addr) (h2 : s.cap = s0.cap) (h3 : l0 <+: l) (h4 : s0.len = l0.length) (h : Cl w0 fp ([ownL e s.v l] ++ F) w) : Cl w0 fp ([keepA e s l s0 l0] ++ F) w := by
  obtain ⟨hc, bs, ⟨b1, b2, rfl, g1, g2⟩, hn, hb⟩ := h
  exact ⟨hc, _, ⟨b1, b2, rfl, .inl ⟨h1, h2, h3, h4, g1⟩, g2⟩, hn, hb⟩
theorem keep_other (h : Cl w0 fp ([ownL e s.v l] ++ ([ownL e s0.v l0] ++ F)) w) : Cl w0 fp ([keepA e s l s0 l0] ++ F) w := by
  obtain ⟨hc, bs, ⟨b1, b2, rfl, g1, c1, c2, rfl, g2, g3⟩, hn, hb⟩ := h
  exact ⟨hc, _, ⟨b1 ++ c1, c2, by simp, .inr ⟨b1, c1, rfl, g1, g2⟩, g3⟩, hn, hb⟩
theorem keep_start (hl : s.len = l.length) (h : Cl w0 fp (ownL e s.v l :: H) w) : Cl w0 fp (keepA e s l s l :: H) w := keep_same rfl rfl (List.prefix_refl _) hl h
theorem keep_end (h : Cl w0 fp (keepA e s l s0 l0 :: H) w) : Cl w0 fp (ownL e s.v l :: H) w := by
  rcases keep_cases h with ⟨_, _, _, _, h⟩ | h
  · exact h
  · exact (Cl.perm (.swap _ _ _) h).tail
theorem keep_rd0 (h : Cl w0 fp H w) (hm : keepA e s l s0 l0 ∈ H) : RdL s0.v l0 w := by
  obtain ⟨bs, h⟩ := h.get hm
  rcases h with ⟨h1, h2, h3, h4, h5⟩ | ⟨b1, b2, rfl, h1, h2⟩
  · obtain ⟨ad, n, cap, e1, g1, g2, g3, g4⟩ := ownL.rd h5
    simp only [SlV.v, Value.slice.injEq] at e1
    obtain ⟨e1, e2, e3⟩ := e1
    have hlen := h3.length_le
    refine ⟨s0.addr, s0.len, s0.cap, rfl, h4.symm, by omega, by omega, fun i x j v hx hv => ?_⟩
    rw [← h1, e1]
    refine g4 i x j v ?_ hv
    obtain ⟨r, rfl⟩ := h3
    rw [List.getElem?_append_left (List.getElem?_eq_some_iff.1 hx).1, hx]
  · exact ownL.rd h2
theorem keep_rd (h : Cl w0 fp H w) (hm : keepA e s l s0 l0 ∈ H) : RdL s.v l w := by
  obtain ⟨bs, h⟩ := h.get hm
  rcases h with ⟨h1, h2, h3, h4, h5⟩ | ⟨b1, b2, rfl, h1, h2⟩
  · exact ownL.rd h5
  · exact ownL.rd h1
theorem own_prefix {bs : List Nat} (h1 : s.addr = s0.addr) (h2 : s.cap = s0.cap) (h3 : l0 <+: l) (h4 : s0.len = l0.length) (h : (ownL e s.v l).holds w bs) : (ownL e s0.v l0).holds w bs := by
  obtain ⟨sa, sn, sc⟩ := s
  obtain ⟨ta, tn, tc⟩ := s0
  obtain ⟨r, rfl⟩ := h3
  simp only at h1 h2 h4
  subst h1 h2 h4
  simp only [SlV.v] at h ⊢
  have hp := Enc.pos (α := α)
  rcases h with ⟨hsv, hl, rfl⟩ | ⟨b, n', cap, cur, hsv, rfl, g3, g4, g5, g6, g7, g8⟩ <;> cases hsv
  · have h0 : l0 = [] := by
      rw [List.flatMap_append, List.append_eq_nil_iff] at hl
      have := flat_len l0
      rw [hl.1] at this
      rcases Nat.mul_eq_zero.1 this.symm with h | h
      · exact List.eq_nil_of_length_eq_zero h
      · omega
    subst h0
    exact .inl ⟨rfl, rfl, rfl⟩
  · have hn : sn = l0.length + r.length := by
      rw [flat_len, List.length_append] at g7; exact (Nat.eq_of_mul_eq_mul_right hp g7).symm
    subst hn
    refine .inr ⟨b, _, sc, cur, rfl, rfl, g3, by omega, g5, g6, by rw [flat_len], ?_⟩
    have : (cur.toList.take ((l0.length + r.length) * Enc.sz α)).take (l0.length * Enc.sz α) = ((l0 ++ r).flatMap enc).take (l0.length * Enc.sz α) := by rw [g8]
    rw [List.take_take, Nat.min_eq_left (Nat.mul_le_mul_right _ (by omega)), List.flatMap_append, List.take_left' (by rw [flat_len])] at this
    exact this
/-- The full slice: s[:n:n], n its length. -/
def SlV.cut (s : SlV) (n : Nat) : SlV := ⟨s.addr, n, n⟩
theorem rd_cut (h : RdL s0.v l0 w) : RdL (s0.cut l0.length).v l0 w := by
  obtain ⟨ad, n, cap, e, g1, g2, g3, g4⟩ := h
  simp only [SlV.v, Value.slice.injEq] at e
  obtain ⟨rfl, rfl, rfl⟩ := e
  exact ⟨s0.addr, l0.length, l0.length, rfl, rfl, Nat.le_refl _, by omega, g4⟩
end
section
variable {α : Type} [Enc α] {P : Program} {ops : Array Oper} {n : Fr} {E : Env} {C : World → Prop} {cs : List Bool} {o : Oper} {w0 : World} {fp : List Nat} {H : List Asn}
theorem e_appendK {t e : TypeId} {sz bytes : Nat} {z : List Value} {ops' : List Operand} {s s0 : SlV} {sw : Value} {l l0 r : List α} {i : Nat} (ho : o.op = .call { callee := .builtin .append, args := ops'.toArray, argTypes := #[t, t] }) (hv : Evs E [] ops' [s.v, sw])
    [ht : SlT P t e] [hi : InfoT P e sz bytes z] (hsz : sz = Enc.sz α) (hi' : nthA H i = some (keepA e s l s0 l0)) (hrd : ∀ w, Cl w0 fp H w → RdL sw r w) (hb : (l.length + r.length) * bytes ≤ 140737488355328) (hb1 : Nat.ble 1 bytes = true) :
    OpE P n E (Cl w0 fp H) o (fun u w' => ∃ s' : SlV, u = s'.v ∧ Cl w0 fp (setA H i (keepA e s' (l ++ r) s0 l0)) w') :=
  .of_run fun a w ha hw => by
    have key : ∃ (v : SlV) (w' : World), (Builtin.append_ #[t, t] o.type #[s.v, sw]).run P w = .ok v.v w' ∧ Cl w0 fp ([keepA e v (l ++ r) s0 l0] ++ delA H i) w' := by
      rcases keep_cases (hw.focus hi') with ⟨g1, g2, g3, g4, g5⟩ | g
      · obtain ⟨bs, ⟨b1, b2, rfl, hown, rfl⟩, k2, k3, _, _, h6⟩ := g5.split
        simp only [List.append_nil] at h6 k2 k3
        obtain ⟨v, w', hr, hc⟩ := append_alias (P := P) (ty := o.type) (t := t) hsz hown (hrd w hw) hb (Nat.le_of_ble_eq_true hb1)
        refine ⟨v, w', hr, ?_⟩
        rcases hc with ⟨hc, k1, k2⟩ | hc
        · exact keep_same (k1.trans g1) (k2.trans g2) (g3.trans (List.prefix_append _ _)) g4 (h6 _ _ hc)
        · have := g5.split0.2.2 _ _ hc
          obtain ⟨q1, bs, ⟨b1, b2, rfl, q2, c1, c2, rfl, q3, q4⟩, q5, q6⟩ := this
          exact keep_other ⟨q1, _, ⟨b1, c1 ++ c2, rfl, q2, c1, c2, rfl, own_prefix g1 g2 g3 g4 q3, q4⟩, q5, q6⟩
      · obtain ⟨bs, ⟨b1, b2, rfl, hown, rfl⟩, _, _, _, _, h6⟩ := g.split
        simp only [List.append_nil] at h6
        obtain ⟨v, w', hr, hc⟩ := append_core (P := P) (ty := o.type) (t := t) hsz hown (hrd w hw) hb (Nat.le_of_ble_eq_true hb1)
        exact ⟨v, w', hr, keep_other (h6 _ _ hc)⟩
    obtain ⟨v, w', hr, hc⟩ := key
    refine ⟨v.v, w', ?_, v, rfl, hc.set hi'⟩
    unfold execOp; simp only [ho]
    simp only [resolve, invoke, List.map_toArray, hv.eval ha AllT.nil, Sem.run_bind, Sem.run_pure, Result.andThen_ok]
    simp [builtin, hr]
theorem run_slice_cut {t e : TypeId} {sz : Nat} [ht : SlT P t e] [hz : SzT P e sz] {s : SlV} {w : World} {b : Nat} {hi : Option Value} (hb : (Instr.sliceBounds true s.len s.cap none hi hi).run P w = .ok (0, b, b) w) :
    (Instr.sliceAt t s.v none hi hi).run P w = .ok (s.cut b).v w := by
  have e1 := run_underlying (P := P) (w := w) ht.und
  have e2 : ∀ a : Addr, a.add 0 = a := fun a => by simp [Addr.add]
  simp [Instr.sliceAt, Instr.slice, e1, hb, hz.sz, Result.andThen, SlV.v, SlV.cut, e2]
theorem q_sliceF {t e : TypeId} {sz : Nat} {x y z : Operand} {cx cy cz : List Bool} {s : SlV} {l : List α} {b : Int} (ho : o.op = .slice t x none (some y) (some z)) (hx : evl E x = some (cx, s.v)) (hy : evl E y = some (cy, .int .i64 b)) (hz : evl E z = some (cz, .int .i64 b))
    [sx : Sub cx cs] [sy : Sub cy cs] [sz' : Sub cz cs] [ht : SlT P t e] [hs : SzT P e sz] (hrd : ∀ w, C w → RdL s.v l w) (h : AllT cs → b = l.length) : OpR P n E C cs o (s.cut l.length).v :=
  .of_run fun e he hc w hw => by
    obtain ⟨l1, l2, l3⟩ := rd_lens (hrd w hw)
    have h1 := h hc
    unfold execOp; simp only [ho]
    have e1 := he.eval hx sx hc
    have e2 := he.eval hy sy hc
    have e3 := he.eval hz sz' hc
    have := run_slice_cut (P := P) (t := t) (s := s) (w := w) (b := b.toNat) (hi := some (.int .i64 b)) (by
      have f1 := run_sliceBound (P := P) (w := w) .i64 b s.cap .slice3Acap (by omega) (by omega)
      have f2 := run_sliceBound (P := P) (w := w) .i64 b b.toNat .slice3B (by omega) (by omega)
      simp [Instr.sliceBounds, f1, f2, Result.andThen])
    rw [show b.toNat = l.length by omega] at this
    simp [e1, e2, e3, this, Result.andThen]
end
end Go.Sx

set_option autoImplicit false
set_option maxRecDepth 100000
namespace Go.Proofs.Ytomjbfeafodfbaa
open Go.Sx
open Enc (enc val)
instance : Enc Itm := ⟨fun x => [.pointer x.ptr, .int .i64 x.units.length, .int .i64 x.cost, .int .i64 x.least], 4, fun x => .agg #[.pointer x.ptr, .int .i64 x.units.length, .int .i64 x.cost, .int .i64 x.least], fun _ => rfl, by simp [Value.oneCell'], fun _ => rfl, by decide⟩
instance : HasTy Try.prog 79 Itm := hasTy_agg Try.sizeOf79 Try.isAgg79 (fun _ => rfl)
/-- A chain of units, the last one first. -/
def chR : List Int → Option Addr → World → Prop
  | [], p, _ => p = none
  | u :: r, p, w => ∃ b q, p = some ⟨b, 0, none⟩ ∧ BlkAt b [.pointer q, .int .i64 u] 88 w ∧ chR r q w
theorem chR_stb : ∀ {r : List Int} {p : Option Addr} {w : World}, chR r p w → Stb w [] (chR r p)
  | [], _, _, h => ⟨fun _ _ => h⟩
  | u :: r, p, w, ⟨b, q, h1, h2, h3⟩ => ⟨fun w' k => ⟨b, q, h1, (blk_stb h2).stb w' k, (chR_stb h3).stb w' k⟩⟩
def Ch (x : Itm) (w : World) : Prop := chR x.units.reverse x.ptr w
def RevTo (l m : List Int) (k : Nat) : Prop := m.length = l.length ∧ ∀ j, j < l.length → nth m j = if j < k ∨ l.length ≤ j + k then nth l (l.length - 1 - j) else nth l j
theorem revTo_step {l m : List Int} {k : Nat} (h : RevTo l m k) (hk : 2 * k + 1 < l.length) : RevTo l ((m.set k (nth m (l.length - 1 - k))).set (l.length - 1 - k) (nth m k)) (k + 1) := by
  obtain ⟨h1, h2⟩ := h
  refine ⟨by simp [h1], fun j hj => ?_⟩
  rw [nth_setP _ _ _ _ (by simp [h1]; omega), nth_setP _ _ _ _ (by omega), h2 _ (show l.length - 1 - k < l.length by omega), h2 _ (show k < l.length by omega), h2 j hj]
  by_cases e1 : j = l.length - 1 - k
  · rw [if_pos e1, if_neg (by omega), if_pos (by omega)]
    congr 1; omega
  · rw [if_neg e1]
    by_cases e2 : j = k
    · rw [if_pos e2, if_neg (by omega), if_pos (by omega), e2]
    · rw [if_neg e2]
      by_cases e3 : j < k ∨ l.length ≤ j + k
      · rw [if_pos e3, if_pos (by omega)]
      · rw [if_neg e3, if_neg (by omega)]
theorem revTo_end {l m : List Int} {k : Nat} (h : RevTo l m k) (hk : l.length ≤ 2 * k + 1) : m = l.reverse := by
  obtain ⟨h1, h2⟩ := h
  apply List.ext_getElem (by simp [h1])
  intro j hj1 hj2
  have := h2 j (by omega)
  rw [nth_get hj1] at this
  rw [this, List.getElem_reverse]
  split
  · rw [nth_get (by omega)]
  · rename_i hc
    rw [nth_get (by omega)]
    congr 1; omega
theorem reverse_spec (sv : SlV) (l : List Int) (hl : l.length ≤ 1000000) (w : World) (bs : List Nat) (hs : Sep [ownL 3 sv.v l] w bs) (hn : bs.Nodup) (hlt : ∀ b ∈ bs, b < w.heap.size) :
    Calls Try.prog 53 #[sv.v] w fun e w' => ∃ u : Unit, e = .returned (.tuple #[]) ∧ True ∧ Cl w bs [ownL 3 sv.v l.reverse] w' := by
  refine calls_cw (vs := [_]) Try.func53 rfl Try.ntmps53 rfl (Cl.start hs hn hlt) (cw_seq (cw_region (sr rfl rfl rfl ((q_move rfl rfl)) ?_)))
  refine sr rfl rfl rfl ((q_len rfl (.cons rfl inferInstance (.nil)) (by exact fun w hw => rd_own hw (by exact .head _)))) ?_
  refine sr rfl rfl rfl ((q_sub rfl rfl rfl (by intro hc; omega))) ?_
  refine sr rfl rfl rfl ((q_assign rfl rfl)) (sr rfl rfl rfl ((q_assign rfl rfl)) (sw_nil (post_then (cw_block ?_))))
  refine cw_loop (S := Nat × List Int) (fun y => [(0, [], sv.v), (2, [], .int .i64 y.1), (3, [], .int .i64 ((l.length : Int) - 1 - y.1))]) (fun y => Cl w bs [ownL 3 sv.v y.2]) (fun y => y.1 ≤ l.length ∧ RevTo l y.2 y.1) (fun y => l.length - y.1) (0, l) ⟨Nat.zero_le _, rfl, fun j hj => by rw [if_neg (by simp only; omega)]⟩ (by exact .cons rfl (.cons rfl (.cons' rfl (by congr 1; first | omega | (simp only; omega)) .nil))) (fun _ h => h) ?_
  rintro ⟨k, m⟩ ⟨hk, hm⟩
  dsimp only at hk hm ⊢
  have hml := hm.1
  refine cw_seq (cw_seq (cw_region (sr rfl rfl rfl ((q_move rfl rfl)) (sr rfl rfl rfl ((q_move rfl rfl)) (sr rfl rfl rfl ((q_lss rfl rfl rfl)) (sw_nil (post_then ?_)))))))
  refine cw_cond rfl (fun h => ?_) (fun h => ?_)
  · skip
    have h1 : 2 * k + 1 < l.length := by simp only [decide_eq_true_eq] at h; omega
    have e : ((l.length : Int) - 1 - k).toNat = l.length - 1 - k := by omega
    refine cw_skip (post_then (cw_seq (cw_block (cw_region_a (Cl w bs [ownL 3 sv.v m]) [13, 14, 15] mixed_Try ?_))))
    refine aw_pure 0 rfl (by kernel_rfl) (by kernel_rfl) (by kernel_rfl) (by kernel_rfl) (by kernel_rfl) rfl rfl rfl (q_move rfl rfl) ?_
    refine aw_pure 1 rfl (by kernel_rfl) (by kernel_rfl) (by kernel_rfl) (by kernel_rfl) (by kernel_rfl) rfl rfl rfl (q_move rfl rfl) ?_
    refine aw_pure 2 rfl (by kernel_rfl) (by kernel_rfl) (by kernel_rfl) (by kernel_rfl) (by kernel_rfl) rfl rfl rfl (q_move rfl rfl) ?_
    refine aw_pure 3 rfl (by kernel_rfl) (by kernel_rfl) (by kernel_rfl) (by kernel_rfl) (by kernel_rfl) rfl rfl rfl (q_move rfl rfl) ?_
    refine aw_pure 4 rfl (by kernel_rfl) (by kernel_rfl) (by kernel_rfl) (by kernel_rfl) (by kernel_rfl) rfl rfl rfl (q_move rfl rfl) ?_
    refine aw_pure 5 rfl (by kernel_rfl) (by kernel_rfl) (by kernel_rfl) (by kernel_rfl) (by kernel_rfl) rfl rfl rfl (q_move rfl rfl) ?_
    refine aw_take 6 (fun w h => Cl.sel (by exact .take 0 rfl (.nil _)) w h) rfl (by kernel_rfl) (by kernel_rfl) (by kernel_rfl) (by kernel_rfl) (by kernel_rfl) (by kernel_rfl) rfl rfl rfl (q_index rfl rfl rfl (by exact fun w hw => rd_own hw (by exact .head _)) (by intro hc; omega)) ?_
    refine aw_take 7 (fun w h => Cl.sel (by exact .take 0 rfl (.nil _)) w h) rfl (by kernel_rfl) (by kernel_rfl) (by kernel_rfl) (by kernel_rfl) (by kernel_rfl) (by kernel_rfl) rfl rfl rfl (q_loadEl rfl rfl rfl (by exact fun w hw => rd_own hw (by exact .head _)) (by intro hc; omega)) ?_
    refine aw_pure 8 rfl (by kernel_rfl) (by kernel_rfl) (by kernel_rfl) (by kernel_rfl) (by kernel_rfl) rfl rfl rfl (q_move rfl rfl) ?_
    refine aw_pure 9 rfl (by kernel_rfl) (by kernel_rfl) (by kernel_rfl) (by kernel_rfl) (by kernel_rfl) rfl rfl rfl (q_move rfl rfl) ?_
    refine aw_take 10 (fun w h => Cl.sel (by exact .take 0 rfl (.nil _)) w h) rfl (by kernel_rfl) (by kernel_rfl) (by kernel_rfl) (by kernel_rfl) (by kernel_rfl) (by kernel_rfl) rfl rfl rfl (q_indexN rfl rfl rfl (by exact fun w hw => rd_own hw (by exact .head _)) (by intro hc; omega)) ?_
    refine aw_take 11 (fun w h => Cl.sel (by exact .take 0 rfl (.nil _)) w h) rfl (by kernel_rfl) (by kernel_rfl) (by kernel_rfl) (by kernel_rfl) (by kernel_rfl) (by kernel_rfl) rfl rfl rfl (q_loadEl rfl rfl rfl (by exact fun w hw => rd_own hw (by exact .head _)) (by intro hc; omega)) ?_
    refine aw_take 12 (fun w h => Cl.sel (by exact .take 0 rfl (.nil _)) w h) rfl (by kernel_rfl) (by kernel_rfl) (by kernel_rfl) (by kernel_rfl) (by kernel_rfl) (by kernel_rfl) rfl rfl rfl (q_indexN rfl rfl rfl (by exact fun w hw => rd_own hw (by exact .head _)) (by intro hc; omega)) ?_
    refine aw_one0 13 (by kernel_rfl) rfl rfl rfl (e_storeEl1 (i := 0) rfl rfl rfl rfl rfl (by omega)) (by intro hb; (exact absurd hb (by decide))) ?_
    refine aw_q 14 (by kernel_rfl) rfl rfl rfl rfl (OpR.q (q_index rfl rfl rfl (by exact fun w hw => rd_own hw (by exact .head _)) (by intro hc; (simp only [List.length_set, List.length_append, List.length_cons, List.length_nil, List.length_replicate, List.length_take, List.length_drop, List.length_map]; omega)))) (by intro hb; (exact absurd hb (by decide))) ?_
    refine aw_one0 15 (by kernel_rfl) rfl rfl rfl (e_storeEl1 (i := 0) rfl rfl rfl rfl rfl (by (simp only [List.length_set, List.length_append, List.length_cons, List.length_nil, List.length_replicate, List.length_take, List.length_drop, List.length_map]; omega))) (by intro hb; (exact absurd hb (by decide))) ?_
    refine aw_end (by kernel_rfl) ?_
    refine post_blk (post_then (cw_region (sr rfl rfl rfl ((q_move rfl rfl)) ?_)))
    refine sr rfl rfl rfl ((q_add rfl rfl rfl (by intro hc; omega))) ?_
    refine sr rfl rfl rfl ((q_move rfl rfl)) ?_
    refine sr rfl rfl rfl ((q_sub rfl rfl rfl (by intro hc; omega))) ?_
    refine sr rfl rfl rfl ((q_assign rfl rfl)) (sr rfl rfl rfl ((q_assign rfl rfl)) (sw_nil ?_))
    refine post_next (k + 1, (m.set k (nth m (l.length - 1 - k))).set (l.length - 1 - k) (nth m k)) (by exact .cons rfl (.cons rfl (.cons' rfl (by congr 1; first | omega | (simp only; omega)) .nil))) (fun w3 hw3 => by rw [← e]; exact hw3) ⟨by simp only; omega, revTo_step hm h1⟩ (by simp only; omega)
  · skip
    have h1 : l.length ≤ 2 * k + 1 := by simp only [decide_eq_false_iff_not] at h; omega
    refine cw_exit (post_then_x (post_then_x (post_blk_eq (post_end0 rfl ?_))))
    exact fun w' hw => ⟨(), rfl, trivial, by rw [← revTo_end hm h1]; exact hw⟩
theorem list_spec (p : Option Addr) (us : List Int) (w : World) (hc : Stb w [] (chR us.reverse p)) (hl : us.length ≤ 1000000) : Calls Try.prog 33 #[.pointer p] w fun e w' => ∃ s : SlV, e = .returned s.v ∧ True ∧ Cl w [] [ownL 3 s.v us] w' := by
  refine calls_cw (vs := [_]) Try.func33 rfl Try.ntmps33 rfl (Cl.start0 w) (cw_seq (cw_region (sr rfl rfl rfl ((q_assign rfl rfl)) (sw_nil (post_then (cw_seq (cw_region (sr rfl rfl rfl ((q_assign rfl rfl)) (sw_nil (post_then (cw_seq (cw_block ?_))))))))))))
  refine cw_loop (S := (Option Addr × SlV) × (List Int × List Int)) (fun y => [(0, [], .pointer y.1.1), (3, [], y.1.2.v)]) (fun y => Cl w [] [ownL 3 y.1.2.v y.2.1]) (fun y => y.2.1 ++ y.2.2 = us.reverse ∧ Stb w [] (chR y.2.2 y.1.1)) (fun y => y.2.2.length) ((p, ⟨none, 0, 0⟩), ([], us.reverse)) ⟨rfl, hc⟩ (by exact .cons rfl (.cons rfl .nil)) (fun _ h => h.addNil (α := Int) 3) ?_
  rintro ⟨⟨q, s3⟩, ⟨acc, rem⟩⟩ ⟨he, hq⟩
  dsimp only at he hq ⊢
  have hll : acc.length + rem.length = us.length := by rw [← List.length_append, he, List.length_reverse]
  refine cw_seq (cw_seq (cw_region (sr rfl rfl rfl ((q_move rfl rfl)) ?_)))
  refine sr rfl rfl rfl ((q_neqPNil rfl rfl (by kernel_rfl))) ?_
  refine sw_nil (post_then ?_)
  refine cw_cond rfl (fun h => ?_) (fun h => ?_)
  · skip
    cases rem with
    | nil => exfalso; have := hq.here; simp only [chR] at this; rw [this] at h; cases h
    | cons u r =>
      obtain ⟨b, q', e1, hb, hr⟩ := hq.here
      have hbs := blk_stb hb
      subst e1
      simp only [List.length_cons] at hll
      refine cw_skip (post_then (cw_seq (cw_block (cw_region (sr rfl rfl rfl ((q_move rfl rfl)) (sr rfl rfl rfl ((q_move rfl rfl)) (sr rfl rfl rfl ((q_nilCheck rfl rfl)) (sr rfl rfl rfl ((q_fieldAddr rfl rfl)) ?_))))))))
      refine sr rfl rfl rfl ((q_loadS rfl rfl (fun w hw => Stb.cl (by assumption) hw) rfl)) ?_
      refine sw_x rfl rfl rfl (e_build1 (α := Int) rfl rfl rfl rfl) (fun s15 => ?_)
      refine sw_x rfl rfl rfl (e_append (i := 1) rfl (.cons rfl inferInstance (.cons rfl inferInstance (.nil))) rfl rfl (by exact fun w hw => rd_own hw (by exact .head _)) (by simp only [List.length_set, List.length_append, List.length_cons, List.length_nil, List.length_replicate, List.length_take, List.length_drop, List.length_map]; omega) rfl) (fun s16 => ?_)
      refine sr rfl rfl rfl ((q_assign rfl rfl)) (sw_nil (post_blk (post_then (cw_region (sr rfl rfl rfl ((q_move rfl rfl)) (sr rfl rfl rfl ((q_nilCheck rfl rfl)) (sr rfl rfl rfl ((q_fieldAddr rfl rfl)) ?_)))))))
      refine sr rfl rfl rfl ((q_loadS rfl rfl (fun w hw => Stb.cl (by assumption) hw) rfl)) ?_
      refine sr rfl rfl rfl ((q_assign rfl rfl)) (sw_nil ?_)
      refine post_next ((q', s16), (acc ++ [u], r)) (by exact .cons rfl (.cons rfl .nil)) (fun w h => Cl.sel (by exact .take 1 rfl (.nil _)) w h) ⟨by rw [← he]; simp, chR_stb hr⟩ (by simp)
  · skip
    cases rem with
    | cons u r =>
      exfalso
      obtain ⟨b, q', e1, _, _⟩ := hq.here
      rw [e1] at h; cases h
    | nil =>
      simp only [List.append_nil] at he
      have hrv : acc.reverse = us := by rw [he, List.reverse_reverse]
      refine cw_exit (post_then_x (post_then_x (post_blk_eq (post_then (cw_seq (cw_region (sr rfl rfl rfl ((q_move rfl rfl)) ?_)))))))
      refine sw_x rfl rfl rfl (e_callH (A := [ownL 3 s3.v acc]) (F := []) (CanCall.mk Try.call53) rfl rfl (.cons rfl inferInstance (.nil)) (.refl _) (fun w bs k1 k2 k3 k4 k5 => reverse_spec s3 acc (by simp only [List.length_nil] at hll; omega) w bs k1 k2 k3)) (fun u17 => ?_)
      refine sw_imp fun _ => ?_
      rw [hrv]
      refine sw_nil (post_then (cw_seq (cw_region (sr rfl rfl rfl ((q_move rfl rfl)) (sr rfl rfl rfl ((q_assign rfl rfl)) (sw_nil (post_then (cw_ret (post_ret1 rfl (resOk_tmp rfl) ?_)))))))))
      exact fun w' hw => ⟨s3, rfl, trivial, hw⟩
def cmpL : List Int → List Int → Int
  | [], [] => 0
  | [], _ :: _ => -1
  | _ :: _, [] => 1
  | x :: a, y :: b => if x < y then -1 else if y < x then 1 else cmpL a b
theorem cmpL_lt : ∀ a b, decide (cmpL a b < 0) = lexLt a b
  | [], [] => rfl
  | [], _ :: _ => rfl
  | _ :: _, [] => rfl
  | x :: a, y :: b => by
    simp only [cmpL, lexLt]
    by_cases h1 : x < y
    · simp [h1]
    · by_cases h2 : y < x
      · have : ¬ x = y := by omega
        simp [h1, h2, this]
      · have : x = y := by omega
        subst this
        simp only [Int.lt_irrefl, if_false, decide_false, decide_true, Bool.true_and, Bool.false_or]
        exact cmpL_lt a b
theorem isNaN_spec (x : Int) (w : World) : Calls Try.prog 87 #[.int .i64 x] w fun e w' => e = .returned (.bool false) ∧ Cl w [] [] w' := by
  refine calls_cw (vs := [_]) Try.func87 rfl Try.ntmps87 rfl (Cl.start0 w) (cw_seq (cw_region (sr rfl rfl rfl ((q_assign rfl rfl)) (sw_nil (post_then (cw_seq (cw_region (sr rfl rfl rfl ((q_move rfl rfl)) (sr rfl rfl rfl ((q_move rfl rfl)) (sr rfl rfl rfl ((q_neq rfl rfl rfl)) (sr rfl rfl rfl ((q_assign rfl rfl)) (sw_nil (post_then (cw_ret (post_ret1 rfl (resOk_tmp rfl) ?_)))))))))))))))
  exact fun w' hw => ⟨by simp, hw⟩
theorem cmpCompare_spec (x y : Int) (w : World) : Calls Try.prog 86 #[.int .i64 x, .int .i64 y] w fun e w' => e = .returned (.int .i64 (if x < y then -1 else if y < x then 1 else 0)) ∧ Cl w [] [] w' := by
  refine calls_cw (vs := [_, _]) Try.func86 rfl Try.ntmps86 rfl (Cl.start0 w) (cw_seq (cw_region (sr rfl rfl rfl ((q_assign rfl rfl)) (sw_nil (post_then (cw_seq (cw_region (sr rfl rfl rfl ((q_move rfl rfl)) (sw_step rfl rfl rfl (q_call (CanCall.mk Try.call87) rfl (.cons rfl inferInstance (.nil)) (fun _ w hw => callq hw (isNaN_spec _ w))) (sr rfl rfl rfl ((q_assign rfl rfl)) (sw_nil (post_then (cw_seq (cw_region (sr rfl rfl rfl ((q_move rfl rfl)) (sw_step rfl rfl rfl (q_call (CanCall.mk Try.call87) rfl (.cons rfl inferInstance (.nil)) (fun _ w hw => callq hw (isNaN_spec _ w))) (sr rfl rfl rfl ((q_assign rfl rfl)) (sw_nil (post_then (cw_seq (cw_seq (cw_region (sr rfl rfl rfl ((q_move rfl rfl)) (sw_nil (post_then ?_)))))))))))))))))))))))))
  refine cw_cond rfl (fun h => ?_) (fun h => ?_)
  · skip
    cases h
  · skip
    refine cw_skip (post_then (cw_seq (cw_seq (cw_region (sr rfl rfl rfl ((q_move rfl rfl)) (sw_nil (post_then ?_)))))))
    refine cw_cond rfl (fun h2 => ?_) (fun h2 => ?_)
    · skip
      cases h2
    · skip
      refine cw_skip (post_then (cw_seq (cw_seq (cw_region (sr rfl rfl rfl ((q_move rfl rfl)) (sr rfl rfl rfl ((q_move rfl rfl)) (sr rfl rfl rfl ((q_lss rfl rfl rfl)) (sw_nil (post_then ?_)))))))))
      refine cw_cond rfl (fun h3 => ?_) (fun h3 => ?_)
      · skip
        have h4 : x < y := by simpa using h3
        refine cw_seq (cw_region (sr rfl rfl rfl ((q_assign rfl rfl)) (sw_nil (post_then (cw_ret (post_then_r (post_ret1 rfl (resOk_tmp rfl) ?_)))))))
        exact fun w' hw => ⟨by rw [if_pos h4], hw⟩
      · skip
        have h4 : ¬ x < y := by simpa using h3
        refine cw_skip (post_then (cw_seq (cw_seq (cw_region (sr rfl rfl rfl ((q_move rfl rfl)) (sr rfl rfl rfl ((q_move rfl rfl)) (sr rfl rfl rfl ((q_gtr rfl rfl rfl)) (sw_nil (post_then ?_)))))))))
        refine cw_cond rfl (fun h5 => ?_) (fun h5 => ?_)
        · skip
          have h6 : y < x := by simpa using h5
          refine cw_seq (cw_region (sr rfl rfl rfl ((q_assign rfl rfl)) (sw_nil (post_then (cw_ret (post_then_r (post_ret1 rfl (resOk_tmp rfl) ?_)))))))
          exact fun w' hw => ⟨by rw [if_neg h4, if_pos h6], hw⟩
        · skip
          have h6 : ¬ y < x := by simpa using h5
          refine cw_skip (post_then (cw_seq (cw_region (sr rfl rfl rfl ((q_assign rfl rfl)) (sw_nil (post_then (cw_ret (post_ret1 rfl (resOk_tmp rfl) ?_))))))))
          exact fun w' hw => ⟨by rw [if_neg h4, if_neg h6], hw⟩
theorem compare_spec (sa sb : Value) (a b : List Int) (w : World) (ha : Stb w [] (RdL sa a)) (hb : Stb w [] (RdL sb b)) : Calls Try.prog 85 #[sa, sb] w fun e w' => e = .returned (.int .i64 (cmpL a b)) ∧ Cl w [] [] w' := by
  have hL := rd_len ha.here
  refine calls_cw (vs := [_, _]) Try.func85 rfl Try.ntmps85 rfl (Cl.start0 w) (cw_seq (cw_region (sr rfl rfl rfl ((q_assign rfl rfl)) (sw_nil (post_then (cw_seq (cw_seq (cw_region (sr rfl rfl rfl ((q_move rfl rfl)) ?_)))))))))
  refine sr rfl rfl rfl ((q_len rfl (.cons rfl inferInstance (.nil)) (by exact fun w hw => Stb.cl (by assumption) hw))) ?_
  refine sr rfl rfl rfl ((q_move rfl rfl)) (sw_nil (post_then (cw_block ?_)))
  refine cw_loop (S := Nat) (fun k => [(0, [], sa), (1, [], sb), (9, [], sa), (10, [], .int .i64 a.length), (11, [], .int .i64 k)]) (fun _ => Cl w [] []) (fun k => k ≤ a.length ∧ k ≤ b.length ∧ cmpL a b = cmpL (a.drop k) (b.drop k)) (fun k => a.length - k) 0 ⟨Nat.zero_le _, Nat.zero_le _, rfl⟩ (by exact .cons rfl (.cons rfl (.cons rfl (.cons rfl (.cons rfl .nil))))) (fun _ h => h) ?_
  rintro k ⟨hk, hk2, hc⟩
  refine cw_seq (cw_region (sr rfl rfl rfl ((q_lss rfl rfl rfl)) (sw_nil (post_then (cw_seq ?_)))))
  refine cw_cond rfl (fun h => ?_) (fun h => ?_)
  · skip
    have hk' : k < a.length := by simp only [decide_eq_true_eq] at h; omega
    have e1 : a.drop k = nth a k :: a.drop (k + 1) := by rw [List.drop_eq_getElem_cons hk', nth_get hk']
    rw [e1] at hc
    refine cw_skip (post_then (cw_seq (cw_block (cw_seq (cw_region (sr rfl rfl rfl ((q_move rfl rfl)) ?_))))))
    refine sr rfl rfl rfl ((q_indexN rfl rfl rfl (by exact fun w hw => Stb.cl (by assumption) hw) (by intro hc; omega))) ?_
    refine sr rfl rfl rfl ((q_loadEl rfl rfl rfl (by exact fun w hw => Stb.cl (by assumption) hw) (by intro hc; omega))) ?_
    refine sr rfl rfl rfl ((q_assign rfl rfl)) (sr rfl rfl rfl ((q_assign rfl rfl)) (sw_nil (post_then (cw_seq (cw_seq (cw_region (sr rfl rfl rfl ((q_move rfl rfl)) (sr rfl rfl rfl ((q_move rfl rfl)) ?_))))))))
    refine sr rfl rfl rfl ((q_len rfl (.cons rfl inferInstance (.nil)) (by exact fun w hw => Stb.cl (by assumption) hw))) ?_
    refine sr rfl rfl rfl ((q_geq rfl rfl rfl)) (sw_nil (post_then ?_))
    refine cw_cond rfl (fun h2 => ?_) (fun h2 => ?_)
    · skip
      have h3 : b.length ≤ k := by simp only [decide_eq_true_eq] at h2; omega
      rw [List.drop_of_length_le h3] at hc
      refine cw_seq (cw_region (sr rfl rfl rfl ((q_assign rfl rfl)) (sw_nil (post_then (cw_ret (post_then_r (post_blk_r (post_then_r (post_then_r (post_blk_r (post_then_r (post_ret1 rfl (resOk_tmp rfl) ?_))))))))))))
      exact fun w' hw => ⟨by rw [hc]; rfl, hw⟩
    · skip
      have h3 : k < b.length := by simp only [decide_eq_false_iff_not] at h2; omega
      have e2 : b.drop k = nth b k :: b.drop (k + 1) := by rw [List.drop_eq_getElem_cons h3, nth_get h3]
      rw [e2, cmpL] at hc
      refine cw_skip (post_then (cw_seq (cw_region (sr rfl rfl rfl ((q_move rfl rfl)) (sr rfl rfl rfl ((q_move rfl rfl)) ?_)))))
      refine sr rfl rfl rfl ((q_indexN rfl rfl rfl (by exact fun w hw => Stb.cl (by assumption) hw) (by intro hc; omega))) ?_
      refine sr rfl rfl rfl ((q_loadEl rfl rfl rfl (by exact fun w hw => Stb.cl (by assumption) hw) (by intro hc; omega))) ?_
      refine sr rfl rfl rfl ((q_assign rfl rfl)) (sw_nil (post_then (cw_seq (cw_region (sr rfl rfl rfl ((q_move rfl rfl)) (sr rfl rfl rfl ((q_move rfl rfl)) (sw_step rfl rfl rfl (q_call (CanCall.mk Try.call86) rfl (.cons rfl inferInstance (.cons rfl inferInstance (.nil))) (fun _ w hw => callq hw (cmpCompare_spec _ _ w))) (sr rfl rfl rfl ((q_assign rfl rfl)) (sw_nil (post_then (cw_seq (cw_region (sr rfl rfl rfl ((q_move rfl rfl)) (sr rfl rfl rfl ((q_neq rfl rfl rfl)) (sw_nil (post_then ?_))))))))))))))))
      refine cw_cond rfl (fun h4 => ?_) (fun h4 => ?_)
      · skip
        refine cw_seq (cw_region (sr rfl rfl rfl ((q_move rfl rfl)) (sr rfl rfl rfl ((q_assign rfl rfl)) (sw_nil (post_then (cw_ret (post_blk_r (post_then_r (post_then_r (post_blk_r (post_then_r (post_ret1 rfl (resOk_tmp rfl) ?_))))))))))))
        refine fun w' hw => ⟨?_, hw⟩
        rw [hc]
        by_cases g1 : nth a k < nth b k
        · rw [if_pos g1, if_pos g1]
        · rw [if_neg g1, if_neg g1]
          by_cases g2 : nth b k < nth a k
          · rw [if_pos g2, if_pos g2]
          · simp [g1, g2] at h4
      · skip
        have g1 : ¬ nth a k < nth b k := by intro g; simp [g] at h4
        have g2 : ¬ nth b k < nth a k := by intro g; simp [g, g1] at h4
        rw [if_neg g1, if_neg g2] at hc
        refine cw_skip (post_blk (post_then (cw_region ?_)))
        refine sr rfl rfl rfl ((q_add rfl rfl rfl (by intro hc; omega))) ?_
        refine sr rfl rfl rfl ((q_move rfl rfl)) (sw_nil ?_)
        exact post_next (k + 1) (by exact .cons rfl (.cons rfl (.cons rfl (.cons rfl (.cons rfl .nil))))) (fun _ h => h) ⟨by omega, by omega, hc⟩ (by omega)
  · skip
    have hk' : k = a.length := by simp only [decide_eq_false_iff_not] at h; omega
    subst hk'
    rw [List.drop_length] at hc
    refine cw_exit (post_then_x (post_then_x (post_blk_eq (post_then (cw_seq (cw_seq (cw_region (sr rfl rfl rfl ((q_move rfl rfl)) ?_))))))))
    refine sr rfl rfl rfl ((q_len rfl (.cons rfl inferInstance (.nil)) (by exact fun w hw => Stb.cl (by assumption) hw))) ?_
    refine sr rfl rfl rfl ((q_move rfl rfl)) ?_
    refine sr rfl rfl rfl ((q_len rfl (.cons rfl inferInstance (.nil)) (by exact fun w hw => Stb.cl (by assumption) hw))) ?_
    refine sr rfl rfl rfl ((q_lss rfl rfl rfl)) (sw_nil (post_then ?_))
    refine cw_cond rfl (fun h2 => ?_) (fun h2 => ?_)
    · skip
      have h3 : a.length < b.length := by simp only [decide_eq_true_eq] at h2; omega
      rw [List.drop_eq_getElem_cons h3, cmpL] at hc
      refine cw_seq (cw_region (sr rfl rfl rfl ((q_assign rfl rfl)) (sw_nil (post_then (cw_ret (post_then_r (post_ret1 rfl (resOk_tmp rfl) ?_)))))))
      exact fun w' hw => ⟨by rw [hc], hw⟩
    · skip
      have h3 : b.length ≤ a.length := by simp only [decide_eq_false_iff_not] at h2; omega
      rw [List.drop_of_length_le h3, cmpL] at hc
      refine cw_skip (post_then (cw_seq (cw_region (sr rfl rfl rfl ((q_assign rfl rfl)) (sw_nil (post_then (cw_ret (post_ret1 rfl (resOk_tmp rfl) ?_))))))))
      exact fun w' hw => ⟨by rw [hc], hw⟩
end Go.Proofs.Ytomjbfeafodfbaa

set_option autoImplicit false
set_option maxRecDepth 100000
namespace Go.Proofs.Ytomjbfeafodfbaa
open Go.Sx
open Enc (enc val)
/-- What the elements of a queue point at. -/
def ChOk (w : World) (bs : List Nat) (l : List Itm) : Prop := ∀ x ∈ l, Stb w bs (Ch x) ∧ x.units.length ≤ 1000000
theorem ChOk.arg {w0 w : World} {fp : List Nat} {H : List Asn} {l : List Itm} (hw : Cl w0 fp H w) (h : ChOk w0 fp l) : ChOk w [] l := fun x hx => ⟨stb_arg hw (h x hx).1, (h x hx).2⟩
theorem less_spec (sq : SlV) (l : List Itm) (i j : Nat) (w : World) (hq : Stb w [] (RdL sq.v l)) (hi : i < l.length) (hj : j < l.length) (hch : ChOk w [] l) : Calls Try.prog 80 #[sq.v, .int .i64 i, .int .i64 j] w fun e w' => e = .returned (.bool (Itm.lt (nth l i) (nth l j))) ∧ Cl w [] [] w' := by
  have hL := rd_len hq.here
  have hci := hch (nth l i) (by rw [nth_get hi]; exact List.getElem_mem hi)
  have hcj := hch (nth l j) (by rw [nth_get hj]; exact List.getElem_mem hj)
  refine calls_cw (vs := [_, _, _]) Try.func80 rfl Try.ntmps80 rfl (Cl.start0 w) (cw_seq (cw_region (sr rfl rfl rfl ((q_assign rfl rfl)) (sw_nil (post_then (cw_seq (cw_seq ?_)))))))
  refine cw_region_q mixed_Try (by kernel_rfl) ?_
  refine qr rfl rfl rfl ((q_move rfl rfl)) (qr rfl rfl rfl ((q_move rfl rfl)) ?_)
  refine qr rfl rfl rfl ((q_indexN rfl rfl rfl (by exact fun w hw => Stb.cl (by assumption) hw) (by intro hc; omega))) ?_
  refine qr rfl rfl rfl ((q_fieldEl rfl rfl (by exact fun w hw => Stb.cl (by assumption) hw) (by intro hc; omega))) ?_
  refine qr rfl rfl rfl ((q_loadF rfl rfl rfl (by exact fun w hw => Stb.cl (by assumption) hw) (by intro hc; omega) rfl)) ?_
  refine qr rfl rfl rfl ((q_move rfl rfl)) (qr rfl rfl rfl ((q_move rfl rfl)) ?_)
  refine qr rfl rfl rfl ((q_indexN rfl rfl rfl (by exact fun w hw => Stb.cl (by assumption) hw) (by intro hc; omega))) ?_
  refine qr rfl rfl rfl ((q_fieldEl rfl rfl (by exact fun w hw => Stb.cl (by assumption) hw) (by intro hc; omega))) ?_
  refine qr rfl rfl rfl ((q_loadF rfl rfl rfl (by exact fun w hw => Stb.cl (by assumption) hw) (by intro hc; omega) rfl)) ?_
  refine qr rfl rfl rfl ((q_neq rfl rfl rfl)) (qw_end (post_then ?_))
  refine cw_cond rfl (fun h => ?_) (fun h => ?_)
  · skip
    have h1 : ¬ (nth l i).least = (nth l j).least := by simpa using h
    refine cw_seq ?_
    refine cw_region_q mixed_Try (by kernel_rfl) ?_
    refine qr rfl rfl rfl ((q_move rfl rfl)) (qr rfl rfl rfl ((q_move rfl rfl)) ?_)
    refine qr rfl rfl rfl ((q_indexN rfl rfl rfl (by exact fun w hw => Stb.cl (by assumption) hw) (by intro hc; omega))) ?_
    refine qr rfl rfl rfl ((q_fieldEl rfl rfl (by exact fun w hw => Stb.cl (by assumption) hw) (by intro hc; omega))) ?_
    refine qr rfl rfl rfl ((q_loadF rfl rfl rfl (by exact fun w hw => Stb.cl (by assumption) hw) (by intro hc; omega) rfl)) ?_
    refine qr rfl rfl rfl ((q_move rfl rfl)) (qr rfl rfl rfl ((q_move rfl rfl)) ?_)
    refine qr rfl rfl rfl ((q_indexN rfl rfl rfl (by exact fun w hw => Stb.cl (by assumption) hw) (by intro hc; omega))) ?_
    refine qr rfl rfl rfl ((q_fieldEl rfl rfl (by exact fun w hw => Stb.cl (by assumption) hw) (by intro hc; omega))) ?_
    refine qr rfl rfl rfl ((q_loadF rfl rfl rfl (by exact fun w hw => Stb.cl (by assumption) hw) (by intro hc; omega) rfl)) ?_
    refine qr rfl rfl rfl ((q_lss rfl rfl rfl)) (qr rfl rfl rfl ((q_assign rfl rfl)) (qw_end (post_then (cw_ret (post_then_r (post_ret1 rfl (resOk_tmp rfl) ?_))))))
    exact fun w' hw => ⟨by simp [Itm.lt, h1], hw⟩
  · skip
    have h1 : (nth l i).least = (nth l j).least := by simpa using h
    refine cw_skip (post_then (cw_seq (cw_region_a (Cl w [] []) [] mixed_Try ?_)))
    refine aw_pure 0 rfl (by kernel_rfl) (by kernel_rfl) (by kernel_rfl) (by kernel_rfl) (by kernel_rfl) rfl rfl rfl (q_move rfl rfl) ?_
    refine aw_pure 1 rfl (by kernel_rfl) (by kernel_rfl) (by kernel_rfl) (by kernel_rfl) (by kernel_rfl) rfl rfl rfl (q_move rfl rfl) ?_
    refine aw_take 2 (fun w h => Cl.sel (by exact .nil _) w h) rfl (by kernel_rfl) (by kernel_rfl) (by kernel_rfl) (by kernel_rfl) (by kernel_rfl) (by kernel_rfl) rfl rfl rfl (q_indexN rfl rfl rfl (by exact fun w hw => Stb.cl (by assumption) hw) (by intro hc; omega)) ?_
    refine aw_take 3 (fun w h => Cl.sel (by exact .nil _) w h) rfl (by kernel_rfl) (by kernel_rfl) (by kernel_rfl) (by kernel_rfl) (by kernel_rfl) (by kernel_rfl) rfl rfl rfl (q_fieldEl rfl rfl (by exact fun w hw => Stb.cl (by assumption) hw) (by intro hc; omega)) ?_
    refine aw_take 4 (fun w h => Cl.sel (by exact .nil _) w h) rfl (by kernel_rfl) (by kernel_rfl) (by kernel_rfl) (by kernel_rfl) (by kernel_rfl) (by kernel_rfl) rfl rfl rfl (q_loadF rfl rfl rfl (by exact fun w hw => Stb.cl (by assumption) hw) (by intro hc; omega) rfl) ?_
    refine aw_pure 6 rfl (by kernel_rfl) (by kernel_rfl) (by kernel_rfl) (by kernel_rfl) (by kernel_rfl) rfl rfl rfl (q_move rfl rfl) ?_
    refine aw_pure 7 rfl (by kernel_rfl) (by kernel_rfl) (by kernel_rfl) (by kernel_rfl) (by kernel_rfl) rfl rfl rfl (q_move rfl rfl) ?_
    refine aw_take 8 (fun w h => Cl.sel (by exact .nil _) w h) rfl (by kernel_rfl) (by kernel_rfl) (by kernel_rfl) (by kernel_rfl) (by kernel_rfl) (by kernel_rfl) rfl rfl rfl (q_indexN rfl rfl rfl (by exact fun w hw => Stb.cl (by assumption) hw) (by intro hc; omega)) ?_
    refine aw_take 9 (fun w h => Cl.sel (by exact .nil _) w h) rfl (by kernel_rfl) (by kernel_rfl) (by kernel_rfl) (by kernel_rfl) (by kernel_rfl) (by kernel_rfl) rfl rfl rfl (q_fieldEl rfl rfl (by exact fun w hw => Stb.cl (by assumption) hw) (by intro hc; omega)) ?_
    refine aw_take 10 (fun w h => Cl.sel (by exact .nil _) w h) rfl (by kernel_rfl) (by kernel_rfl) (by kernel_rfl) (by kernel_rfl) (by kernel_rfl) (by kernel_rfl) rfl rfl rfl (q_loadF rfl rfl rfl (by exact fun w hw => Stb.cl (by assumption) hw) (by intro hc; omega) rfl) ?_
    refine aw_x 5 (by kernel_rfl) rfl rfl rfl rfl (e_call (CanCall.mk Try.call33) rfl (.cons rfl inferInstance (.nil)) (fun w hw => list_spec _ _ w (stb_arg hw hci.1) hci.2)) (by intro hb; exact fun _ w h => (fun w h => Cl.sel (by exact .nil _) w h) w h.2) (fun s34 => ?_)
    refine aw_imp fun _ => ?_
    refine aw_x 11 (by kernel_rfl) rfl rfl rfl rfl (e_call (CanCall.mk Try.call33) rfl (.cons rfl inferInstance (.nil)) (fun w hw => list_spec _ _ w (stb_arg hw hcj.1) hcj.2)) (by intro hb; exact fun _ w h => (fun w h => Cl.sel (by exact .nil _) w h) w h.2) (fun s40 => ?_)
    refine aw_imp fun _ => ?_
    refine aw_q 12 (by kernel_rfl) rfl rfl rfl rfl (q_call (CanCall.mk Try.call85) rfl (.cons rfl inferInstance (.cons rfl inferInstance (.nil))) (fun _ w hw => callq hw (compare_spec _ _ _ _ w (by exact stb_own hw (by exact .tail _ (.head _))) (by exact stb_own hw (by exact .head _))))) (by intro hb; exact (fun w h => Cl.sel (by exact .nil _) w h)) ?_
    refine aw_pure 13 rfl (by kernel_rfl) (by kernel_rfl) (by kernel_rfl) (by kernel_rfl) (by kernel_rfl) rfl rfl rfl (q_lss rfl rfl rfl) ?_
    refine aw_pure 14 rfl (by kernel_rfl) (by kernel_rfl) (by kernel_rfl) (by kernel_rfl) (by kernel_rfl) rfl rfl rfl (q_assign rfl rfl) ?_
    refine aw_end (by kernel_rfl) ?_
    refine post_then (cw_ret (post_ret1 rfl (resOk_tmp rfl) ?_))
    exact fun w' hw => ⟨by simp only [Itm.lt, h1, ← cmpL_lt]; simp, (fun w h => Cl.sel (by exact .nil _) w h) _ hw⟩
theorem qlen_spec (sq : SlV) (l : List Itm) (w : World) (hq : Stb w [] (RdL sq.v l)) : Calls Try.prog 79 #[sq.v] w fun e w' => e = .returned (.int .i64 l.length) ∧ Cl w [] [] w' := by
  refine calls_cw (vs := [_]) Try.func79 rfl Try.ntmps79 rfl (Cl.start0 w) (cw_seq (cw_region (sr rfl rfl rfl ((q_assign rfl rfl)) (sw_nil (post_then (cw_seq (cw_region (sr rfl rfl rfl ((q_move rfl rfl)) ?_))))))))
  refine sr rfl rfl rfl ((q_len rfl (.cons rfl inferInstance (.nil)) (by exact fun w hw => Stb.cl (by assumption) hw))) ?_
  refine sr rfl rfl rfl ((q_assign rfl rfl)) (sw_nil (post_then (cw_ret (post_ret1 rfl (resOk_tmp rfl) ?_))))
  exact fun w' hw => ⟨rfl, hw⟩
theorem qempty_spec (sq : SlV) (l : List Itm) (w : World) (hq : Stb w [] (RdL sq.v l)) : Calls Try.prog 84 #[sq.v] w fun e w' => e = .returned (.bool (decide (l.length = 0))) ∧ Cl w [] [] w' := by
  refine calls_cw (vs := [_]) Try.func84 rfl Try.ntmps84 rfl (Cl.start0 w) (cw_seq (cw_region (sr rfl rfl rfl ((q_assign rfl rfl)) (sw_nil (post_then (cw_seq (cw_region (sr rfl rfl rfl ((q_move rfl rfl)) ?_))))))))
  refine sr rfl rfl rfl ((q_len rfl (.cons rfl inferInstance (.nil)) (by exact fun w hw => Stb.cl (by assumption) hw))) ?_
  refine sr rfl rfl rfl ((q_eql rfl rfl rfl)) (sr rfl rfl rfl ((q_assign rfl rfl)) (sw_nil (post_then (cw_ret (post_ret1 rfl (resOk_tmp rfl) ?_)))))
  exact fun w' hw => ⟨by congr 2; rw [decide_eq_decide]; omega, hw⟩
theorem swap_spec (sq : SlV) (l : List Itm) (i j : Nat) (hi : i < l.length) (hj : j < l.length) (w : World) (bs : List Nat) (hs : Sep [ownL 79 sq.v l] w bs) (hn : bs.Nodup) (hlt : ∀ b ∈ bs, b < w.heap.size) : Calls Try.prog 83 #[sq.v, .int .i64 i, .int .i64 j] w fun e w' => ∃ u : Unit, e = .returned (.tuple #[]) ∧ True ∧ Cl w bs [ownL 79 sq.v (swp l i j)] w' := by
  refine calls_cw (vs := [_, _, _]) Try.func83 rfl Try.ntmps83 rfl (Cl.start hs hn hlt) (cw_region_a (Cl w bs [ownL 79 sq.v l]) [13, 14, 15] mixed_Try ?_)
  refine aw_pure 0 rfl (by kernel_rfl) (by kernel_rfl) (by kernel_rfl) (by kernel_rfl) (by kernel_rfl) rfl rfl rfl (q_move rfl rfl) ?_
  refine aw_pure 1 rfl (by kernel_rfl) (by kernel_rfl) (by kernel_rfl) (by kernel_rfl) (by kernel_rfl) rfl rfl rfl (q_move rfl rfl) ?_
  refine aw_pure 2 rfl (by kernel_rfl) (by kernel_rfl) (by kernel_rfl) (by kernel_rfl) (by kernel_rfl) rfl rfl rfl (q_move rfl rfl) ?_
  refine aw_pure 3 rfl (by kernel_rfl) (by kernel_rfl) (by kernel_rfl) (by kernel_rfl) (by kernel_rfl) rfl rfl rfl (q_move rfl rfl) ?_
  refine aw_pure 4 rfl (by kernel_rfl) (by kernel_rfl) (by kernel_rfl) (by kernel_rfl) (by kernel_rfl) rfl rfl rfl (q_move rfl rfl) ?_
  refine aw_pure 5 rfl (by kernel_rfl) (by kernel_rfl) (by kernel_rfl) (by kernel_rfl) (by kernel_rfl) rfl rfl rfl (q_move rfl rfl) ?_
  refine aw_take 6 (fun w h => Cl.sel (by exact .take 0 rfl (.nil _)) w h) rfl (by kernel_rfl) (by kernel_rfl) (by kernel_rfl) (by kernel_rfl) (by kernel_rfl) (by kernel_rfl) rfl rfl rfl (q_indexN rfl rfl rfl (by exact fun w hw => rd_own hw (by exact .head _)) (by intro hc; omega)) ?_
  refine aw_take 7 (fun w h => Cl.sel (by exact .take 0 rfl (.nil _)) w h) rfl (by kernel_rfl) (by kernel_rfl) (by kernel_rfl) (by kernel_rfl) (by kernel_rfl) (by kernel_rfl) rfl rfl rfl (q_loadEl rfl rfl rfl (by exact fun w hw => rd_own hw (by exact .head _)) (by intro hc; omega)) ?_
  refine aw_pure 8 rfl (by kernel_rfl) (by kernel_rfl) (by kernel_rfl) (by kernel_rfl) (by kernel_rfl) rfl rfl rfl (q_move rfl rfl) ?_
  refine aw_pure 9 rfl (by kernel_rfl) (by kernel_rfl) (by kernel_rfl) (by kernel_rfl) (by kernel_rfl) rfl rfl rfl (q_move rfl rfl) ?_
  refine aw_take 10 (fun w h => Cl.sel (by exact .take 0 rfl (.nil _)) w h) rfl (by kernel_rfl) (by kernel_rfl) (by kernel_rfl) (by kernel_rfl) (by kernel_rfl) (by kernel_rfl) rfl rfl rfl (q_indexN rfl rfl rfl (by exact fun w hw => rd_own hw (by exact .head _)) (by intro hc; omega)) ?_
  refine aw_take 11 (fun w h => Cl.sel (by exact .take 0 rfl (.nil _)) w h) rfl (by kernel_rfl) (by kernel_rfl) (by kernel_rfl) (by kernel_rfl) (by kernel_rfl) (by kernel_rfl) rfl rfl rfl (q_loadEl rfl rfl rfl (by exact fun w hw => rd_own hw (by exact .head _)) (by intro hc; omega)) ?_
  refine aw_take 12 (fun w h => Cl.sel (by exact .take 0 rfl (.nil _)) w h) rfl (by kernel_rfl) (by kernel_rfl) (by kernel_rfl) (by kernel_rfl) (by kernel_rfl) (by kernel_rfl) rfl rfl rfl (q_indexN rfl rfl rfl (by exact fun w hw => rd_own hw (by exact .head _)) (by intro hc; omega)) ?_
  refine aw_one0 13 (by kernel_rfl) rfl rfl rfl (e_storeEl1 (i := 0) rfl rfl rfl rfl rfl (by omega)) (by intro hb; (exact absurd hb (by decide))) ?_
  refine aw_q 14 (by kernel_rfl) rfl rfl rfl rfl (OpR.q (q_indexN rfl rfl rfl (by exact fun w hw => rd_own hw (by exact .head _)) (by intro hc; (simp only [List.length_set, List.length_append, List.length_cons, List.length_nil, List.length_replicate, List.length_take, List.length_drop, List.length_map]; omega)))) (by intro hb; (exact absurd hb (by decide))) ?_
  refine aw_one0 15 (by kernel_rfl) rfl rfl rfl (e_storeEl1 (i := 0) rfl rfl rfl rfl rfl (by (simp only [List.length_set, List.length_append, List.length_cons, List.length_nil, List.length_replicate, List.length_take, List.length_drop, List.length_map]; omega))) (by intro hb; (exact absurd hb (by decide))) ?_
  refine aw_end (by kernel_rfl) ?_
  refine post_end0 rfl ?_
  exact fun w' hw => ⟨(), rfl, trivial, hw⟩
theorem qpush_spec (b : Nat) (sq : SlV) (l : List Itm) (x : Itm) (hl : l.length ≤ 1000000000) (w : World) (bs : List Nat) (hs : Sep [blk b [sq.v] 81, ownL 79 sq.v l] w bs) (hn : bs.Nodup) (hlt : ∀ b ∈ bs, b < w.heap.size) : Calls Try.prog 82 #[.pointer (some ⟨b, 0, none⟩), .iface 79 (val x)] w fun e w' => ∃ s : SlV, e = .returned (.tuple #[]) ∧ True ∧ Cl w bs [blk b [s.v] 81, ownL 79 s.v (l ++ [x])] w' := by
  refine calls_cw (vs := [_, _]) Try.func82 rfl Try.ntmps82 rfl (Cl.start hs hn hlt) (cw_region_a (Cl w bs [blk b [sq.v] 81, ownL 79 sq.v l]) [7, 9] mixed_Try ?_)
  refine aw_pure 0 rfl (by kernel_rfl) (by kernel_rfl) (by kernel_rfl) (by kernel_rfl) (by kernel_rfl) rfl rfl rfl (q_move rfl rfl) ?_
  refine aw_pure 1 rfl (by kernel_rfl) (by kernel_rfl) (by kernel_rfl) (by kernel_rfl) (by kernel_rfl) rfl rfl rfl (q_move rfl rfl) ?_
  refine aw_pure 2 rfl (by kernel_rfl) (by kernel_rfl) (by kernel_rfl) (by kernel_rfl) (by kernel_rfl) rfl rfl rfl (q_nilCheck rfl rfl) ?_
  refine aw_take 3 (fun w h => Cl.sel (by exact .take 0 rfl (.take 0 rfl (.nil _))) w h) rfl (by kernel_rfl) (by kernel_rfl) (by kernel_rfl) (by kernel_rfl) (by kernel_rfl) (by kernel_rfl) rfl rfl rfl (q_loadC rfl rfl (by exact .head _) rfl) ?_
  refine aw_pure 4 rfl (by kernel_rfl) (by kernel_rfl) (by kernel_rfl) (by kernel_rfl) (by kernel_rfl) rfl rfl rfl (q_move rfl rfl) ?_
  refine aw_pure 5 rfl (by kernel_rfl) (by kernel_rfl) (by kernel_rfl) (by kernel_rfl) (by kernel_rfl) rfl rfl rfl (q_assert rfl rfl Try.underlying79 rfl) ?_
  refine aw_x 6 (by kernel_rfl) rfl rfl rfl rfl (e_build1 (α := Itm) rfl rfl rfl rfl) (by intro hb; exact fun _ => (fun w h => Cl.sel (by exact .take 1 rfl (.take 1 rfl (.nil _))) w h)) (fun s10 => ?_)
  refine aw_x 7 (by kernel_rfl) rfl rfl rfl rfl (e_append (i := 2) rfl (.cons rfl inferInstance (.cons rfl inferInstance (.nil))) rfl rfl (by exact fun w hw => rd_own hw (by exact .head _)) (by simp only [List.length_set, List.length_append, List.length_cons, List.length_nil, List.length_replicate, List.length_take, List.length_drop, List.length_map]; omega) rfl) (by intro hb; (exact absurd hb (by decide))) (fun s11 => ?_)
  refine aw_pure 8 rfl (by kernel_rfl) (by kernel_rfl) (by kernel_rfl) (by kernel_rfl) (by kernel_rfl) rfl rfl rfl (q_nilCheck rfl rfl) ?_
  refine aw_one0 9 (by kernel_rfl) rfl rfl rfl (e_store (i := 1) rfl rfl rfl rfl rfl rfl rfl rfl) (by intro hb; (exact absurd hb (by decide))) ?_
  refine aw_end (by kernel_rfl) ?_
  refine post_end0 rfl ?_
  exact fun w' hw => ⟨s11, rfl, trivial, (fun w h => Cl.sel (by exact .take 1 rfl (.take 1 rfl (.nil _))) w h) _ hw⟩
theorem own_shrink {w0 w : World} {fp : List Nat} {H : List Asn} {α : Type} [Enc α] {e : TypeId} {s : SlV} {l : List α} {k : Nat} (hk : k ≤ l.length) (h : Cl w0 fp (ownL e s.v l :: H) w) : Cl w0 fp (ownL e (s.sub (Enc.sz α) 0 k).v (l.take k) :: H) w := by
  obtain ⟨hc, bs, ⟨b1, b2, rfl, h1, h2⟩, hn, hb⟩ := h
  refine ⟨hc, b1 ++ b2, ⟨b1, b2, rfl, ?_, h2⟩, hn, hb⟩
  obtain ⟨a, m, cap⟩ := s
  rcases h1 with ⟨e1, e2, e3⟩ | ⟨b, n, cap', cur, e1, e2, e3, e4, e5, e6, e7, e8⟩
  · simp only [SlV.v, Value.slice.injEq] at e1
    obtain ⟨rfl, rfl, rfl⟩ := e1
    have hl : l = [] := by
      have := flat_len l
      rw [e2] at this
      rcases Nat.mul_eq_zero.1 this.symm with h | h
      · exact List.eq_nil_of_length_eq_zero h
      · have := Enc.pos (α := α); omega
    subst hl
    simp only [List.length_nil, Nat.le_zero] at hk
    subst hk
    exact .inl ⟨rfl, rfl, e3⟩
  · simp only [SlV.v, Value.slice.injEq] at e1
    obtain ⟨rfl, rfl, rfl⟩ := e1
    rw [flat_len] at e7
    have hnl := Nat.eq_of_mul_eq_mul_right (Enc.pos (α := α)) e7
    refine   .inr ⟨b, k, cap, cur, ?_, e2, e3, by omega, e5, e6, ?_, ?_⟩
    · simp only [SlV.v, SlV.sub, Option.map_some, Nat.zero_mul, Nat.sub_zero]
      have : (⟨b, 0, none⟩ : Addr).add 0 = ⟨b, 0, none⟩ := by simp [Addr.add]
      rw [this, ite_self]
    · rw [flat_len, List.length_take, Nat.min_eq_left hk]
    · rw [flat_take, ← e8, List.take_take, Nat.min_eq_left (Nat.mul_le_mul_right _ (by omega))]
theorem qpop_spec (b : Nat) (sq : SlV) (l : List Itm) (h0 : 0 < l.length) (hl : l.length ≤ 1000000000) (w : World) (bs : List Nat) (hs : Sep [blk b [sq.v] 81, ownL 79 sq.v l] w bs) (hn : bs.Nodup) (hlt : ∀ b ∈ bs, b < w.heap.size) : Calls Try.prog 81 #[.pointer (some ⟨b, 0, none⟩)] w fun e w' => ∃ s : SlV, e = .returned (.iface 79 (val (nth l (l.length - 1)))) ∧ True ∧ Cl w bs [blk b [s.v] 81, ownL 79 s.v (l.take (l.length - 1))] w' := by
  have e1 : ((l.length : Int) - 1).toNat = l.length - 1 := by omega
  refine calls_cw (vs := [_]) Try.func81 rfl Try.ntmps81 rfl (Cl.start hs hn hlt) (cw_seq (cw_region (sr rfl rfl rfl ((q_assign rfl rfl)) (sw_nil (post_then (cw_seq (cw_region_a (Cl w bs [blk b [sq.v] 81, ownL 79 sq.v l]) [] mixed_Try ?_)))))))
  refine aw_pure 0 rfl (by kernel_rfl) (by kernel_rfl) (by kernel_rfl) (by kernel_rfl) (by kernel_rfl) rfl rfl rfl (q_move rfl rfl) ?_
  refine aw_pure 1 rfl (by kernel_rfl) (by kernel_rfl) (by kernel_rfl) (by kernel_rfl) (by kernel_rfl) rfl rfl rfl (q_nilCheck rfl rfl) ?_
  refine aw_take 2 (fun w h => Cl.sel (by exact .take 0 rfl (.take 0 rfl (.nil _))) w h) rfl (by kernel_rfl) (by kernel_rfl) (by kernel_rfl) (by kernel_rfl) (by kernel_rfl) (by kernel_rfl) rfl rfl rfl (q_loadC rfl rfl (by exact .head _) rfl) ?_
  refine aw_pure 3 rfl (by kernel_rfl) (by kernel_rfl) (by kernel_rfl) (by kernel_rfl) (by kernel_rfl) rfl rfl rfl (q_move rfl rfl) ?_
  refine aw_pure 4 rfl (by kernel_rfl) (by kernel_rfl) (by kernel_rfl) (by kernel_rfl) (by kernel_rfl) rfl rfl rfl (q_nilCheck rfl rfl) ?_
  refine aw_take 5 (fun w h => Cl.sel (by exact .take 0 rfl (.take 0 rfl (.nil _))) w h) rfl (by kernel_rfl) (by kernel_rfl) (by kernel_rfl) (by kernel_rfl) (by kernel_rfl) (by kernel_rfl) rfl rfl rfl (q_loadC rfl rfl (by exact .head _) rfl) ?_
  refine aw_take 6 (fun w h => Cl.sel (by exact .take 0 rfl (.take 0 rfl (.nil _))) w h) rfl (by kernel_rfl) (by kernel_rfl) (by kernel_rfl) (by kernel_rfl) (by kernel_rfl) (by kernel_rfl) rfl rfl rfl (q_len rfl (.cons rfl inferInstance (.nil)) (by exact fun w hw => rd_own hw (by exact .tail _ (.head _)))) ?_
  refine aw_pure 7 rfl (by kernel_rfl) (by kernel_rfl) (by kernel_rfl) (by kernel_rfl) (by kernel_rfl) rfl rfl rfl (q_sub rfl rfl rfl (by intro hc; omega)) ?_
  refine aw_take 8 (fun w h => Cl.sel (by exact .take 0 rfl (.take 0 rfl (.nil _))) w h) rfl (by kernel_rfl) (by kernel_rfl) (by kernel_rfl) (by kernel_rfl) (by kernel_rfl) (by kernel_rfl) rfl rfl rfl (q_index rfl rfl rfl (by exact fun w hw => rd_own hw (by exact .tail _ (.head _))) (by intro hc; omega)) ?_
  refine aw_take 9 (fun w h => Cl.sel (by exact .take 0 rfl (.take 0 rfl (.nil _))) w h) rfl (by kernel_rfl) (by kernel_rfl) (by kernel_rfl) (by kernel_rfl) (by kernel_rfl) (by kernel_rfl) rfl rfl rfl (q_loadEl rfl rfl rfl (by exact fun w hw => rd_own hw (by exact .tail _ (.head _))) (by intro hc; omega)) ?_
  refine aw_x 10 (by kernel_rfl) rfl rfl rfl rfl (e_alloc rfl) (by intro hb; exact fun _ => (fun w h => Cl.sel (by exact .take 1 rfl (.take 1 rfl (.nil _))) w h)) (fun b3 => ?_)
  refine aw_one0 11 (by kernel_rfl) rfl rfl rfl (e_store (i := 0) rfl rfl rfl rfl rfl rfl rfl rfl) (by intro hb; exact (fun w h => Cl.sel (by exact .take 1 rfl (.take 1 rfl (.nil _))) w h)) ?_
  refine aw_end (by kernel_rfl) ?_
  refine post_then (cw_seq (cw_region_a (Cl w bs [blk b [sq.v] 81, ownL 79 sq.v l]) [11] mixed_Try ?_))
  refine aw_pure 0 rfl (by kernel_rfl) (by kernel_rfl) (by kernel_rfl) (by kernel_rfl) (by kernel_rfl) rfl rfl rfl (q_move rfl rfl) ?_
  refine aw_pure 1 rfl (by kernel_rfl) (by kernel_rfl) (by kernel_rfl) (by kernel_rfl) (by kernel_rfl) rfl rfl rfl (q_move rfl rfl) ?_
  refine aw_pure 2 rfl (by kernel_rfl) (by kernel_rfl) (by kernel_rfl) (by kernel_rfl) (by kernel_rfl) rfl rfl rfl (q_nilCheck rfl rfl) ?_
  refine aw_take 3 (fun w h => Cl.sel (by exact .take 1 rfl (.take 1 rfl (.nil _))) w h) rfl (by kernel_rfl) (by kernel_rfl) (by kernel_rfl) (by kernel_rfl) (by kernel_rfl) (by kernel_rfl) rfl rfl rfl (q_loadC rfl rfl (by exact .head _) rfl) ?_
  refine aw_pure 4 rfl (by kernel_rfl) (by kernel_rfl) (by kernel_rfl) (by kernel_rfl) (by kernel_rfl) rfl rfl rfl (q_move rfl rfl) ?_
  refine aw_pure 5 rfl (by kernel_rfl) (by kernel_rfl) (by kernel_rfl) (by kernel_rfl) (by kernel_rfl) rfl rfl rfl (q_nilCheck rfl rfl) ?_
  refine aw_take 6 (fun w h => Cl.sel (by exact .take 1 rfl (.take 1 rfl (.nil _))) w h) rfl (by kernel_rfl) (by kernel_rfl) (by kernel_rfl) (by kernel_rfl) (by kernel_rfl) (by kernel_rfl) rfl rfl rfl (q_loadC rfl rfl (by exact .head _) rfl) ?_
  refine aw_take 7 (fun w h => Cl.sel (by exact .take 1 rfl (.take 1 rfl (.nil _))) w h) rfl (by kernel_rfl) (by kernel_rfl) (by kernel_rfl) (by kernel_rfl) (by kernel_rfl) (by kernel_rfl) rfl rfl rfl (q_len rfl (.cons rfl inferInstance (.nil)) (by exact fun w hw => rd_own hw (by exact .tail _ (.head _)))) ?_
  refine aw_pure 8 rfl (by kernel_rfl) (by kernel_rfl) (by kernel_rfl) (by kernel_rfl) (by kernel_rfl) rfl rfl rfl (q_sub rfl rfl rfl (by intro hc; omega)) ?_
  refine aw_take 9 (fun w h => Cl.sel (by exact .take 1 rfl (.take 1 rfl (.nil _))) w h) rfl (by kernel_rfl) (by kernel_rfl) (by kernel_rfl) (by kernel_rfl) (by kernel_rfl) (by kernel_rfl) rfl rfl rfl (q_sliceH rfl rfl rfl (by exact fun w hw => rd_own hw (by exact .tail _ (.head _))) (by intro hc; omega)) ?_
  refine aw_pure 10 rfl (by kernel_rfl) (by kernel_rfl) (by kernel_rfl) (by kernel_rfl) (by kernel_rfl) rfl rfl rfl (q_nilCheck rfl rfl) ?_
  refine aw_one0 11 (by kernel_rfl) rfl rfl rfl (e_store (i := 1) rfl rfl rfl rfl rfl rfl rfl rfl) (by intro hb; (exact absurd hb (by decide))) ?_
  refine aw_end (by kernel_rfl) ?_
  refine post_then (cw_seq (cw_region ?_))
  refine sr rfl rfl rfl ((q_loadA rfl rfl (by exact .head _) rfl)) ?_
  refine sr rfl rfl rfl ((q_iface rfl rfl Try.underlying79 rfl)) (sr rfl rfl rfl ((q_assign rfl rfl)) (sw_nil (post_then (cw_ret (post_ret1 rfl (resOk_tmp rfl) ?_)))))
  refine fun w' hw => ⟨sq.sub 4 0 (l.length - 1), by rw [e1]; rfl, trivial, ?_⟩
  rw [e1] at hw
  have h1 : Cl w bs [ownL 79 sq.v l, blk b [(sq.sub 4 0 (l.length - 1)).v] 81] w' := (fun w h => Cl.sel (by exact .take 2 rfl (.take 1 rfl (.nil _))) w h) _ hw
  exact (own_shrink (H := [blk b [(sq.sub 4 0 (l.length - 1)).v] 81]) (Nat.sub_le _ _) h1).perm (.swap _ _ _)
end Go.Proofs.Ytomjbfeafodfbaa

set_option autoImplicit false
set_option maxRecDepth 100000
namespace Go.Proofs.Ytomjbfeafodfbaa
open Go.Sx
open Enc (enc val)
theorem m_less {b : Nat} {sv : Value} {w : World} (hb : BlkAt b [sv] 81 w) : Meth Try.prog 76 (.pointer (some ⟨b, 0, none⟩)) "Less" 80 sv w := meth_val (ti := (Try.prog.info? 76).getD default) (fun w => by kernel_rfl) (by kernel_rfl) Try.underlying76 (by kernel_rfl) hb
theorem m_len {b : Nat} {sv : Value} {w : World} (hb : BlkAt b [sv] 81 w) : Meth Try.prog 76 (.pointer (some ⟨b, 0, none⟩)) "Len" 79 sv w := meth_val (ti := (Try.prog.info? 76).getD default) (fun w => by kernel_rfl) (by kernel_rfl) Try.underlying76 (by kernel_rfl) hb
theorem m_swap {b : Nat} {sv : Value} {w : World} (hb : BlkAt b [sv] 81 w) : Meth Try.prog 76 (.pointer (some ⟨b, 0, none⟩)) "Swap" 83 sv w := meth_val (ti := (Try.prog.info? 76).getD default) (fun w => by kernel_rfl) (by kernel_rfl) Try.underlying76 (by kernel_rfl) hb
theorem m_empty {b : Nat} {sv : Value} {w : World} (hb : BlkAt b [sv] 81 w) : Meth Try.prog 76 (.pointer (some ⟨b, 0, none⟩)) "declaim/unit.empty" 84 sv w := meth_val (ti := (Try.prog.info? 76).getD default) (fun w => by kernel_rfl) (by kernel_rfl) Try.underlying76 (by kernel_rfl) hb
theorem m_push (a : Option Addr) (w : World) : Meth Try.prog 76 (.pointer a) "Push" 82 (.pointer a) w := meth_ptr (ti := (Try.prog.info? 76).getD default) (fun w => by kernel_rfl) (by kernel_rfl) Try.underlying76 (by kernel_rfl) a w
theorem m_pop (a : Option Addr) (w : World) : Meth Try.prog 76 (.pointer a) "Pop" 81 (.pointer a) w := meth_ptr (ti := (Try.prog.info? 76).getD default) (fun w => by kernel_rfl) (by kernel_rfl) Try.underlying76 (by kernel_rfl) a w
theorem blk_here {w0 w : World} {fp : List Nat} {H : List Asn} {b : Nat} {cells : List Value} {t : TypeId} (hw : Cl w0 fp H w) (h : blk b cells t ∈ H) : BlkAt b cells t w := (stb_blk hw h).here
theorem half_t (j : Nat) : ((j : Int) - 1).tdiv 2 = ((j - 1) / 2 : Nat) := by
  cases j with
  | zero => decide
  | succ j =>
    rw [Int.tdiv_eq_ediv_of_nonneg (by omega)]
    omega
theorem chOk_perm {w : World} {bs : List Nat} {l l' : List Itm} (h : ChOk w bs l) (hp : l'.Perm l) : ChOk w bs l' := fun x hx => h x (hp.mem_iff.1 hx)
theorem up_spec (b : Nat) (sq : SlV) (l : List Itm) (j : Nat) (hj : j < l.length) (hl : l.length ≤ 1000000000) (hup : UpOk Itm.lt l j) (w : World) (bs : List Nat) (hs : Sep [blk b [sq.v] 81, ownL 79 sq.v l] w bs) (hn : bs.Nodup) (hlt : ∀ b ∈ bs, b < w.heap.size) (hch : ChOk w bs l) : Calls Try.prog 55 #[.iface 76 (.pointer (some ⟨b, 0, none⟩)), .int .i64 j] w fun e w' => ∃ l' : List Itm, e = .returned (.tuple #[]) ∧ (l'.Perm l ∧ HeapN Itm.lt l' l'.length) ∧ Cl w bs [blk b [sq.v] 81, ownL 79 sq.v l'] w' := by
  refine calls_cw (vs := [_, _]) Try.func55 rfl Try.ntmps55 rfl (Cl.start hs hn hlt) (cw_block ?_)
  refine cw_loop (S := Nat × List Itm) (fun y => [(0, [], .iface 76 (.pointer (some ⟨b, 0, none⟩))), (1, [], .int .i64 y.1)]) (fun y => Cl w bs [blk b [sq.v] 81, ownL 79 sq.v y.2]) (fun y => y.1 < y.2.length ∧ y.2.Perm l ∧ UpOk Itm.lt y.2 y.1) (fun y => y.1) (j, l) ⟨hj, .refl _, hup⟩ (by (repeat first | exact Le.nil | refine Le.cons rfl ?_ | refine Le.cons' rfl (by congr 1; first | omega | (simp only; omega)) ?_)) (fun _ h => h) ?_
  rintro ⟨k, m⟩ ⟨hk, hm, hu⟩
  dsimp only at hk hm hu ⊢
  have hml := hm.length_eq
  have hchm := chOk_perm hch hm
  refine cw_block (cw_seq (cw_region (sr rfl rfl rfl ((q_move rfl rfl)) ?_)))
  refine sr rfl rfl rfl ((q_sub rfl rfl rfl (by intro hc; first | omega | (simp only [List.length_set, List.length_append, List.length_cons, List.length_nil, List.length_replicate, List.length_take, List.length_drop, List.length_map]; omega) | (simp only [AllT.iff, List.all_cons, List.all_nil, id, Bool.and_eq_true, Bool.not_eq_true', decide_eq_true_eq, decide_eq_false_iff_not, and_true] at hc; first | omega | (simp only [List.length_set, List.length_append, List.length_cons, List.length_nil, List.length_replicate, List.length_take, List.length_drop, List.length_map]; omega)) | (exfalso; simp_all [AllT]; done)))) ?_
  refine sr rfl rfl rfl ((q_quo_t rfl rfl rfl (by intro hc; first | omega | (simp only [List.length_set, List.length_append, List.length_cons, List.length_nil, List.length_replicate, List.length_take, List.length_drop, List.length_map]; omega) | (simp only [AllT.iff, List.all_cons, List.all_nil, id, Bool.and_eq_true, Bool.not_eq_true', decide_eq_true_eq, decide_eq_false_iff_not, and_true] at hc; first | omega | (simp only [List.length_set, List.length_append, List.length_cons, List.length_nil, List.length_replicate, List.length_take, List.length_drop, List.length_map]; omega)) | (exfalso; simp_all [AllT]; done)))) ?_
  refine sr rfl rfl rfl ((q_assign rfl rfl)) (sw_nil (post_then (cw_seq (cw_seq (cw_region (sr rfl rfl rfl ((q_move rfl rfl)) (sr rfl rfl rfl ((q_move rfl rfl)) (sr rfl rfl rfl ((q_eql rfl rfl rfl)) (sr rfl rfl rfl ((q_move rfl rfl)) (sr rfl rfl rfl ((q_move rfl rfl)) (sr rfl rfl rfl ((q_move rfl rfl)) (sr rfl rfl rfl ((q_move rfl rfl)) ?_))))))))))))
  rw [half_t k]
  have hle : (k - 1) / 2 ≤ k := by omega
  refine sw_step rfl rfl rfl (q_inv (CanCall.mk Try.call80) rfl rfl (.cons rfl inferInstance (.cons rfl inferInstance (.nil))) (fun w hw => m_less (blk_here hw (by first | assumption | (repeat first | exact .head _ | apply List.Mem.tail)))) (fun _ w hw => callq hw (less_spec sq m k ((k - 1) / 2) w (stb_own hw (by first | assumption | (repeat first | exact .head _ | apply List.Mem.tail))) hk (by omega) (hchm.arg hw)))) ?_
  refine sr rfl rfl rfl ((q_not rfl rfl)) (sr rfl rfl rfl ((q_or2 rfl rfl rfl)) (sw_nil (post_then ?_)))
  refine cw_cond rfl (fun h => ?_) (fun h => ?_)
  · skip
    have h1 : k = 0 ∨ Itm.lt (nth m k) (nth m ((k - 1) / 2)) = false := by
      simp only [Bool.or_eq_true, decide_eq_true_eq, Bool.not_eq_true'] at h
      rcases h with h | h
      · left; omega
      · exact .inr h
    refine cw_exit (post_then_x (post_blk_ne rfl (post_then_x (post_blk_eq (post_end0 rfl ?_)))))
    exact fun w' hw => ⟨m, rfl, ⟨hm, up_stop hu h1⟩, hw⟩
  · skip
    have h1 : 0 < k ∧ Itm.lt (nth m k) (nth m ((k - 1) / 2)) = true := by
      simp only [Bool.or_eq_false_iff, decide_eq_false_iff_not, Bool.not_eq_false'] at h
      exact ⟨by omega, h.2⟩
    refine cw_skip (post_then (cw_seq (cw_region (sr rfl rfl rfl ((q_move rfl rfl)) (sr rfl rfl rfl ((q_move rfl rfl)) (sr rfl rfl rfl ((q_move rfl rfl)) ?_))))))
    refine sw_x rfl rfl rfl (e_invH (A := [ownL 79 sq.v m]) (F := [blk b [sq.v] 81]) (CanCall.mk Try.call83) rfl rfl (.cons rfl inferInstance (.cons rfl inferInstance (.nil))) (fun w hw => m_swap (blk_here hw (by first | assumption | (repeat first | exact .head _ | apply List.Mem.tail)))) (.swap _ _ _) (fun w bs k1 k2 k3 k4 k5 => swap_spec sq m ((k - 1) / 2) k (by omega) hk w bs k1 k2 k3)) (fun u21 => ?_)
    refine sw_imp fun _ => (sw_nil (post_then (cw_region (sr rfl rfl rfl ((q_move rfl rfl)) (sr rfl rfl rfl ((q_assign rfl rfl)) (sw_nil (post_blk ?_)))))))
    exact post_next ((k - 1) / 2, swp m ((k - 1) / 2) k) (by (repeat first | exact Le.nil | refine Le.cons rfl ?_ | refine Le.cons' rfl (by congr 1; first | omega | (simp only; omega)) ?_)) (fun w h => Cl.sel (by (repeat first | exact Sel.nil _ | refine Sel.take 0 rfl ?_ | refine Sel.take 1 rfl ?_ | refine Sel.take 2 rfl ?_ | refine Sel.take 3 rfl ?_ | refine Sel.take 4 rfl ?_ | refine Sel.take 5 rfl ?_ | refine Sel.take 6 rfl ?_ | refine Sel.take 7 rfl ?_ | refine Sel.take 8 rfl ?_ | refine Sel.take 9 rfl ?_ | refine Sel.take 10 rfl ?_ | refine Sel.take 11 rfl ?_)) w h) ⟨by simp only [swp_len]; omega, (swp_perm m (by omega) hk).trans hm, up_step itm_tot hk h1.1 hu h1.2⟩ (by simp only; omega)
theorem lt_irr (x : Itm) : Itm.lt x x = false := by
  cases h : Itm.lt x x
  · rfl
  · have := itm_tot.anti _ _ h; rw [h] at this; cases this
theorem down_spec (b : Nat) (sq : SlV) (l : List Itm) (n : Nat) (hn0 : n ≤ l.length) (hl : l.length ≤ 1000000000) (hd : DownOk Itm.lt l 0 n) (w : World) (bs : List Nat) (hs : Sep [blk b [sq.v] 81, ownL 79 sq.v l] w bs) (hn : bs.Nodup) (hlt : ∀ b ∈ bs, b < w.heap.size) (hch : ChOk w bs l) : Calls Try.prog 52 #[.iface 76 (.pointer (some ⟨b, 0, none⟩)), .int .i64 0, .int .i64 n] w fun e w' => ∃ x : Bool × List Itm, e = .returned (.bool x.1) ∧ (x.2.Perm l ∧ HeapN Itm.lt x.2 n ∧ ∀ k, n ≤ k → nth x.2 k = nth l k) ∧ Cl w bs [blk b [sq.v] 81, ownL 79 sq.v x.2] w' := by
  refine calls_cw (vs := [_, _, _]) Try.func52 rfl Try.ntmps52 rfl (Cl.start hs hn hlt) (cw_seq (cw_region (sr rfl rfl rfl ((q_assign rfl rfl)) (sw_nil (post_then (cw_seq (cw_region (sr rfl rfl rfl ((q_move rfl rfl)) (sr rfl rfl rfl ((q_assign rfl rfl)) (sw_nil (post_then (cw_seq (cw_block ?_)))))))))))))
  refine cw_loop (S := Nat × List Itm) (fun y => [(0, [], .iface 76 (.pointer (some ⟨b, 0, none⟩))), (1, [], .int .i64 0), (2, [], .int .i64 n), (7, [], .int .i64 y.1)]) (fun y => Cl w bs [blk b [sq.v] 81, ownL 79 sq.v y.2]) (fun y => (y.1 = 0 ∨ y.1 < n) ∧ y.2.Perm l ∧ DownOk Itm.lt y.2 y.1 n ∧ ∀ k, n ≤ k → nth y.2 k = nth l k) (fun y => n - y.1) (0, l) ⟨.inl rfl, .refl _, hd, fun _ _ => rfl⟩ (by (repeat first | exact Le.nil | refine Le.cons rfl ?_ | refine Le.cons' rfl (by congr 1; first | omega | (simp only; omega)) ?_)) (fun _ h => h) ?_
  rintro ⟨i, m⟩ ⟨hi, hm, hdn, hrest⟩
  dsimp only at hi hm hdn hrest ⊢
  have hml := hm.length_eq
  have hchm := chOk_perm hch hm
  refine cw_block (cw_seq (cw_region (sr rfl rfl rfl ((q_move rfl rfl)) ?_)))
  refine sr rfl rfl rfl ((q_mul rfl rfl rfl (by intro hc; first | omega | (simp only [List.length_set, List.length_append, List.length_cons, List.length_nil, List.length_replicate, List.length_take, List.length_drop, List.length_map]; omega) | (simp only [AllT.iff, List.all_cons, List.all_nil, id, Bool.and_eq_true, Bool.not_eq_true', decide_eq_true_eq, decide_eq_false_iff_not, and_true] at hc; first | omega | (simp only [List.length_set, List.length_append, List.length_cons, List.length_nil, List.length_replicate, List.length_take, List.length_drop, List.length_map]; omega)) | (exfalso; simp_all [AllT]; done)))) ?_
  refine sr rfl rfl rfl ((q_add rfl rfl rfl (by intro hc; first | omega | (simp only [List.length_set, List.length_append, List.length_cons, List.length_nil, List.length_replicate, List.length_take, List.length_drop, List.length_map]; omega) | (simp only [AllT.iff, List.all_cons, List.all_nil, id, Bool.and_eq_true, Bool.not_eq_true', decide_eq_true_eq, decide_eq_false_iff_not, and_true] at hc; first | omega | (simp only [List.length_set, List.length_append, List.length_cons, List.length_nil, List.length_replicate, List.length_take, List.length_drop, List.length_map]; omega)) | (exfalso; simp_all [AllT]; done)))) ?_
  refine sr rfl rfl rfl ((q_assign rfl rfl)) (sw_nil (post_then (cw_seq (cw_seq (cw_region (sr rfl rfl rfl ((q_move rfl rfl)) (sr rfl rfl rfl ((q_move rfl rfl)) (sr rfl rfl rfl ((q_geq rfl rfl rfl)) (sr rfl rfl rfl ((q_move rfl rfl)) (sr rfl rfl rfl ((q_move rfl rfl)) (sr rfl rfl rfl ((q_lss rfl rfl rfl)) (sr rfl rfl rfl ((q_or2 rfl rfl rfl)) (sw_nil (post_then ?_))))))))))))))
  refine cw_cond rfl (fun h => ?_) (fun h => ?_)
  · skip
    have h1 : n ≤ 2 * i + 1 := by simp only [Bool.or_eq_true, decide_eq_true_eq] at h; omega
    refine cw_exit (post_then_x (post_blk_ne rfl (post_then_x (post_blk_eq (post_then (cw_seq (cw_region (sr rfl rfl rfl ((q_move rfl rfl)) (sr rfl rfl rfl ((q_move rfl rfl)) (sr rfl rfl rfl ((q_gtr rfl rfl rfl)) (sr rfl rfl rfl ((q_assign rfl rfl)) (sw_nil (post_then (cw_ret (post_ret1 rfl (resOk_tmp rfl) ?_)))))))))))))))
    exact fun w' hw => ⟨(_, m), rfl, ⟨hm, down_stop hdn (fun k k0 hk hp => by omega), hrest⟩, hw⟩
  · skip
    have h1 : 2 * i + 1 < n := by simp only [Bool.or_eq_false_iff, decide_eq_false_iff_not] at h; omega
    refine cw_skip (post_then (cw_seq (cw_region (sr rfl rfl rfl ((q_move rfl rfl)) (sr rfl rfl rfl ((q_assign rfl rfl)) (sw_nil (post_then (cw_seq (cw_seq (cw_region (sr rfl rfl rfl ((q_move rfl rfl)) ?_)))))))))))
    refine sr rfl rfl rfl ((q_add rfl rfl rfl (by intro hc; first | omega | (simp only [List.length_set, List.length_append, List.length_cons, List.length_nil, List.length_replicate, List.length_take, List.length_drop, List.length_map]; omega) | (simp only [AllT.iff, List.all_cons, List.all_nil, id, Bool.and_eq_true, Bool.not_eq_true', decide_eq_true_eq, decide_eq_false_iff_not, and_true] at hc; first | omega | (simp only [List.length_set, List.length_append, List.length_cons, List.length_nil, List.length_replicate, List.length_take, List.length_drop, List.length_map]; omega)) | (exfalso; simp_all [AllT]; done)))) ?_
    refine sr rfl rfl rfl ((q_assign rfl rfl)) (sw_nil (post_then (cw_seq (cw_region (sr rfl rfl rfl ((q_move rfl rfl)) (sr rfl rfl rfl ((q_move rfl rfl)) (sr rfl rfl rfl ((q_lss rfl rfl rfl)) (sr rfl rfl rfl ((q_move rfl rfl)) (sr rfl rfl rfl ((q_move rfl rfl)) (sr rfl rfl rfl ((q_move rfl rfl)) (sr rfl rfl rfl ((q_move rfl rfl)) ?_)))))))))))
    have e1 : ((2 : Int) * i + 1) = ((2 * i + 1 : Nat) : Int) := by omega
    have e2 : ((2 : Int) * i + 1 + 1) = ((2 * i + 2 : Nat) : Int) := by omega
    have hlt1 : ∀ {cs : List Bool}, cs = [decide ((2 : Int) * i + 1 + 1 < n)] → AllT cs → 2 * i + 2 < n := fun hcs hc => by
      have := hc _ (by rw [hcs]; exact .head _)
      simp only [decide_eq_true_eq] at this; omega
    refine sw_step rfl rfl rfl (q_inv (v := .bool (Itm.lt (nth m (2 * i + 2)) (nth m (2 * i + 1)))) (CanCall.mk Try.call80) rfl rfl (.cons rfl inferInstance (.cons rfl inferInstance (.nil))) (fun w hw => m_less (blk_here hw (by first | assumption | (repeat first | exact .head _ | apply List.Mem.tail)))) (fun hc w hw => callq hw (by have hh := hlt1 rfl hc; rw [e2, e1]; exact less_spec sq m (2 * i + 2) (2 * i + 1) w (stb_own hw (by first | assumption | (repeat first | exact .head _ | apply List.Mem.tail))) (by omega) (by omega) (hchm.arg hw)))) ?_
    refine sr rfl rfl rfl ((q_and2 rfl rfl rfl)) (sw_nil (post_then ?_))
    refine cw_cut (S := Nat) (fun j => [(0, [], .iface 76 (.pointer (some ⟨b, 0, none⟩))), (1, [], .int .i64 0), (2, [], .int .i64 n), (7, [], .int .i64 i), (9, [], .int .i64 j)]) (fun _ => Cl w bs [blk b [sq.v] 81, ownL 79 sq.v m]) (fun j => j < n ∧ 0 < j ∧ (j - 1) / 2 = i ∧ ∀ k, 0 < k → k < n → (k - 1) / 2 = i → Itm.lt (nth m k) (nth m j) = false) ?_ ?_
    · refine cw_cond rfl (fun h2 => ?_) (fun h2 => ?_)
      · skip
        have h3 : 2 * i + 2 < n ∧ Itm.lt (nth m (2 * i + 2)) (nth m (2 * i + 1)) = true := by
          simp only [Bool.and_eq_true, decide_eq_true_eq] at h2
          exact ⟨by omega, h2.2⟩
        refine cw_region (sr rfl rfl rfl ((q_move rfl rfl)) (sr rfl rfl rfl ((q_assign rfl rfl)) (sw_nil ?_)))
        refine post_meet (2 * i + 2) (by (repeat first | exact Le.nil | refine Le.cons rfl ?_ | refine Le.cons' rfl (by congr 1; first | omega | (simp only; omega)) ?_)) (fun _ h => h) ⟨h3.1, by omega, by omega, fun k k0 hk hp => ?_⟩
        by_cases hk1 : k = 2 * i + 1
        · rw [hk1]; exact itm_tot.anti _ _ h3.2
        · have : k = 2 * i + 2 := by omega
          rw [this]; exact lt_irr _
      · skip
        have h3 : 2 * i + 2 < n → Itm.lt (nth m (2 * i + 2)) (nth m (2 * i + 1)) = false := by
          intro hh
          have hh2 : ((2 : Int) * i + 1 + 1 < n) := by omega
          simpa [hh2] using h2
        refine cw_skip ?_
        refine post_meet (2 * i + 1) (by (repeat first | exact Le.nil | refine Le.cons rfl ?_ | refine Le.cons' rfl (by congr 1; first | omega | (simp only; omega)) ?_)) (fun _ h => h) ⟨h1, by omega, by omega, fun k k0 hk hp => ?_⟩
        by_cases hk1 : k = 2 * i + 1
        · rw [hk1]; exact lt_irr _
        · have : k = 2 * i + 2 := by omega
          rw [this]; exact h3 (by omega)
    · rintro j ⟨hj1, hj2, hj3, hj4⟩
      refine post_then (cw_seq (cw_seq (cw_region (sr rfl rfl rfl ((q_move rfl rfl)) (sr rfl rfl rfl ((q_move rfl rfl)) (sr rfl rfl rfl ((q_move rfl rfl)) ?_))))))
      refine sw_step rfl rfl rfl (q_inv (CanCall.mk Try.call80) rfl rfl (.cons rfl inferInstance (.cons rfl inferInstance (.nil))) (fun w hw => m_less (blk_here hw (by first | assumption | (repeat first | exact .head _ | apply List.Mem.tail)))) (fun _ w hw => callq hw (less_spec sq m j i w (stb_own hw (by first | assumption | (repeat first | exact .head _ | apply List.Mem.tail))) (by omega) (by omega) (hchm.arg hw)))) ?_
      refine sr rfl rfl rfl ((q_not rfl rfl)) (sw_nil (post_then ?_))
      refine cw_cond rfl (fun h5 => ?_) (fun h5 => ?_)
      · skip
        have h6 : Itm.lt (nth m j) (nth m i) = false := by simpa using h5
        refine cw_exit (post_then_x (post_blk_ne rfl (post_then_x (post_blk_eq (post_then (cw_seq (cw_region (sr rfl rfl rfl ((q_move rfl rfl)) (sr rfl rfl rfl ((q_move rfl rfl)) (sr rfl rfl rfl ((q_gtr rfl rfl rfl)) (sr rfl rfl rfl ((q_assign rfl rfl)) (sw_nil (post_then (cw_ret (post_ret1 rfl (resOk_tmp rfl) ?_)))))))))))))))
        exact fun w' hw => ⟨(_, m), rfl, ⟨hm, down_stop hdn (fun k k0 hk hp => itm_tot.tr _ _ _ h6 (hj4 k k0 hk hp)), hrest⟩, hw⟩
      · skip
        have h6 : Itm.lt (nth m j) (nth m i) = true := by simpa using h5
        refine cw_skip (post_then (cw_seq (cw_region (sr rfl rfl rfl ((q_move rfl rfl)) (sr rfl rfl rfl ((q_move rfl rfl)) (sr rfl rfl rfl ((q_move rfl rfl)) ?_))))))
        refine sw_x rfl rfl rfl (e_invH (A := [ownL 79 sq.v m]) (F := [blk b [sq.v] 81]) (CanCall.mk Try.call83) rfl rfl (.cons rfl inferInstance (.cons rfl inferInstance (.nil))) (fun w hw => m_swap (blk_here hw (by first | assumption | (repeat first | exact .head _ | apply List.Mem.tail)))) (.swap _ _ _) (fun w bs k1 k2 k3 k4 k5 => swap_spec sq m i j (by omega) (by omega) w bs k1 k2 k3)) (fun u43 => ?_)
        refine sw_imp fun _ => (sw_nil (post_then (cw_region (sr rfl rfl rfl ((q_move rfl rfl)) (sr rfl rfl rfl ((q_assign rfl rfl)) (sw_nil (post_blk ?_)))))))
        exact post_next (j, swp m i j) (by (repeat first | exact Le.nil | refine Le.cons rfl ?_ | refine Le.cons' rfl (by congr 1; first | omega | (simp only; omega)) ?_)) (fun w h => Cl.sel (by (repeat first | exact Sel.nil _ | refine Sel.take 0 rfl ?_ | refine Sel.take 1 rfl ?_ | refine Sel.take 2 rfl ?_ | refine Sel.take 3 rfl ?_ | refine Sel.take 4 rfl ?_ | refine Sel.take 5 rfl ?_ | refine Sel.take 6 rfl ?_ | refine Sel.take 7 rfl ?_ | refine Sel.take 8 rfl ?_ | refine Sel.take 9 rfl ?_ | refine Sel.take 10 rfl ?_ | refine Sel.take 11 rfl ?_)) w h) ⟨.inr hj1, (swp_perm m (by omega) (by omega)).trans hm, down_step itm_tot (by omega) hj1 hj2 hj3 hdn hj4 h6, fun k hk => by rw [swp_nth m (by omega) (by omega), if_neg (by omega), if_neg (by omega)]; exact hrest k hk⟩ (by simp only; omega)
end Go.Proofs.Ytomjbfeafodfbaa

set_option autoImplicit false
set_option maxRecDepth 100000
namespace Go.Proofs.Ytomjbfeafodfbaa
open Go.Sx
open Enc (enc val)
theorem hpush_spec (b : Nat) (sq : SlV) (l : List Itm) (x : Itm) (hl : l.length + 1 ≤ 1000000000) (hh : HeapN Itm.lt l l.length) (w : World) (bs : List Nat) (hs : Sep [blk b [sq.v] 81, ownL 79 sq.v l] w bs) (hn : bs.Nodup) (hlt : ∀ b ∈ bs, b < w.heap.size) (hch : ChOk w bs (l ++ [x])) :
    Calls Try.prog 35 #[.iface 76 (.pointer (some ⟨b, 0, none⟩)), .iface 79 (val x)] w fun e w' => ∃ y : SlV × List Itm, e = .returned (.tuple #[]) ∧ (y.2.Perm (l ++ [x]) ∧ HeapN Itm.lt y.2 y.2.length) ∧ Cl w bs [blk b [y.1.v] 81, ownL 79 y.1.v y.2] w' := by
  refine calls_cw (vs := [_, _]) Try.func35 rfl Try.ntmps35 rfl (Cl.start hs hn hlt) (cw_seq (cw_region (sr rfl rfl rfl ((q_move rfl rfl)) (sr rfl rfl rfl ((q_move rfl rfl)) ?_))))
  refine sw_x rfl rfl rfl (e_invH (A := [blk b [sq.v] 81, ownL 79 sq.v l]) (F := []) (CanCall.mk Try.call82) rfl rfl (.cons rfl inferInstance (.nil)) (fun w hw => m_push _ w) (.refl _) (fun w bs k1 k2 k3 k4 k5 => qpush_spec b sq l x (by omega) w bs k1 k2 k3)) (fun s6 => ?_)
  refine sw_imp fun _ => (sw_nil (post_then (cw_region (sr rfl rfl rfl ((q_move rfl rfl)) (sr rfl rfl rfl ((q_move rfl rfl)) ?_)))))
  refine sw_step rfl rfl rfl (q_inv (CanCall.mk Try.call79) rfl rfl (.nil) (fun w hw => m_len (blk_here hw (by first | assumption | (repeat first | exact .head _ | apply List.Mem.tail)))) (fun _ w hw => callq hw (qlen_spec s6 (l ++ [x]) w (stb_own hw (by first | assumption | (repeat first | exact .head _ | apply List.Mem.tail)))))) ?_
  have e1 : (((l ++ [x]).length : Nat) : Int) - 1 = (l.length : Nat) := by simp
  refine sr rfl rfl rfl ((q_sub rfl rfl rfl (by intro hc; first | omega | (simp only [List.length_set, List.length_append, List.length_cons, List.length_nil, List.length_replicate, List.length_take, List.length_drop, List.length_map]; omega) | (simp only [AllT.iff, List.all_cons, List.all_nil, id, Bool.and_eq_true, Bool.not_eq_true', decide_eq_true_eq, decide_eq_false_iff_not, and_true] at hc; first | omega | (simp only [List.length_set, List.length_append, List.length_cons, List.length_nil, List.length_replicate, List.length_take, List.length_drop, List.length_map]; omega)) | (exfalso; simp_all [AllT]; done)))) ?_
  rw [e1]
  refine sw_x rfl rfl rfl (e_callH (A := [blk b [s6.v] 81, ownL 79 s6.v (l ++ [x])]) (F := []) (CanCall.mk Try.call55) rfl rfl (.cons rfl inferInstance (.cons rfl inferInstance (.nil))) (.refl _) (fun w bs k1 k2 k3 k4 k5 => up_spec b s6 (l ++ [x]) l.length (by simp) (by simpa using hl) (up_push itm_tot hh x) w bs k1 k2 k3 (fun z hz => ⟨k4 _ (hch z hz).1, (hch z hz).2⟩))) (fun l11 => ?_)
  refine sw_imp fun hl11 => (sw_nil (post_end0 rfl ?_))
  exact fun w' hw => ⟨(s6, l11), rfl, hl11, hw⟩
theorem hpop_spec (b : Nat) (sq : SlV) (l : List Itm) (h0 : 0 < l.length) (hl : l.length ≤ 1000000000) (hh : HeapN Itm.lt l l.length) (w : World) (bs : List Nat) (hs : Sep [blk b [sq.v] 81, ownL 79 sq.v l] w bs) (hn : bs.Nodup) (hlt : ∀ b ∈ bs, b < w.heap.size) (hch : ChOk w bs l) :
    Calls Try.prog 32 #[.iface 76 (.pointer (some ⟨b, 0, none⟩))] w fun e w' => ∃ y : Itm × (SlV × List Itm), e = .returned (.iface 79 (val y.1)) ∧ (l.Perm (y.1 :: y.2.2) ∧ HeapN Itm.lt y.2.2 y.2.2.length ∧ ∀ z ∈ y.2.2, Itm.lt z y.1 = false) ∧ Cl w bs [blk b [y.2.1.v] 81, ownL 79 y.2.1.v y.2.2] w' := by
  have e1 : (l.length : Int) - 1 = ((l.length - 1 : Nat) : Int) := by omega
  refine calls_cw (vs := [_]) Try.func32 rfl Try.ntmps32 rfl (Cl.start hs hn hlt) (cw_seq (cw_region (sr rfl rfl rfl ((q_assign rfl rfl)) (sw_nil (post_then (cw_seq (cw_region (sr rfl rfl rfl ((q_move rfl rfl)) ?_))))))))
  refine sw_step rfl rfl rfl (q_inv (CanCall.mk Try.call79) rfl rfl (.nil) (fun w hw => m_len (blk_here hw (by first | assumption | (repeat first | exact .head _ | apply List.Mem.tail)))) (fun _ w hw => callq hw (qlen_spec sq l w (stb_own hw (by first | assumption | (repeat first | exact .head _ | apply List.Mem.tail)))))) ?_
  refine sr rfl rfl rfl ((q_sub rfl rfl rfl (by intro hc; first | omega | (simp only [List.length_set, List.length_append, List.length_cons, List.length_nil, List.length_replicate, List.length_take, List.length_drop, List.length_map]; omega) | (simp only [AllT.iff, List.all_cons, List.all_nil, id, Bool.and_eq_true, Bool.not_eq_true', decide_eq_true_eq, decide_eq_false_iff_not, and_true] at hc; first | omega | (simp only [List.length_set, List.length_append, List.length_cons, List.length_nil, List.length_replicate, List.length_take, List.length_drop, List.length_map]; omega)) | (exfalso; simp_all [AllT]; done)))) ?_
  refine sr rfl rfl rfl ((q_assign rfl rfl)) (sw_nil (post_then (cw_seq (cw_region (sr rfl rfl rfl ((q_move rfl rfl)) (sr rfl rfl rfl ((q_move rfl rfl)) ?_))))))
  rw [e1]
  refine sw_x rfl rfl rfl (e_invH (A := [ownL 79 sq.v l]) (F := [blk b [sq.v] 81]) (CanCall.mk Try.call83) rfl rfl (.cons rfl inferInstance (.cons rfl inferInstance (.nil))) (fun w hw => m_swap (blk_here hw (by first | assumption | (repeat first | exact .head _ | apply List.Mem.tail)))) (.swap _ _ _) (fun w bs k1 k2 k3 k4 k5 => swap_spec sq l 0 (l.length - 1) h0 (by omega) w bs k1 k2 k3)) (fun u9 => ?_)
  refine sw_imp fun _ => ?_
  have hsp := swp_perm l h0 (show l.length - 1 < l.length by omega)
  refine sw_nil (post_then (cw_seq (cw_region (sr rfl rfl rfl ((q_move rfl rfl)) (sr rfl rfl rfl ((q_move rfl rfl)) ?_)))))
  refine sw_x rfl rfl rfl (e_callH (A := [blk b [sq.v] 81, ownL 79 sq.v (swp l 0 (l.length - 1))]) (F := []) (CanCall.mk Try.call52) rfl rfl (.cons rfl inferInstance (.cons rfl inferInstance (.cons rfl inferInstance (.nil)))) (.swap _ _ _) (fun w bs k1 k2 k3 k4 k5 => down_spec b sq (swp l 0 (l.length - 1)) (l.length - 1) (by rw [swp_len]; omega) (by rw [swp_len]; omega) (down_begin hh (by omega)) w bs k1 k2 k3 (fun z hz => ⟨k4 _ (hch z (hsp.mem_iff.1 hz)).1, (hch z (hsp.mem_iff.1 hz)).2⟩))) (fun y12 => ?_)
  refine sw_imp fun hy => ?_
  obtain ⟨c12, m⟩ := y12
  obtain ⟨hm1, hm2, hm3⟩ := hy
  dsimp only at hm1 hm2 hm3 ⊢
  have hml : m.length = l.length := by rw [hm1.length_eq, swp_len]
  have hlast : nth m (m.length - 1) = nth l 0 := by
    rw [hml, hm3 _ (Nat.le_refl _), swp_nth l h0 (by omega), if_pos rfl]
  refine sw_nil (post_then (cw_seq (cw_region (sr rfl rfl rfl ((q_move rfl rfl)) ?_))))
  refine sw_x rfl rfl rfl (e_invH (A := [blk b [sq.v] 81, ownL 79 sq.v m]) (F := []) (CanCall.mk Try.call81) rfl rfl (.nil) (fun w hw => m_pop _ w) (.refl _) (fun w bs k1 k2 k3 k4 k5 => qpop_spec b sq m (by omega) (by omega) w bs k1 k2 k3)) (fun s14 => ?_)
  refine sw_imp fun _ => (sr rfl rfl rfl ((q_assign rfl rfl)) (sw_nil (post_then (cw_ret (post_ret1 rfl (resOk_tmp rfl) ?_)))))
  refine fun w' hw => ⟨(nth m (m.length - 1), (s14, m.take (m.length - 1))), rfl, ⟨?_, ?_, ?_⟩, hw⟩
  · refine ((hm1.trans hsp).symm).trans ?_
    have hd : m = m.take (m.length - 1) ++ [nth m (m.length - 1)] := by
      have h2 : m.drop (m.length - 1) = [nth m (m.length - 1)] := by
        rw [List.drop_eq_getElem_cons (by omega), nth_get (by omega), List.drop_of_length_le (by omega)]
      rw [← h2, List.take_append_drop]
    refine (List.Perm.of_eq hd).trans ?_
    exact List.perm_append_singleton _ _
  · have hlen : (m.take (m.length - 1)).length = l.length - 1 := by rw [List.length_take]; omega
    intro k k0 hk
    simp only at hk ⊢
    rw [hlen] at hk
    have e2 : ∀ q, q < l.length - 1 → nth (m.take (m.length - 1)) q = nth m q := fun q hq => by
      rw [nth_get (by rw [hlen]; exact hq), nth_get (by omega), List.getElem_take]
    rw [e2 k hk, e2 _ (by omega)]
    exact hm2 k k0 hk
  · intro z hz
    simp only at hz ⊢
    rw [hlast]
    have hz2 : z ∈ l := (hm1.trans hsp).mem_iff.1 (List.mem_of_mem_take hz)
    obtain ⟨i, hi, rfl⟩ := List.getElem_of_mem hz2
    rw [← nth_get hi]
    exact heap_min itm_tot hh i hi
end Go.Proofs.Ytomjbfeafodfbaa
