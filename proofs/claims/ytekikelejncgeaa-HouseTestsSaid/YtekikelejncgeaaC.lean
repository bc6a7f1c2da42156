import Derived.Test.YtekikelejncgeaaB
set_option autoImplicit false
set_option linter.unusedSimpArgs false
set_option linter.unusedVariables false
set_option maxRecDepth 100000
namespace Go.Proofs.Ytekikelejncgeaa
open Go.Sx
open Enc (enc val)

/-! ### where two waves differ -/
def byAt (a b : List Int) (i : Nat) : Option Int :=
  if i < a.length ∧ i < b.length then (if nth a i = nth b i then none else some (max (nth a i - nth b i) (nth b i - nth a i))) else some 0
def chgStep (d : Int) (out : List Change) (i : Nat) (y : Int) : List Change :=
  if 0 < out.length ∧ (i : Int) - ((nth out (out.length - 1)).to - 1) ≤ d then
    out.set (out.length - 1) ⟨(nth out (out.length - 1)).fr, i + 1, max (nth out (out.length - 1)).most y⟩
  else out ++ [⟨i, i + 1, y⟩]
def chgTo (a b : List Int) (d : Int) : Nat → List Change
  | 0 => []
  | k + 1 => match byAt a b k with
    | none => chgTo a b d k
    | some y => chgStep d (chgTo a b d k) k y
def changes (a b : List Int) (d : Int) : List Change := chgTo a b d (max a.length b.length)

theorem nth_set {α : Type} [Inhabited α] (l : List α) (i j : Nat) (x : α) (h : i < l.length) : nth (l.set i x) j = if j = i then x else nth l j := by
  simp only [nth, List.getD, List.getElem?_set]
  by_cases e : j = i
  · subst e; simp [h]
  · have : ¬ i = j := fun h => e h.symm
    simp [e, this]
theorem nth_append_l {α : Type} [Inhabited α] (l r : List α) (j : Nat) (h : j < l.length) : nth (l ++ r) j = nth l j := by
  simp [nth, List.getD, List.getElem?_append_left h]
theorem nth_append_r {α : Type} [Inhabited α] (l : List α) (x : α) : nth (l ++ [x]) l.length = x := by simp [nth, List.getD]
theorem nth_out {α : Type} [Inhabited α] (l : List α) (j : Nat) (h : l.length ≤ j) : nth l j = default := by simp [nth, List.getD, List.getElem?_eq_none h]

theorem chgTo_bd (a b : List Int) (d : Int) : ∀ k, (chgTo a b d k).length ≤ k ∧ ∀ j, 0 ≤ (nth (chgTo a b d k) j).to ∧ (nth (chgTo a b d k) j).to ≤ k
  | 0 => by simp [chgTo, nth]; decide
  | k + 1 => by
    obtain ⟨h1, h2⟩ := chgTo_bd a b d k
    simp only [chgTo]
    split
    · exact ⟨by omega, fun j => by have := h2 j; omega⟩
    · rename_i y _
      unfold chgStep
      split
      · rename_i hc
        refine ⟨by rw [List.length_set]; omega, fun j => ?_⟩
        rw [nth_set _ _ _ _ (by omega)]
        split
        · simp only; omega
        · have := h2 j; omega
      · refine ⟨by simp; omega, fun j => ?_⟩
        by_cases hj : j < (chgTo a b d k).length
        · rw [nth_append_l _ _ _ hj]; have := h2 j; omega
        · by_cases hj' : j = (chgTo a b d k).length
          · rw [hj', nth_append_r]; simp only; omega
          · rw [nth_out _ _ (by simp; omega)]; exact ⟨by decide, by show (0 : Int) ≤ _; omega⟩
theorem okS_nth {a : List Int} (h : okS a = true) (j : Nat) : -32768 ≤ nth a j ∧ nth a j ≤ 32767 := by
  by_cases hj : j < a.length
  · have := List.all_eq_true.1 h _ (List.getElem_mem hj)
    rw [nth_get hj]
    simpa [inB] using this
  · rw [nth_out _ _ (by omega)]; exact ⟨by decide, by decide⟩
theorem rows2 {P : Nat → Prop} (h0 : P 0) (h1 : P 1) : ∀ i, i < 2 → P i := fun i hi => by
  rcases (show i = 0 ∨ i = 1 by omega) with rfl | rfl
  · exact h0
  · exact h1

def inR (x : Int) : Prop := -9223372036854775808 ≤ x ∧ x ≤ 9223372036854775807

theorem refChanges_spec (sa sb : SlV) (a b : List Int) (d : Int) (w : World) (ha : Stb w [] (RdL sa.v a)) (hb : Stb w [] (RdL sb.v b)) (oa : okS a = true) (ob : okS b = true) (la : a.length ≤ 100000) (lb : b.length ≤ 100000) :
    Calls Try.prog 25 #[sa.v, sb.v, .int .i64 d] w fun e w' => ∃ s : SlV, e = .returned s.v ∧ True ∧ Cl w [] [ownL 44 s.v (changes a b d)] w' := by
  refine calls_cw (vs := [_, _, _]) Try.func25 rfl Try.ntmps25 rfl (Cl.start0 w) ?_
  refine cw_seq ?_
  -- region 0
  refine cw_region ?_
  refine sw_step rfl rfl rfl (OpR.q (q_assign rfl rfl)) ?_
  refine sw_nil ?_
  refine post_then ?_
  refine cw_seq ?_
  -- region 1
  refine cw_region ?_
  refine sw_step rfl rfl rfl (OpR.q (q_assign rfl rfl)) ?_
  refine sw_nil ?_
  refine post_then ?_
  refine cw_seq ?_
  refine cw_seq ?_
  -- region 2
  refine cw_region ?_
  refine sw_step rfl rfl rfl (OpR.q (q_assign rfl rfl)) ?_
  refine sw_nil ?_
  refine post_then ?_
  refine cw_block ?_
  -- STOP at: loop
  refine cw_loop (S := Nat × SlV) (fun x => [(0, [], sa.v), (1, [], sb.v), (2, [], .int .i64 d), (7, [], x.2.v), (8, [], .int .i64 x.1)]) (fun x => Cl w [] [ownL 44 x.2.v (chgTo a b d x.1)]) (fun x => x.1 ≤ max a.length b.length) (fun x => max a.length b.length - x.1) (0, ⟨none, 0, 0⟩) (by omega) (by exact .cons rfl (.cons rfl (.cons rfl (.cons rfl (.cons rfl .nil))))) (fun _ h => h.addNil (α := Change) 44) ?_
  rintro ⟨k, s⟩ hk
  simp only at hk
  obtain ⟨hn, hto⟩ := chgTo_bd a b d k
  have va := okS_nth oa k
  have vb := okS_nth ob k
  dsimp only
  refine cw_seq ?_
  refine cw_seq ?_
  -- region 3
  refine cw_region ?_
  refine sw_step rfl rfl rfl (OpR.q (q_move rfl rfl)) ?_
  refine sw_step rfl rfl rfl (OpR.q (q_move rfl rfl)) ?_
  refine sw_step rfl rfl rfl (OpR.q (q_len rfl (.cons rfl inferInstance (.nil)) (by exact fun w hw => Stb.cl (by assumption) hw))) ?_
  refine sw_step rfl rfl rfl (OpR.q (q_move rfl rfl)) ?_
  refine sw_step rfl rfl rfl (OpR.q (q_len rfl (.cons rfl inferInstance (.nil)) (by exact fun w hw => Stb.cl (by assumption) hw))) ?_
  refine sw_step rfl rfl rfl (OpR.q (q_max rfl (.cons rfl inferInstance (.cons rfl inferInstance (.nil))))) ?_
  refine sw_step rfl rfl rfl (OpR.q (q_lss rfl rfl rfl)) ?_
  refine sw_nil ?_
  refine post_then ?_
  -- STOP at: cond
  refine cw_cond rfl (fun h => ?_) (fun h => ?_)
  · skip
    have hk' : k < max a.length b.length := by simp only [decide_eq_true_eq] at h; omega
    refine cw_skip ?_
    refine post_then ?_
    refine cw_seq ?_
    refine cw_block ?_
    refine cw_seq ?_
    -- region 5
    refine cw_region ?_
    refine sw_step rfl rfl rfl (OpR.q (q_assign rfl rfl)) ?_
    refine sw_nil ?_
    refine post_then ?_
    refine cw_seq ?_
    refine cw_seq ?_
    -- region 6
    refine cw_region ?_
    refine sw_step rfl rfl rfl (OpR.q (q_move rfl rfl)) ?_
    refine sw_step rfl rfl rfl (OpR.q (q_move rfl rfl)) ?_
    refine sw_step rfl rfl rfl (OpR.q (q_len rfl (.cons rfl inferInstance (.nil)) (by exact fun w hw => Stb.cl (by assumption) hw))) ?_
    refine sw_step rfl rfl rfl (OpR.q (q_lss rfl rfl rfl)) ?_
    refine sw_step rfl rfl rfl (OpR.q (q_move rfl rfl)) ?_
    refine sw_step rfl rfl rfl (OpR.q (q_move rfl rfl)) ?_
    refine sw_step rfl rfl rfl (OpR.q (q_move rfl rfl)) ?_
    refine sw_step rfl rfl rfl (OpR.q (q_len rfl (.cons rfl inferInstance (.nil)) (by exact fun w hw => Stb.cl (by assumption) hw))) ?_
    refine sw_step rfl rfl rfl (OpR.q (q_lss rfl rfl rfl)) ?_
    refine sw_step rfl rfl rfl (OpR.q (q_and2 rfl rfl rfl)) ?_
    refine sw_nil ?_
    refine post_then ?_
    -- STOP at: cond
    refine cw_cut (S := Int) (fun y => [(0, [], sa.v), (1, [], sb.v), (2, [], .int .i64 d), (7, [], s.v), (8, [], .int .i64 k), (9, [], .int .i64 y)]) (fun _ => Cl w [] [ownL 44 s.v (chgTo a b d k)]) (fun y => byAt a b k = some y) ?_ ?_
    · refine cw_cond rfl (fun h2 => ?_) (fun h2 => ?_)
      · skip
        have h3 : k < a.length ∧ k < b.length := by simp at h2; exact h2
        refine cw_seq ?_
        refine cw_seq ?_
        -- region 7
        refine cw_region_q mixed_Try (by kernel_rfl) ?_
        refine qw_step rfl rfl rfl (OpR.q (q_move rfl rfl)) ?_
        refine qw_step rfl rfl rfl (OpR.q (q_move rfl rfl)) ?_
        refine qw_step rfl rfl rfl (OpR.q (q_indexN rfl rfl rfl (by exact fun w hw => Stb.cl (by assumption) hw) (by intro hc; omega))) ?_
        refine qw_step rfl rfl rfl (OpR.q (q_loadEl rfl rfl rfl (by exact fun w hw => Stb.cl (by assumption) hw) (by intro hc; omega))) ?_
        refine qw_step rfl rfl rfl (OpR.q (q_move rfl rfl)) ?_
        refine qw_step rfl rfl rfl (OpR.q (q_move rfl rfl)) ?_
        refine qw_step rfl rfl rfl (OpR.q (q_indexN rfl rfl rfl (by exact fun w hw => Stb.cl (by assumption) hw) (by intro hc; omega))) ?_
        refine qw_step rfl rfl rfl (OpR.q (q_loadEl rfl rfl rfl (by exact fun w hw => Stb.cl (by assumption) hw) (by intro hc; omega))) ?_
        refine qw_step rfl rfl rfl (OpR.q (q_eql rfl rfl rfl)) ?_
        refine qw_end ?_
        refine post_then ?_
        -- STOP at: cond
        refine cw_cond rfl (fun h4 => ?_) (fun h4 => ?_)
        · skip
          have h5 : byAt a b k = none := by simp only [decide_eq_true_eq] at h4; simp [byAt, h3, h4]
          refine cw_exit ?_
          refine post_then_x ?_
          refine post_then_x ?_
          refine post_then_x ?_
          refine post_blk_eq ?_
          refine post_then ?_
          -- region 4
          refine cw_region ?_
          refine sw_step rfl rfl rfl (OpR.q (q_move rfl rfl)) ?_
          refine sw_step rfl rfl rfl (OpR.q (q_add rfl rfl rfl (by intro hc; omega))) ?_
          refine sw_step rfl rfl rfl (OpR.q (q_assign rfl rfl)) ?_
          refine sw_nil ?_
          exact post_next (k + 1, s) (by exact .cons rfl (.cons rfl (.cons rfl (.cons rfl (.cons rfl .nil))))) (fun w h => by simp only [chgTo, h5]; exact h) (by simp only; omega) (by simp only; omega)
        · skip
          have h5 : byAt a b k = some (max (nth a k - nth b k) (nth b k - nth a k)) := by simp only [decide_eq_false_iff_not] at h4; simp [byAt, h3, h4]
          refine cw_skip ?_
          refine post_then ?_
          -- region 8
          refine cw_region_q mixed_Try (by kernel_rfl) ?_
          refine qw_step rfl rfl rfl (OpR.q (q_move rfl rfl)) ?_
          refine qw_step rfl rfl rfl (OpR.q (q_move rfl rfl)) ?_
          refine qw_step rfl rfl rfl (OpR.q (q_indexN rfl rfl rfl (by exact fun w hw => Stb.cl (by assumption) hw) (by intro hc; omega))) ?_
          refine qw_step rfl rfl rfl (OpR.q (q_loadEl rfl rfl rfl (by exact fun w hw => Stb.cl (by assumption) hw) (by intro hc; omega))) ?_
          refine qw_step rfl rfl rfl (OpR.q (q_move rfl rfl)) ?_
          refine qw_step rfl rfl rfl (OpR.q (q_move rfl rfl)) ?_
          refine qw_step rfl rfl rfl (OpR.q (q_indexN rfl rfl rfl (by exact fun w hw => Stb.cl (by assumption) hw) (by intro hc; omega))) ?_
          refine qw_step rfl rfl rfl (OpR.q (q_loadEl rfl rfl rfl (by exact fun w hw => Stb.cl (by assumption) hw) (by intro hc; omega))) ?_
          refine qw_step rfl rfl rfl (OpR.q (q_sub rfl rfl rfl (by intro hc; omega))) ?_
          refine qw_step rfl rfl rfl (OpR.q (q_move rfl rfl)) ?_
          refine qw_step rfl rfl rfl (OpR.q (q_move rfl rfl)) ?_
          refine qw_step rfl rfl rfl (OpR.q (q_indexN rfl rfl rfl (by exact fun w hw => Stb.cl (by assumption) hw) (by intro hc; omega))) ?_
          refine qw_step rfl rfl rfl (OpR.q (q_loadEl rfl rfl rfl (by exact fun w hw => Stb.cl (by assumption) hw) (by intro hc; omega))) ?_
          refine qw_step rfl rfl rfl (OpR.q (q_move rfl rfl)) ?_
          refine qw_step rfl rfl rfl (OpR.q (q_move rfl rfl)) ?_
          refine qw_step rfl rfl rfl (OpR.q (q_indexN rfl rfl rfl (by exact fun w hw => Stb.cl (by assumption) hw) (by intro hc; omega))) ?_
          refine qw_step rfl rfl rfl (OpR.q (q_loadEl rfl rfl rfl (by exact fun w hw => Stb.cl (by assumption) hw) (by intro hc; omega))) ?_
          refine qw_step rfl rfl rfl (OpR.q (q_sub rfl rfl rfl (by intro hc; omega))) ?_
          refine qw_step rfl rfl rfl (OpR.q (q_max rfl (.cons rfl inferInstance (.cons rfl inferInstance (.nil))))) ?_
          refine qw_step rfl rfl rfl (OpR.q (q_assign rfl rfl)) ?_
          refine qw_end ?_
          exact post_meet _ (by exact .cons rfl (.cons rfl (.cons rfl (.cons rfl (.cons rfl (.cons rfl .nil)))))) (fun _ h => h) h5
      · skip
        have h5 : byAt a b k = some 0 := by
          unfold byAt
          rw [if_neg]
          intro h6
          simp at h2
          omega
        refine cw_skip ?_
        exact post_meet 0 (by exact .cons rfl (.cons rfl (.cons rfl (.cons rfl (.cons rfl (.cons rfl .nil)))))) (fun _ h => h) h5
    · intro y hy
      refine post_then ?_
      have hl := hto ((((chgTo a b d k).length : Int) - 1).toNat)
      have hj : (((chgTo a b d k).length : Int) - 1).toNat = (chgTo a b d k).length - 1 := by omega
      refine cw_seq ?_
      -- region 9
      refine cw_region ?_
      refine sw_step rfl rfl rfl (OpR.q (q_move rfl rfl)) ?_
      refine sw_step rfl rfl rfl (OpR.q (q_len rfl (.cons rfl inferInstance (.nil)) (by exact fun w hw => rd_own hw (by exact .head _)))) ?_
      refine sw_step rfl rfl rfl (OpR.q (q_sub rfl rfl rfl (by intro hc; omega))) ?_
      refine sw_step rfl rfl rfl (OpR.q (q_assign rfl rfl)) ?_
      refine sw_nil ?_
      refine post_then ?_
      refine cw_seq ?_
      refine cw_seq ?_
      -- region 10
      refine cw_region ?_
      refine sw_step rfl rfl rfl (OpR.q (q_move rfl rfl)) ?_
      refine sw_step rfl rfl rfl (OpR.q (q_geq rfl rfl rfl)) ?_
      refine sw_step rfl rfl rfl (OpR.q (q_move rfl rfl)) ?_
      refine sw_step rfl rfl rfl (OpR.q (q_move rfl rfl)) ?_
      refine sw_step rfl rfl rfl (OpR.q (q_move rfl rfl)) ?_
      refine sw_step rfl rfl rfl (OpR.q (q_move rfl rfl)) ?_
      refine sw_step rfl rfl rfl (OpR.q (q_index rfl rfl rfl (by exact fun w hw => rd_own hw (by exact .head _)) (by intro hc; (simp only [AllT.iff, List.all_cons, List.all_nil, id, Bool.and_eq_true, Bool.not_eq_true', decide_eq_true_eq, decide_eq_false_iff_not, and_true] at hc; omega)))) ?_
      refine sw_step rfl rfl rfl (OpR.q (q_fieldEl rfl rfl (by exact fun w hw => rd_own hw (by exact .head _)) (by intro hc; (simp only [AllT.iff, List.all_cons, List.all_nil, id, Bool.and_eq_true, Bool.not_eq_true', decide_eq_true_eq, decide_eq_false_iff_not, and_true] at hc; omega)))) ?_
      refine sw_step rfl rfl rfl (OpR.q (q_loadF rfl rfl rfl (by exact fun w hw => rd_own hw (by exact .head _)) (by intro hc; (simp only [AllT.iff, List.all_cons, List.all_nil, id, Bool.and_eq_true, Bool.not_eq_true', decide_eq_true_eq, decide_eq_false_iff_not, and_true] at hc; omega)) rfl)) ?_
      refine sw_step rfl rfl rfl (OpR.q (q_sub rfl rfl rfl (by intro hc; omega))) ?_
      refine sw_step rfl rfl rfl (OpR.q (q_sub rfl rfl rfl (by intro hc; omega))) ?_
      refine sw_step rfl rfl rfl (OpR.q (q_move rfl rfl)) ?_
      refine sw_step rfl rfl rfl (OpR.q (q_leq rfl rfl rfl)) ?_
      refine sw_step rfl rfl rfl (OpR.q (q_and2 rfl rfl rfl)) ?_
      refine sw_nil ?_
      refine post_then ?_
      -- STOP at: cond
      refine cw_cond rfl (fun h6 => ?_) (fun h6 => ?_)
      · skip
        have h7 : 0 < (chgTo a b d k).length ∧ (k : Int) - ((nth (chgTo a b d k) ((chgTo a b d k).length - 1)).to - 1) ≤ d := by
          simp only [Bool.and_eq_true, decide_eq_true_eq] at h6
          rw [hj] at h6
          exact ⟨by omega, h6.2⟩
        refine cw_seq ?_
        -- region 11
        refine cw_region ?_
        refine sw_step rfl rfl rfl (OpR.q (q_move rfl rfl)) ?_
        refine sw_step rfl rfl rfl (OpR.q (q_move rfl rfl)) ?_
        refine sw_step rfl rfl rfl (OpR.q (q_move rfl rfl)) ?_
        refine sw_step rfl rfl rfl (OpR.q (q_add rfl rfl rfl (by intro hc; omega))) ?_
        refine sw_step rfl rfl rfl (OpR.q (q_index rfl rfl rfl (by exact fun w hw => rd_own hw (by exact .head _)) (by intro hc; omega))) ?_
        refine sw_step rfl rfl rfl (OpR.q (q_fieldEl rfl rfl (by exact fun w hw => rd_own hw (by exact .head _)) (by intro hc; omega))) ?_
        -- STOP at: -    := store 3 t80 t78 :0
        refine sw_eff0 rfl rfl (e_storeEl (i := 0) (u := (⟨(nth (chgTo a b d k) ((chgTo a b d k).length - 1)).fr, (k : Int) + 1, (nth (chgTo a b d k) ((chgTo a b d k).length - 1)).most⟩ : Change)) rfl rfl rfl rfl rfl rfl rfl rfl (by omega) (by rw [hj]; rfl) rfl) ?_
        refine sw_nil ?_
        refine post_then ?_
        refine cw_seq ?_
        -- region 12
        refine cw_region ?_
        refine sw_step rfl rfl rfl (OpR.q (q_move rfl rfl)) ?_
        refine sw_step rfl rfl rfl (OpR.q (q_move rfl rfl)) ?_
        refine sw_step rfl rfl rfl (OpR.q (q_move rfl rfl)) ?_
        refine sw_step rfl rfl rfl (OpR.q (q_move rfl rfl)) ?_
        refine sw_step rfl rfl rfl (OpR.q (q_index rfl rfl rfl (by exact fun w hw => rd_own hw (by exact .head _)) (by intro hc; (simp only [List.length_set, List.length_append, List.length_cons, List.length_nil, List.length_replicate, List.length_take, List.length_drop, List.length_map]; omega)))) ?_
        refine sw_step rfl rfl rfl (OpR.q (q_fieldEl rfl rfl (by exact fun w hw => rd_own hw (by exact .head _)) (by intro hc; (simp only [List.length_set, List.length_append, List.length_cons, List.length_nil, List.length_replicate, List.length_take, List.length_drop, List.length_map]; omega)))) ?_
        refine sw_step rfl rfl rfl (OpR.q (q_loadF rfl rfl rfl (by exact fun w hw => rd_own hw (by exact .head _)) (by intro hc; (simp only [List.length_set, List.length_append, List.length_cons, List.length_nil, List.length_replicate, List.length_take, List.length_drop, List.length_map]; omega)) rfl)) ?_
        refine sw_step rfl rfl rfl (OpR.q (q_move rfl rfl)) ?_
        refine sw_step rfl rfl rfl (OpR.q (q_max rfl (.cons rfl inferInstance (.cons rfl inferInstance (.nil))))) ?_
        refine sw_step rfl rfl rfl (OpR.q (q_index rfl rfl rfl (by exact fun w hw => rd_own hw (by exact .head _)) (by intro hc; (simp only [List.length_set, List.length_append, List.length_cons, List.length_nil, List.length_replicate, List.length_take, List.length_drop, List.length_map]; omega)))) ?_
        refine sw_step rfl rfl rfl (OpR.q (q_fieldEl rfl rfl (by exact fun w hw => rd_own hw (by exact .head _)) (by intro hc; (simp only [List.length_set, List.length_append, List.length_cons, List.length_nil, List.length_replicate, List.length_take, List.length_drop, List.length_map]; omega)))) ?_
        -- STOP at: -    := store 3 t91 t89 :0
        have e1 : nth ((chgTo a b d k).set (((chgTo a b d k).length : Int) - 1).toNat ⟨(nth (chgTo a b d k) ((chgTo a b d k).length - 1)).fr, (k : Int) + 1, (nth (chgTo a b d k) ((chgTo a b d k).length - 1)).most⟩) (((chgTo a b d k).length : Int) - 1).toNat = ⟨(nth (chgTo a b d k) ((chgTo a b d k).length - 1)).fr, (k : Int) + 1, (nth (chgTo a b d k) ((chgTo a b d k).length - 1)).most⟩ := by
          rw [nth_set _ _ _ _ (by omega), if_pos rfl]
        refine sw_eff0 rfl rfl (e_storeEl (i := 0) (u := (⟨(nth (chgTo a b d k) ((chgTo a b d k).length - 1)).fr, (k : Int) + 1, max (nth (chgTo a b d k) ((chgTo a b d k).length - 1)).most y⟩ : Change)) rfl rfl rfl rfl rfl rfl rfl rfl (by rw [List.length_set]; omega) (by rw [e1]; rfl) rfl) ?_
        refine sw_nil ?_
        refine post_then ?_
        refine cw_exit ?_
        refine post_then_x ?_
        refine post_blk_eq ?_
        refine post_then ?_
        -- region 4
        refine cw_region ?_
        refine sw_step rfl rfl rfl (OpR.q (q_move rfl rfl)) ?_
        refine sw_step rfl rfl rfl (OpR.q (q_add rfl rfl rfl (by intro hc; omega))) ?_
        refine sw_step rfl rfl rfl (OpR.q (q_assign rfl rfl)) ?_
        refine sw_nil ?_
        refine post_next (k + 1, s) (by exact .cons rfl (.cons rfl (.cons rfl (.cons rfl (.cons rfl .nil))))) (fun w h => ?_) (by simp only; omega) (by simp only; omega)
        have e2 : chgTo a b d (k + 1) = ((chgTo a b d k).set (((chgTo a b d k).length : Int) - 1).toNat ⟨(nth (chgTo a b d k) ((chgTo a b d k).length - 1)).fr, (k : Int) + 1, (nth (chgTo a b d k) ((chgTo a b d k).length - 1)).most⟩).set (((chgTo a b d k).length : Int) - 1).toNat ⟨(nth (chgTo a b d k) ((chgTo a b d k).length - 1)).fr, (k : Int) + 1, max (nth (chgTo a b d k) ((chgTo a b d k).length - 1)).most y⟩ := by
          simp only [chgTo, hy, chgStep, if_pos h7, hj, List.set_set]
        simp only [e2]
        exact h
      · skip
        have h7 : ¬ (0 < (chgTo a b d k).length ∧ (k : Int) - ((nth (chgTo a b d k) ((chgTo a b d k).length - 1)).to - 1) ≤ d) := by
          intro h8
          rw [hj] at h6
          simp only [Bool.and_eq_false_iff, decide_eq_false_iff_not] at h6
          omega
        refine cw_skip ?_
        refine post_then ?_
        -- region 13
        refine cw_region ?_
        refine sw_step rfl rfl rfl (OpR.q (q_move rfl rfl)) ?_
        refine sw_step rfl rfl rfl (OpR.q (q_move rfl rfl)) ?_
        refine sw_step rfl rfl rfl (OpR.q (q_move rfl rfl)) ?_
        refine sw_step rfl rfl rfl (OpR.q (q_add rfl rfl rfl (by intro hc; omega))) ?_
        refine sw_step rfl rfl rfl (OpR.q (q_move rfl rfl)) ?_
        refine sw_step rfl rfl rfl (OpR.q (q_build rfl (.cons rfl inferInstance (.cons rfl inferInstance (.cons rfl inferInstance (.nil)))) rfl)) ?_
        -- STOP at: t98  := buildSlice 39 1 [<0, t97>] :39
        refine sw_x rfl rfl rfl (e_build1 (x := (⟨k, k + 1, y⟩ : Change)) rfl rfl rfl rfl) (fun s98 => ?_)
        refine sw_x rfl rfl rfl (e_append (i := 1) rfl (.cons rfl inferInstance (.cons rfl inferInstance (.nil))) rfl rfl (by exact fun w hw => rd_own hw (by exact .head _)) (by simp only [List.length_set, List.length_append, List.length_cons, List.length_nil, List.length_replicate, List.length_take, List.length_drop, List.length_map]; omega) rfl) (fun s99 => ?_)
        refine sw_step rfl rfl rfl (OpR.q (q_assign rfl rfl)) ?_
        refine sw_nil ?_
        refine post_blk ?_
        refine post_then ?_
        -- region 4
        refine cw_region ?_
        refine sw_step rfl rfl rfl (OpR.q (q_move rfl rfl)) ?_
        refine sw_step rfl rfl rfl (OpR.q (q_add rfl rfl rfl (by intro hc; omega))) ?_
        refine sw_step rfl rfl rfl (OpR.q (q_assign rfl rfl)) ?_
        refine sw_nil ?_
        refine post_next (k + 1, s99) (by exact .cons rfl (.cons rfl (.cons rfl (.cons rfl (.cons rfl .nil))))) (fun w h => ?_) (by simp only; omega) (by simp only; omega)
        have e2 : chgTo a b d (k + 1) = chgTo a b d k ++ [⟨k, k + 1, y⟩] := by
          simp only [chgTo, hy, chgStep, if_neg h7]
        simp only [e2]
        exact h.tail
  · skip
    have hk' : k = max a.length b.length := by simp only [decide_eq_false_iff_not] at h; omega
    subst hk'
    refine cw_exit ?_
    refine post_then_x ?_
    refine post_then_x ?_
    refine post_blk_eq ?_
    refine post_then ?_
    refine cw_seq ?_
    -- region 14
    refine cw_region ?_
    refine sw_step rfl rfl rfl (OpR.q (q_move rfl rfl)) ?_
    refine sw_step rfl rfl rfl (OpR.q (q_assign rfl rfl)) ?_
    refine sw_nil ?_
    refine post_then ?_
    refine cw_ret ?_
    refine post_ret1 rfl (resOk_tmp rfl) ?_
    exact fun w' hw => ⟨s, rfl, trivial, hw⟩
theorem wave2_ok {a b : List Int} (h : waveE [a, b] = 0) : okS a = true ∧ okS b = true ∧ a.length ≤ 100000 ∧ b.length ≤ 100000 := by
  unfold waveE at h
  split at h
  · simp at h
  · rename_i h1
    split at h
    · rename_i h2
      simp at h1 h2
      exact ⟨h2.1, h2.2, h1.1, h1.2⟩
    · simp at h
/-- The error of house.Changes. -/
def chgErr (a b : List Int) (d : Int) : Int := if waveE [a, b] ≠ 0 then waveE [a, b] else if inB d 1 100000 then 0 else 2
theorem changes_spec (sa sb : SlV) (a b : List Int) (d : Int) (w : World) (ha : Stb w [] (RdL sa.v a)) (hb : Stb w [] (RdL sb.v b)) :
    Calls Try.prog 23 #[sa.v, sb.v, .int .i64 d] w fun e w' => ∃ s : SlV, e = .returned (.tuple #[s.v, .int .i64 (chgErr a b d)]) ∧ True ∧ Cl w [] [ownL 44 s.v (if chgErr a b d = 0 then changes a b d else [])] w' := by
  refine calls_cw (vs := [_, _, _]) Try.func23 rfl Try.ntmps23 rfl (Cl.start0 w) ?_
  refine cw_seq ?_
  -- region 0
  refine cw_region ?_
  refine sw_step rfl rfl rfl (OpR.q (q_assign rfl rfl)) ?_
  refine sw_step rfl rfl rfl (OpR.q (q_assign rfl rfl)) ?_
  refine sw_nil ?_
  refine post_then ?_
  refine cw_seq ?_
  refine cw_seq ?_
  -- region 1
  refine cw_region ?_
  refine sw_step rfl rfl rfl (OpR.q (q_move rfl rfl)) ?_
  refine sw_step rfl rfl rfl (OpR.q (q_move rfl rfl)) ?_
  -- STOP at: t15  := buildSlice 65 2 [<0, t13>, <1, t14>] :65
  refine sw_x rfl rfl rfl (e_buildL (α := SlV) (l := [sa, sb]) rfl (.cons rfl inferInstance (.cons rfl inferInstance (.nil))) rfl rfl rfl rfl) (fun s15 => ?_)
  -- STOP at: t16  := call {callee=(value F62), args=[t15], argTypes=[65]} :26
  refine sw_step rfl rfl rfl (q_call (CanCall.mk Try.call62) rfl (.cons rfl inferInstance (.nil)) (fun _ w hw => callq hw (wave_spec _ [sa, sb] [a, b] w (by exact stb_own hw (by exact .head _)) rfl (rows2 (stb_arg hw ha) (stb_arg hw hb))))) ?_
  refine sw_step rfl rfl rfl (OpR.q (q_assign rfl rfl)) ?_
  refine sw_nil ?_
  refine post_then ?_
  refine cw_seq ?_
  -- region 2
  refine cw_region ?_
  refine sw_step rfl rfl rfl (OpR.q (q_move rfl rfl)) ?_
  refine sw_step rfl rfl rfl (OpR.q (q_neq rfl rfl rfl)) ?_
  refine sw_nil ?_
  refine post_then ?_
  -- STOP at: cond
  refine cw_cond rfl (fun h => ?_) (fun h => ?_)
  · skip
    have h1 : waveE [a, b] ≠ 0 := by simpa using h
    have h2 : chgErr a b d = waveE [a, b] := by simp [chgErr, h1]
    refine cw_seq ?_
    -- region 3
    refine cw_region ?_
    refine sw_step rfl rfl rfl (OpR.q (q_move rfl rfl)) ?_
    refine sw_step rfl rfl rfl (OpR.q (q_assign rfl rfl)) ?_
    refine sw_step rfl rfl rfl (OpR.q (q_assign rfl rfl)) ?_
    refine sw_nil ?_
    refine post_then ?_
    refine cw_ret ?_
    refine post_then_r ?_
    refine post_ret2 rfl (resOk_tmp rfl) (resOk_tmp rfl) ?_
    exact fun w' hw => ⟨⟨none, 0, 0⟩, by rw [h2]; rfl, trivial, by rw [h2, if_neg h1]; exact hw.tail.addNil 44⟩
  · skip
    have h1 : waveE [a, b] = 0 := by simpa using h
    obtain ⟨oa, ob, la, lb⟩ := wave2_ok h1
    refine cw_skip ?_
    refine post_then ?_
    refine cw_seq ?_
    refine cw_seq ?_
    -- region 4
    refine cw_region ?_
    refine sw_step rfl rfl rfl (OpR.q (q_move rfl rfl)) ?_
    refine sw_step rfl rfl rfl (q_call (CanCall.mk Try.call52) rfl (.cons rfl inferInstance (.cons rfl inferInstance (.cons rfl inferInstance (.nil)))) (fun _ w hw => callq hw (within_spec _ _ _ w))) ?_
    refine sw_step rfl rfl rfl (OpR.q (q_not rfl rfl)) ?_
    refine sw_nil ?_
    refine post_then ?_
    -- STOP at: cond
    refine cw_cond rfl (fun h3 => ?_) (fun h3 => ?_)
    · skip
      have h2 : chgErr a b d = 2 := by simp at h3; simp [chgErr, h1, h3]
      refine cw_seq ?_
      -- region 5
      refine cw_region ?_
      refine sw_step rfl rfl rfl (OpR.q (q_assign rfl rfl)) ?_
      refine sw_step rfl rfl rfl (OpR.q (q_assign rfl rfl)) ?_
      refine sw_nil ?_
      refine post_then ?_
      refine cw_ret ?_
      refine post_then_r ?_
      refine post_ret2 rfl (resOk_tmp rfl) (resOk_tmp rfl) ?_
      exact fun w' hw => ⟨⟨none, 0, 0⟩, by rw [h2]; rfl, trivial, by rw [h2, if_neg (by decide)]; exact hw.tail.addNil 44⟩
    · skip
      have h2 : chgErr a b d = 0 := by simp at h3; simp [chgErr, h1, h3]
      have hd : 1 ≤ d ∧ d ≤ 100000 := by simpa [inB] using h3
      refine cw_skip ?_
      refine post_then ?_
      refine cw_seq ?_
      -- region 6
      refine cw_region ?_
      refine sw_step rfl rfl rfl (OpR.q (q_assign rfl rfl)) ?_
      refine sw_nil ?_
      refine post_then ?_
      refine cw_seq ?_
      refine cw_seq ?_
      -- region 7
      refine cw_region ?_
      refine sw_step rfl rfl rfl (OpR.q (q_move rfl rfl)) ?_
      refine sw_step rfl rfl rfl (OpR.q (q_len rfl (.cons rfl inferInstance (.nil)) (by exact fun w hw => Stb.cl (by assumption) hw))) ?_
      refine sw_step rfl rfl rfl (OpR.q (q_move rfl rfl)) ?_
      refine sw_step rfl rfl rfl (OpR.q (q_len rfl (.cons rfl inferInstance (.nil)) (by exact fun w hw => Stb.cl (by assumption) hw))) ?_
      refine sw_step rfl rfl rfl (OpR.q (q_max rfl (.cons rfl inferInstance (.cons rfl inferInstance (.nil))))) ?_
      refine sw_step rfl rfl rfl (OpR.q (q_move rfl rfl)) ?_
      refine sw_nil ?_
      refine post_then ?_
      refine cw_block ?_
      -- STOP at: loop
      refine cw_loop (S := Nat × SlV) (fun x => [(0, [], sa.v), (1, [], sb.v), (2, [], .int .i64 d), (9, [], x.2.v), (27, [], .int .i64 (max (a.length : Int) b.length)), (28, [], .int .i64 x.1)]) (fun x => Cl w [] [ownL 44 x.2.v (chgTo a b d x.1)]) (fun x => x.1 ≤ max a.length b.length) (fun x => max a.length b.length - x.1) (0, ⟨none, 0, 0⟩) (by omega) (by exact .cons rfl (.cons rfl (.cons rfl (.cons rfl (.cons rfl (.cons rfl .nil)))))) (fun _ h => h.tail.addNil (α := Change) 44) ?_
      rintro ⟨k, s⟩ hk
      simp only at hk
      obtain ⟨hn, hto⟩ := chgTo_bd a b d k
      have va := okS_nth oa k
      have vb := okS_nth ob k
      dsimp only
      refine cw_seq ?_
      -- region 8
      refine cw_region ?_
      refine sw_step rfl rfl rfl (OpR.q (q_lss rfl rfl rfl)) ?_
      refine sw_nil ?_
      refine post_then ?_
      refine cw_seq ?_
      -- STOP at: cond
      refine cw_cond rfl (fun h => ?_) (fun h => ?_)
      · skip
        have hk' : k < max a.length b.length := by simp only [decide_eq_true_eq] at h; omega
        refine cw_skip ?_
        refine post_then ?_
        refine cw_seq ?_
        refine cw_block ?_
        refine cw_seq ?_
        -- region 9
        refine cw_region ?_
        refine sw_step rfl rfl rfl (OpR.q (q_move rfl rfl)) ?_
        refine sw_step rfl rfl rfl (OpR.q (q_assign rfl rfl)) ?_
        refine sw_nil ?_
        refine post_then ?_
        refine cw_seq ?_
        -- region 10
        refine cw_region ?_
        refine sw_step rfl rfl rfl (OpR.q (q_assign rfl rfl)) ?_
        refine sw_nil ?_
        refine post_then ?_
        refine cw_seq ?_
        refine cw_seq ?_
        -- region 11
        refine cw_region ?_
        refine sw_step rfl rfl rfl (OpR.q (q_move rfl rfl)) ?_
        refine sw_step rfl rfl rfl (OpR.q (q_move rfl rfl)) ?_
        refine sw_step rfl rfl rfl (OpR.q (q_len rfl (.cons rfl inferInstance (.nil)) (by exact fun w hw => Stb.cl (by assumption) hw))) ?_
        refine sw_step rfl rfl rfl (OpR.q (q_lss rfl rfl rfl)) ?_
        refine sw_step rfl rfl rfl (OpR.q (q_move rfl rfl)) ?_
        refine sw_step rfl rfl rfl (OpR.q (q_move rfl rfl)) ?_
        refine sw_step rfl rfl rfl (OpR.q (q_move rfl rfl)) ?_
        refine sw_step rfl rfl rfl (OpR.q (q_len rfl (.cons rfl inferInstance (.nil)) (by exact fun w hw => Stb.cl (by assumption) hw))) ?_
        refine sw_step rfl rfl rfl (OpR.q (q_lss rfl rfl rfl)) ?_
        refine sw_step rfl rfl rfl (OpR.q (q_and2 rfl rfl rfl)) ?_
        refine sw_nil ?_
        refine post_then ?_
        -- STOP at: cond
        refine cw_cut (S := Int) (fun y => [(0, [], sa.v), (1, [], sb.v), (2, [], .int .i64 d), (9, [], s.v), (10, [], .int .i64 k), (11, [], .int .i64 y), (27, [], .int .i64 (max (a.length : Int) b.length)), (28, [], .int .i64 k)]) (fun _ => Cl w [] [ownL 44 s.v (chgTo a b d k)]) (fun y => byAt a b k = some y) ?_ ?_
        · refine cw_cond rfl (fun h2 => ?_) (fun h2 => ?_)
          · skip
            have h3 : k < a.length ∧ k < b.length := by simp at h2; exact h2
            refine cw_seq ?_
            refine cw_seq ?_
            -- region 12
            refine cw_region_q mixed_Try (by kernel_rfl) ?_
            refine qw_step rfl rfl rfl (OpR.q (q_move rfl rfl)) ?_
            refine qw_step rfl rfl rfl (OpR.q (q_move rfl rfl)) ?_
            refine qw_step rfl rfl rfl (OpR.q (q_indexN rfl rfl rfl (by exact fun w hw => Stb.cl (by assumption) hw) (by intro hc; omega))) ?_
            refine qw_step rfl rfl rfl (OpR.q (q_loadEl rfl rfl rfl (by exact fun w hw => Stb.cl (by assumption) hw) (by intro hc; omega))) ?_
            refine qw_step rfl rfl rfl (OpR.q (q_move rfl rfl)) ?_
            refine qw_step rfl rfl rfl (OpR.q (q_move rfl rfl)) ?_
            refine qw_step rfl rfl rfl (OpR.q (q_indexN rfl rfl rfl (by exact fun w hw => Stb.cl (by assumption) hw) (by intro hc; omega))) ?_
            refine qw_step rfl rfl rfl (OpR.q (q_loadEl rfl rfl rfl (by exact fun w hw => Stb.cl (by assumption) hw) (by intro hc; omega))) ?_
            refine qw_step rfl rfl rfl (OpR.q (q_eql rfl rfl rfl)) ?_
            refine qw_end ?_
            refine post_then ?_
            -- STOP at: cond
            refine cw_cond rfl (fun h4 => ?_) (fun h4 => ?_)
            · skip
              have h5 : byAt a b k = none := by simp only [decide_eq_true_eq] at h4; simp [byAt, h3, h4]
              refine cw_exit ?_
              refine post_then_x ?_
              refine post_then_x ?_
              refine post_then_x ?_
              refine post_blk_eq ?_
              refine post_then ?_
              -- region 19
              refine cw_region ?_
              refine sw_step rfl rfl rfl (OpR.q (q_add rfl rfl rfl (by intro hc; omega))) ?_
              refine sw_step rfl rfl rfl (OpR.q (q_move rfl rfl)) ?_
              refine sw_nil ?_
              exact post_next (k + 1, s) (by exact .cons rfl (.cons rfl (.cons rfl (.cons rfl (.cons rfl (.cons rfl .nil)))))) (fun w h => by simp only [chgTo, h5]; exact h) (by simp only; omega) (by simp only; omega)
            · skip
              have h5 : byAt a b k = some (max (nth a k - nth b k) (nth b k - nth a k)) := by simp only [decide_eq_false_iff_not] at h4; simp [byAt, h3, h4]
              refine cw_skip ?_
              refine post_then ?_
              -- region 13
              refine cw_region_q mixed_Try (by kernel_rfl) ?_
              refine qw_step rfl rfl rfl (OpR.q (q_move rfl rfl)) ?_
              refine qw_step rfl rfl rfl (OpR.q (q_move rfl rfl)) ?_
              refine qw_step rfl rfl rfl (OpR.q (q_indexN rfl rfl rfl (by exact fun w hw => Stb.cl (by assumption) hw) (by intro hc; omega))) ?_
              refine qw_step rfl rfl rfl (OpR.q (q_loadEl rfl rfl rfl (by exact fun w hw => Stb.cl (by assumption) hw) (by intro hc; omega))) ?_
              refine qw_step rfl rfl rfl (OpR.q (q_move rfl rfl)) ?_
              refine qw_step rfl rfl rfl (OpR.q (q_move rfl rfl)) ?_
              refine qw_step rfl rfl rfl (OpR.q (q_indexN rfl rfl rfl (by exact fun w hw => Stb.cl (by assumption) hw) (by intro hc; omega))) ?_
              refine qw_step rfl rfl rfl (OpR.q (q_loadEl rfl rfl rfl (by exact fun w hw => Stb.cl (by assumption) hw) (by intro hc; omega))) ?_
              refine qw_step rfl rfl rfl (OpR.q (q_sub rfl rfl rfl (by intro hc; omega))) ?_
              refine qw_step rfl rfl rfl (OpR.q (q_move rfl rfl)) ?_
              refine qw_step rfl rfl rfl (OpR.q (q_move rfl rfl)) ?_
              refine qw_step rfl rfl rfl (OpR.q (q_indexN rfl rfl rfl (by exact fun w hw => Stb.cl (by assumption) hw) (by intro hc; omega))) ?_
              refine qw_step rfl rfl rfl (OpR.q (q_loadEl rfl rfl rfl (by exact fun w hw => Stb.cl (by assumption) hw) (by intro hc; omega))) ?_
              refine qw_step rfl rfl rfl (OpR.q (q_move rfl rfl)) ?_
              refine qw_step rfl rfl rfl (OpR.q (q_move rfl rfl)) ?_
              refine qw_step rfl rfl rfl (OpR.q (q_indexN rfl rfl rfl (by exact fun w hw => Stb.cl (by assumption) hw) (by intro hc; omega))) ?_
              refine qw_step rfl rfl rfl (OpR.q (q_loadEl rfl rfl rfl (by exact fun w hw => Stb.cl (by assumption) hw) (by intro hc; omega))) ?_
              refine qw_step rfl rfl rfl (OpR.q (q_sub rfl rfl rfl (by intro hc; omega))) ?_
              refine qw_step rfl rfl rfl (OpR.q (q_max rfl (.cons rfl inferInstance (.cons rfl inferInstance (.nil))))) ?_
              refine qw_step rfl rfl rfl (OpR.q (q_assign rfl rfl)) ?_
              refine qw_end ?_
              exact post_meet _ (by exact .cons rfl (.cons rfl (.cons rfl (.cons rfl (.cons rfl (.cons rfl (.cons rfl (.cons rfl .nil)))))))) (fun _ h => h) h5
          · skip
            have h5 : byAt a b k = some 0 := by
              unfold byAt
              rw [if_neg]
              intro h6
              simp at h2
              omega
            refine cw_skip ?_
            exact post_meet 0 (by exact .cons rfl (.cons rfl (.cons rfl (.cons rfl (.cons rfl (.cons rfl (.cons rfl (.cons rfl .nil)))))))) (fun _ h => h) h5
        · intro y hy
          refine post_then ?_
          have hl := hto ((((chgTo a b d k).length : Int) - 1).toNat)
          have hj : (((chgTo a b d k).length : Int) - 1).toNat = (chgTo a b d k).length - 1 := by omega
          refine cw_seq ?_
          refine cw_seq ?_
          -- region 14
          refine cw_region ?_
          refine sw_step rfl rfl rfl (OpR.q (q_move rfl rfl)) ?_
          refine sw_step rfl rfl rfl (OpR.q (q_len rfl (.cons rfl inferInstance (.nil)) (by exact fun w hw => rd_own hw (by exact .head _)))) ?_
          refine sw_step rfl rfl rfl (OpR.q (q_assign rfl rfl)) ?_
          refine sw_nil ?_
          refine post_then ?_
          refine cw_seq ?_
          -- region 15
          refine cw_region ?_
          refine sw_step rfl rfl rfl (OpR.q (q_move rfl rfl)) ?_
          refine sw_step rfl rfl rfl (OpR.q (q_gtr rfl rfl rfl)) ?_
          refine sw_step rfl rfl rfl (OpR.q (q_move rfl rfl)) ?_
          refine sw_step rfl rfl rfl (OpR.q (q_move rfl rfl)) ?_
          refine sw_step rfl rfl rfl (OpR.q (q_move rfl rfl)) ?_
          refine sw_step rfl rfl rfl (OpR.q (q_move rfl rfl)) ?_
          refine sw_step rfl rfl rfl (OpR.q (q_sub rfl rfl rfl (by intro hc; omega))) ?_
          refine sw_step rfl rfl rfl (OpR.q (q_index rfl rfl rfl (by exact fun w hw => rd_own hw (by exact .head _)) (by intro hc; (simp only [AllT.iff, List.all_cons, List.all_nil, id, Bool.and_eq_true, Bool.not_eq_true', decide_eq_true_eq, decide_eq_false_iff_not, and_true] at hc; omega)))) ?_
          refine sw_step rfl rfl rfl (OpR.q (q_fieldEl rfl rfl (by exact fun w hw => rd_own hw (by exact .head _)) (by intro hc; (simp only [AllT.iff, List.all_cons, List.all_nil, id, Bool.and_eq_true, Bool.not_eq_true', decide_eq_true_eq, decide_eq_false_iff_not, and_true] at hc; omega)))) ?_
          refine sw_step rfl rfl rfl (OpR.q (q_loadF rfl rfl rfl (by exact fun w hw => rd_own hw (by exact .head _)) (by intro hc; (simp only [AllT.iff, List.all_cons, List.all_nil, id, Bool.and_eq_true, Bool.not_eq_true', decide_eq_true_eq, decide_eq_false_iff_not, and_true] at hc; omega)) rfl)) ?_
          refine sw_step rfl rfl rfl (OpR.q (q_sub rfl rfl rfl (by intro hc; omega))) ?_
          refine sw_step rfl rfl rfl (OpR.q (q_sub rfl rfl rfl (by intro hc; omega))) ?_
          refine sw_step rfl rfl rfl (OpR.q (q_move rfl rfl)) ?_
          refine sw_step rfl rfl rfl (OpR.q (q_leq rfl rfl rfl)) ?_
          refine sw_step rfl rfl rfl (OpR.q (q_and2 rfl rfl rfl)) ?_
          refine sw_nil ?_
          refine post_then ?_
          -- STOP at: cond
          refine cw_cond rfl (fun h6 => ?_) (fun h6 => ?_)
          · skip
            have h7 : 0 < (chgTo a b d k).length ∧ (k : Int) - ((nth (chgTo a b d k) ((chgTo a b d k).length - 1)).to - 1) ≤ d := by
              simp only [Bool.and_eq_true, decide_eq_true_eq] at h6
              rw [hj] at h6
              exact ⟨by omega, h6.2⟩
            refine cw_seq ?_
            -- region 16
            refine cw_region ?_
            refine sw_step rfl rfl rfl (OpR.q (q_move rfl rfl)) ?_
            refine sw_step rfl rfl rfl (OpR.q (q_move rfl rfl)) ?_
            refine sw_step rfl rfl rfl (OpR.q (q_sub rfl rfl rfl (by intro hc; omega))) ?_
            refine sw_step rfl rfl rfl (OpR.q (q_move rfl rfl)) ?_
            refine sw_step rfl rfl rfl (OpR.q (q_add rfl rfl rfl (by intro hc; omega))) ?_
            refine sw_step rfl rfl rfl (OpR.q (q_index rfl rfl rfl (by exact fun w hw => rd_own hw (by exact .head _)) (by intro hc; omega))) ?_
            refine sw_step rfl rfl rfl (OpR.q (q_fieldEl rfl rfl (by exact fun w hw => rd_own hw (by exact .head _)) (by intro hc; omega))) ?_
            -- STOP at: -    := store 3 t92 t90 :0
            refine sw_eff0 rfl rfl (e_storeEl (i := 0) (u := (⟨(nth (chgTo a b d k) ((chgTo a b d k).length - 1)).fr, (k : Int) + 1, (nth (chgTo a b d k) ((chgTo a b d k).length - 1)).most⟩ : Change)) rfl rfl rfl rfl rfl rfl rfl rfl (by omega) (by rw [hj]; rfl) rfl) ?_
            refine sw_nil ?_
            refine post_then ?_
            refine cw_seq ?_
            -- region 17
            refine cw_region ?_
            refine sw_step rfl rfl rfl (OpR.q (q_move rfl rfl)) ?_
            refine sw_step rfl rfl rfl (OpR.q (q_move rfl rfl)) ?_
            refine sw_step rfl rfl rfl (OpR.q (q_sub rfl rfl rfl (by intro hc; omega))) ?_
            refine sw_step rfl rfl rfl (OpR.q (q_move rfl rfl)) ?_
            refine sw_step rfl rfl rfl (OpR.q (q_move rfl rfl)) ?_
            refine sw_step rfl rfl rfl (OpR.q (q_sub rfl rfl rfl (by intro hc; omega))) ?_
            refine sw_step rfl rfl rfl (OpR.q (q_index rfl rfl rfl (by exact fun w hw => rd_own hw (by exact .head _)) (by intro hc; (simp only [List.length_set, List.length_append, List.length_cons, List.length_nil, List.length_replicate, List.length_take, List.length_drop, List.length_map]; omega)))) ?_
            refine sw_step rfl rfl rfl (OpR.q (q_fieldEl rfl rfl (by exact fun w hw => rd_own hw (by exact .head _)) (by intro hc; (simp only [List.length_set, List.length_append, List.length_cons, List.length_nil, List.length_replicate, List.length_take, List.length_drop, List.length_map]; omega)))) ?_
            refine sw_step rfl rfl rfl (OpR.q (q_loadF rfl rfl rfl (by exact fun w hw => rd_own hw (by exact .head _)) (by intro hc; (simp only [List.length_set, List.length_append, List.length_cons, List.length_nil, List.length_replicate, List.length_take, List.length_drop, List.length_map]; omega)) rfl)) ?_
            refine sw_step rfl rfl rfl (OpR.q (q_move rfl rfl)) ?_
            refine sw_step rfl rfl rfl (OpR.q (q_max rfl (.cons rfl inferInstance (.cons rfl inferInstance (.nil))))) ?_
            refine sw_step rfl rfl rfl (OpR.q (q_index rfl rfl rfl (by exact fun w hw => rd_own hw (by exact .head _)) (by intro hc; (simp only [List.length_set, List.length_append, List.length_cons, List.length_nil, List.length_replicate, List.length_take, List.length_drop, List.length_map]; omega)))) ?_
            refine sw_step rfl rfl rfl (OpR.q (q_fieldEl rfl rfl (by exact fun w hw => rd_own hw (by exact .head _)) (by intro hc; (simp only [List.length_set, List.length_append, List.length_cons, List.length_nil, List.length_replicate, List.length_take, List.length_drop, List.length_map]; omega)))) ?_
            -- STOP at: -    := store 3 t105 t103 :0
            have e1 : nth ((chgTo a b d k).set (((chgTo a b d k).length : Int) - 1).toNat ⟨(nth (chgTo a b d k) ((chgTo a b d k).length - 1)).fr, (k : Int) + 1, (nth (chgTo a b d k) ((chgTo a b d k).length - 1)).most⟩) (((chgTo a b d k).length : Int) - 1).toNat = ⟨(nth (chgTo a b d k) ((chgTo a b d k).length - 1)).fr, (k : Int) + 1, (nth (chgTo a b d k) ((chgTo a b d k).length - 1)).most⟩ := by
              rw [nth_set _ _ _ _ (by omega), if_pos rfl]
            refine sw_eff0 rfl rfl (e_storeEl (i := 0) (u := (⟨(nth (chgTo a b d k) ((chgTo a b d k).length - 1)).fr, (k : Int) + 1, max (nth (chgTo a b d k) ((chgTo a b d k).length - 1)).most y⟩ : Change)) rfl rfl rfl rfl rfl rfl rfl rfl (by rw [List.length_set]; omega) (by rw [e1]; rfl) rfl) ?_
            refine sw_nil ?_
            refine post_then ?_
            refine cw_exit ?_
            refine post_then_x ?_
            refine post_blk_eq ?_
            refine post_then ?_
            -- region 19
            refine cw_region ?_
            refine sw_step rfl rfl rfl (OpR.q (q_add rfl rfl rfl (by intro hc; omega))) ?_
            refine sw_step rfl rfl rfl (OpR.q (q_move rfl rfl)) ?_
            refine sw_nil ?_
            refine post_next (k + 1, s) (by exact .cons rfl (.cons rfl (.cons rfl (.cons rfl (.cons rfl (.cons rfl .nil)))))) (fun w h => ?_) (by simp only; omega) (by simp only; omega)
            have e2 : chgTo a b d (k + 1) = ((chgTo a b d k).set (((chgTo a b d k).length : Int) - 1).toNat ⟨(nth (chgTo a b d k) ((chgTo a b d k).length - 1)).fr, (k : Int) + 1, (nth (chgTo a b d k) ((chgTo a b d k).length - 1)).most⟩).set (((chgTo a b d k).length : Int) - 1).toNat ⟨(nth (chgTo a b d k) ((chgTo a b d k).length - 1)).fr, (k : Int) + 1, max (nth (chgTo a b d k) ((chgTo a b d k).length - 1)).most y⟩ := by
              simp only [chgTo, hy, chgStep, if_pos h7, hj, List.set_set]
            simp only [e2]
            exact h
          · skip
            have h7 : ¬ (0 < (chgTo a b d k).length ∧ (k : Int) - ((nth (chgTo a b d k) ((chgTo a b d k).length - 1)).to - 1) ≤ d) := by
              intro h8
              rw [hj] at h6
              simp only [Bool.and_eq_false_iff, decide_eq_false_iff_not] at h6
              omega
            refine cw_skip ?_
            refine post_then ?_
            -- region 18
            refine cw_region ?_
            refine sw_step rfl rfl rfl (OpR.q (q_move rfl rfl)) ?_
            refine sw_step rfl rfl rfl (OpR.q (q_move rfl rfl)) ?_
            refine sw_step rfl rfl rfl (OpR.q (q_move rfl rfl)) ?_
            refine sw_step rfl rfl rfl (OpR.q (q_add rfl rfl rfl (by intro hc; omega))) ?_
            refine sw_step rfl rfl rfl (OpR.q (q_move rfl rfl)) ?_
            refine sw_step rfl rfl rfl (OpR.q (q_build rfl (.cons rfl inferInstance (.cons rfl inferInstance (.cons rfl inferInstance (.nil)))) rfl)) ?_
            -- STOP at: t112 := buildSlice 39 1 [<0, t111>] :39
            refine sw_x rfl rfl rfl (e_build1 (x := (⟨k, k + 1, y⟩ : Change)) rfl rfl rfl rfl) (fun s112 => ?_)
            refine sw_x rfl rfl rfl (e_append (i := 1) rfl (.cons rfl inferInstance (.cons rfl inferInstance (.nil))) rfl rfl (by exact fun w hw => rd_own hw (by exact .head _)) (by simp only [List.length_set, List.length_append, List.length_cons, List.length_nil, List.length_replicate, List.length_take, List.length_drop, List.length_map]; omega) rfl) (fun s113 => ?_)
            refine sw_step rfl rfl rfl (OpR.q (q_assign rfl rfl)) ?_
            refine sw_nil ?_
            refine post_blk ?_
            refine post_then ?_
            -- region 19
            refine cw_region ?_
            refine sw_step rfl rfl rfl (OpR.q (q_add rfl rfl rfl (by intro hc; omega))) ?_
            refine sw_step rfl rfl rfl (OpR.q (q_move rfl rfl)) ?_
            refine sw_nil ?_
            refine post_next (k + 1, s113) (by exact .cons rfl (.cons rfl (.cons rfl (.cons rfl (.cons rfl (.cons rfl .nil)))))) (fun w h => ?_) (by simp only; omega) (by simp only; omega)
            have e2 : chgTo a b d (k + 1) = chgTo a b d k ++ [⟨k, k + 1, y⟩] := by
              simp only [chgTo, hy, chgStep, if_neg h7]
            simp only [e2]
            exact h.tail
      · skip
        have hk' : k = max a.length b.length := by simp only [decide_eq_false_iff_not] at h; omega
        subst hk'
        refine cw_exit ?_
        refine post_then_x ?_
        refine post_then_x ?_
        refine post_blk_eq ?_
        refine post_then ?_
        refine cw_seq ?_
        -- region 20
        refine cw_region ?_
        refine sw_step rfl rfl rfl (OpR.q (q_move rfl rfl)) ?_
        refine sw_step rfl rfl rfl (OpR.q (q_assign rfl rfl)) ?_
        refine sw_step rfl rfl rfl (OpR.q (q_assign rfl rfl)) ?_
        refine sw_nil ?_
        refine post_then ?_
        refine cw_ret ?_
        refine post_ret2 rfl (resOk_tmp rfl) (resOk_tmp rfl) ?_
        exact fun w' hw => ⟨s, by rw [h2], trivial, by rw [h2, if_pos rfl]; exact hw⟩

end Go.Proofs.Ytekikelejncgeaa
