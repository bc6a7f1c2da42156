import Derived.Test.YtekikelejncgeaaT
set_option autoImplicit false
set_option linter.unusedSimpArgs false
set_option linter.unusedVariables false
set_option maxRecDepth 100000
namespace Go.Proofs.Ytekikelejncgeaa
open Go.Sx
open Enc (enc val)

theorem chgErr_eq (a b : List Int) (d : Int) : chgErr a b d = if 100000 < a.length ∨ 100000 < b.length then 4 else if okS a = true ∧ okS b = true ∧ 1 ≤ d ∧ d ≤ 100000 then 0 else 2 := by
  simp only [chgErr, waveE, List.any_cons, List.any_nil, List.all_cons, List.all_nil, Bool.or_false, Bool.and_true, Bool.or_eq_true, decide_eq_true_eq, Bool.and_eq_true, inB]
  by_cases h1 : 100000 < a.length ∨ 100000 < b.length
  · simp [h1]
  · simp only [h1, if_false]
    cases okS a <;> cases okS b <;> simp
theorem chgStep_ne (d : Int) (out : List Change) (i : Nat) (y : Int) : chgStep d out i y ≠ [] := by
  unfold chgStep
  split
  · rename_i h
    intro e
    have := congrArg List.length e
    simp only [List.length_set, List.length_nil] at this
    omega
  · simp
theorem chgTo_nil (a b : List Int) (d : Int) : ∀ k, chgTo a b d k = [] ↔ ∀ i, i < k → byAt a b i = none
  | 0 => by simp [chgTo]
  | k + 1 => by
    have ih := chgTo_nil a b d k
    simp only [chgTo]
    cases h : byAt a b k with
    | none =>
      simp only
      rw [ih]
      constructor
      · intro h1 i hi
        by_cases hik : i = k
        · rw [hik]; exact h
        · exact h1 i (by omega)
      · intro h1 i hi; exact h1 i (by omega)
    | some y =>
      simp only
      constructor
      · intro h1; exact absurd h1 (chgStep_ne _ _ _ _)
      · intro h1; have := h1 k (by omega); rw [h] at this; cases this
theorem changes_nil (a b : List Int) (d : Int) : (changes a b d).length = 0 ↔ a = b := by
  rw [List.length_eq_zero_iff, changes, chgTo_nil]
  constructor
  · intro h
    have hl : a.length = b.length := by
      rcases Nat.lt_trichotomy a.length b.length with hlt | heq | hlt
      · have := h a.length (by omega)
        simp only [byAt] at this
        rw [if_neg (by omega)] at this
        cases this
      · exact heq
      · have := h b.length (by omega)
        simp only [byAt] at this
        rw [if_neg (by omega)] at this
        cases this
    refine eq_of_nth hl fun i hi => ?_
    have := h i (by omega)
    simp only [byAt] at this
    rw [if_pos (by omega)] at this
    by_cases he : nth a i = nth b i
    · exact he
    · rw [if_neg he] at this; cases this
  · rintro rfl i hi
    simp [byAt]
    omega
theorem lawChanges (sa sb : SlV) (a b : List Int) (d : Int) (w : World) (ha : Stb w [] (RdL sa.v a)) (hb : Stb w [] (RdL sb.v b)) :
    Calls Try.prog 4 #[sa.v, sb.v, .int .i64 d] w fun e w' => e = .returned (.bool true) ∧ Cl w [] [] w' := by
  refine calls_cw (vs := [_, _, _]) Try.func4 rfl Try.ntmps4 rfl (Cl.start0 w) ?_
  refine cw_seq ?_
  -- region 0
  refine cw_region ?_
  refine sw_step rfl rfl rfl (OpR.q (q_assign rfl rfl)) ?_
  refine sw_nil ?_
  refine post_then ?_
  refine cw_seq ?_
  refine cw_seq ?_
  -- region 1
  refine cw_region ?_
  refine sw_step rfl rfl rfl (OpR.q (q_move rfl rfl)) ?_
  refine sw_step rfl rfl rfl (q_call (CanCall.mk Try.call22) rfl (.cons rfl inferInstance (.nil)) (fun _ w hw => callq hw (short_spec _ _ w (by first | exact stb_arg hw (by assumption) | exact stb_own hw (by first | assumption | (repeat first | exact .head _ | apply List.Mem.tail)))))) ?_
  refine sw_step rfl rfl rfl (OpR.q (q_not rfl rfl)) ?_
  refine sw_step rfl rfl rfl (OpR.q (q_move rfl rfl)) ?_
  refine sw_step rfl rfl rfl (OpR.q (q_move rfl rfl)) ?_
  refine sw_step rfl rfl rfl (q_call (CanCall.mk Try.call22) rfl (.cons rfl inferInstance (.nil)) (fun _ w hw => callq hw (short_spec _ _ w (by first | exact stb_arg hw (by assumption) | exact stb_own hw (by first | assumption | (repeat first | exact .head _ | apply List.Mem.tail)))))) ?_
  refine sw_step rfl rfl rfl (OpR.q (q_not rfl rfl)) ?_
  refine sw_step rfl rfl rfl (OpR.q (q_or2 rfl rfl rfl)) ?_
  refine sw_nil ?_
  refine post_then ?_
  -- STOP at: cond
  refine cw_cond rfl (fun h => ?_) (fun h => ?_)
  · skip
    refine cw_seq ?_
    -- region 2
    refine cw_region ?_
    refine sw_step rfl rfl rfl (q_call (CanCall.mk Try.call15) rfl (.nil) (fun _ w hw => callq hw (known_spec w))) ?_
    refine sw_step rfl rfl rfl (OpR.q (q_assign rfl rfl)) ?_
    refine sw_nil ?_
    refine post_then ?_
    refine cw_ret ?_
    refine post_then_r ?_
    refine post_ret1 rfl (resOk_tmp rfl) ?_
    exact fun w' hw => ⟨rfl, hw⟩
  · skip
    have hsh : (a.length ≤ 600 ∨ 100000 < a.length) ∧ (b.length ≤ 600 ∨ 100000 < b.length) := by
      simp at h; omega
    refine cw_skip ?_
    refine post_then ?_
    refine cw_seq ?_
    -- region 3
    refine cw_region ?_
    refine sw_step rfl rfl rfl (OpR.q (q_move rfl rfl)) ?_
    refine sw_step rfl rfl rfl (OpR.q (q_move rfl rfl)) ?_
    refine sw_step rfl rfl rfl (OpR.q (q_move rfl rfl)) ?_
    -- STOP at: t25  := call {callee=(value F23), args=[t22, t23, t24], argTypes=[37, 37, 3]} :40
    refine sw_x rfl rfl rfl (e_call (CanCall.mk Try.call23) rfl (.cons rfl inferInstance (.cons rfl inferInstance (.cons rfl inferInstance (.nil)))) (fun w hw => changes_spec sa sb a b d w (stb_arg hw ha) (stb_arg hw hb))) (fun s25 => ?_)
    refine sw_imp fun _ => ?_
    refine sw_step rfl rfl rfl (OpR.q (q_move rfl rfl)) ?_
    first | refine sw_step rfl rfl rfl (OpR.q (q_extract rfl rfl rfl)) ?_ | refine sw_step rfl rfl rfl (OpR.q (q_extract rfl rfl (nextV_0 _))) ?_
    first | refine sw_step rfl rfl rfl (OpR.q (q_extract rfl rfl rfl)) ?_ | refine sw_step rfl rfl rfl (OpR.q (q_extract rfl rfl (nextV_0 _))) ?_
    refine sw_step rfl rfl rfl (OpR.q (q_assign rfl rfl)) ?_
    refine sw_step rfl rfl rfl (OpR.q (q_assign rfl rfl)) ?_
    refine sw_nil ?_
    refine post_then ?_
    refine cw_seq ?_
    -- region 4
    refine cw_region ?_
    refine sw_step rfl rfl rfl (OpR.q (q_assign rfl rfl)) ?_
    refine sw_nil ?_
    refine post_then ?_
    refine cw_seq ?_
    refine cw_seq ?_
    -- region 5
    refine cw_region ?_
    refine sw_step rfl rfl rfl (OpR.q (q_move rfl rfl)) ?_
    first | refine sw_step rfl rfl rfl (OpR.q (q_len rfl (.cons rfl inferInstance (.nil)) (by first | exact fun w hw => Stb.cl (by assumption) hw | exact fun w hw => rd_own hw (by first | assumption | (repeat first | exact .head _ | apply List.Mem.tail))))) ?_ | refine sw_step rfl rfl rfl (OpR.q (q_lenV rfl (.cons rfl inferInstance (.nil)))) ?_
    refine sw_step rfl rfl rfl (OpR.q (q_gtr rfl rfl rfl)) ?_
    refine sw_step rfl rfl rfl (OpR.q (q_move rfl rfl)) ?_
    refine sw_step rfl rfl rfl (OpR.q (q_move rfl rfl)) ?_
    first | refine sw_step rfl rfl rfl (OpR.q (q_len rfl (.cons rfl inferInstance (.nil)) (by first | exact fun w hw => Stb.cl (by assumption) hw | exact fun w hw => rd_own hw (by first | assumption | (repeat first | exact .head _ | apply List.Mem.tail))))) ?_ | refine sw_step rfl rfl rfl (OpR.q (q_lenV rfl (.cons rfl inferInstance (.nil)))) ?_
    refine sw_step rfl rfl rfl (OpR.q (q_gtr rfl rfl rfl)) ?_
    refine sw_step rfl rfl rfl (OpR.q (q_or2 rfl rfl rfl)) ?_
    refine sw_nil ?_
    refine post_then ?_
    -- STOP at: cond
    refine cw_cut (S := Unit) (fun _ => [(0, [], sa.v), (1, [], sb.v), (2, [], .int .i64 d), (7, [], s25.v), (8, [], .int .i64 (chgErr a b d)), (9, [], .int .i64 (chgErr a b d))]) (fun _ => Cl w [] [ownL 44 s25.v (if chgErr a b d = 0 then changes a b d else [])]) (fun _ => True) ?_ ?_
    · refine cw_cond rfl (fun h2 => ?_) (fun h2 => ?_)
      · skip
        have h3 : chgErr a b d = 4 := by rw [chgErr_eq, if_pos (by simp at h2; omega)]
        -- region 6
        refine cw_region ?_
        refine sw_step rfl rfl rfl (OpR.q (q_assign rfl rfl)) ?_
        refine sw_nil ?_
        exact post_meet () (by rw [h3]; exact (by repeat (first | exact Le.nil | refine Le.cons rfl ?_ | refine Le.cons' rfl (by congr 1; first | omega | (simp only; omega)) ?_))) (fun _ h => h) trivial
      · skip
        refine cw_seq ?_
        -- region 7
        refine cw_region ?_
        refine sw_step rfl rfl rfl (OpR.q (q_move rfl rfl)) ?_
        refine sw_step rfl rfl rfl (q_call (CanCall.mk Try.call24) rfl (.cons rfl inferInstance (.nil)) (fun _ w hw => callq hw (samples_spec _ _ w (by first | exact stb_arg hw (by assumption) | exact stb_own hw (by first | assumption | (repeat first | exact .head _ | apply List.Mem.tail)))))) ?_
        refine sw_step rfl rfl rfl (OpR.q (q_not rfl rfl)) ?_
        refine sw_step rfl rfl rfl (OpR.q (q_move rfl rfl)) ?_
        refine sw_step rfl rfl rfl (OpR.q (q_move rfl rfl)) ?_
        refine sw_step rfl rfl rfl (q_call (CanCall.mk Try.call24) rfl (.cons rfl inferInstance (.nil)) (fun _ w hw => callq hw (samples_spec _ _ w (by first | exact stb_arg hw (by assumption) | exact stb_own hw (by first | assumption | (repeat first | exact .head _ | apply List.Mem.tail)))))) ?_
        refine sw_step rfl rfl rfl (OpR.q (q_not rfl rfl)) ?_
        refine sw_step rfl rfl rfl (OpR.q (q_or2 rfl rfl rfl)) ?_
        refine sw_step rfl rfl rfl (OpR.q (q_move rfl rfl)) ?_
        refine sw_step rfl rfl rfl (OpR.q (q_move rfl rfl)) ?_
        refine sw_step rfl rfl rfl (OpR.q (q_lss rfl rfl rfl)) ?_
        refine sw_step rfl rfl rfl (OpR.q (q_or2 rfl rfl rfl)) ?_
        refine sw_step rfl rfl rfl (OpR.q (q_move rfl rfl)) ?_
        refine sw_step rfl rfl rfl (OpR.q (q_move rfl rfl)) ?_
        refine sw_step rfl rfl rfl (OpR.q (q_gtr rfl rfl rfl)) ?_
        refine sw_step rfl rfl rfl (OpR.q (q_or2 rfl rfl rfl)) ?_
        refine sw_nil ?_
        refine post_then ?_
        -- STOP at: cond
        refine cw_cond rfl (fun h3 => ?_) (fun h3 => ?_)
        · skip
          have h4 : chgErr a b d = 2 := by
            rw [chgErr_eq, if_neg (by simp at h2; omega), if_neg]
            rintro ⟨k1, k2, k3, k4⟩
            rw [k1, k2] at h3
            simp at h3
            omega
          -- region 8
          refine cw_region ?_
          refine sw_step rfl rfl rfl (OpR.q (q_assign rfl rfl)) ?_
          refine sw_nil ?_
          exact post_meet () (by rw [h4]; exact (by repeat (first | exact Le.nil | refine Le.cons rfl ?_ | refine Le.cons' rfl (by congr 1; first | omega | (simp only; omega)) ?_))) (fun _ h => h) trivial
        · skip
          have h4 : chgErr a b d = 0 := by
            rw [chgErr_eq, if_neg (by simp at h2; omega), if_pos]
            simp at h3
            exact ⟨h3.1.1.1, h3.1.1.2, by omega, by omega⟩
          refine cw_skip ?_
          exact post_meet () (by rw [h4]; exact (by repeat (first | exact Le.nil | refine Le.cons rfl ?_ | refine Le.cons' rfl (by congr 1; first | omega | (simp only; omega)) ?_))) (fun _ h => h) trivial
    · intro u _
      refine post_then ?_
      refine cw_seq ?_
      refine cw_seq ?_
      -- region 9
      refine cw_region ?_
      refine sw_step rfl rfl rfl (OpR.q (q_move rfl rfl)) ?_
      refine sw_step rfl rfl rfl (OpR.q (q_neq rfl rfl rfl)) ?_
      refine sw_nil ?_
      refine post_then ?_
      -- STOP at: cond
      refine cw_cond rfl (fun h3 => ?_) (fun h3 => ?_)
      · skip
        have h4 : chgErr a b d ≠ 0 := by simpa using h3
        refine cw_seq ?_
        -- region 10
        refine cw_region ?_
        refine sw_step rfl rfl rfl (OpR.q (q_move rfl rfl)) ?_
        refine sw_step rfl rfl rfl (OpR.q (q_move rfl rfl)) ?_
        refine sw_step rfl rfl rfl (OpR.q (q_eql rfl rfl rfl)) ?_
        refine sw_step rfl rfl rfl (OpR.q (q_move rfl rfl)) ?_
        refine sw_step rfl rfl rfl (OpR.q (q_move rfl rfl)) ?_
        first | refine sw_step rfl rfl rfl (OpR.q (q_len rfl (.cons rfl inferInstance (.nil)) (by first | exact fun w hw => Stb.cl (by assumption) hw | exact fun w hw => rd_own hw (by first | assumption | (repeat first | exact .head _ | apply List.Mem.tail))))) ?_ | refine sw_step rfl rfl rfl (OpR.q (q_lenV rfl (.cons rfl inferInstance (.nil)))) ?_
        refine sw_step rfl rfl rfl (OpR.q (q_eql rfl rfl rfl)) ?_
        refine sw_step rfl rfl rfl (OpR.q (q_and2 rfl rfl rfl)) ?_
        refine sw_step rfl rfl rfl (OpR.q (q_move rfl rfl)) ?_
        refine sw_step rfl rfl rfl (q_call (CanCall.mk Try.call15) rfl (.nil) (fun _ w hw => callq hw (known_spec w))) ?_
        refine sw_step rfl rfl rfl (OpR.q (q_and2 rfl rfl rfl)) ?_
        refine sw_step rfl rfl rfl (OpR.q (q_assign rfl rfl)) ?_
        refine sw_nil ?_
        refine post_then ?_
        refine cw_ret ?_
        refine post_then_r ?_
        refine post_ret1 rfl (resOk_tmp rfl) ?_
        exact fun w' hw => ⟨by simp [h4], (fun w h => Cl.sel (by repeat (first | exact Sel.nil _ | refine Sel.take 0 rfl ?_ | refine Sel.take 1 rfl ?_ | refine Sel.take 2 rfl ?_ | refine Sel.take 3 rfl ?_ | refine Sel.take 4 rfl ?_ | refine Sel.take 5 rfl ?_ | refine Sel.take 6 rfl ?_ | refine Sel.take 7 rfl ?_)) w h) _ hw⟩
      · skip
        have h4 : chgErr a b d = 0 := by simpa using h3
        have hw0 := h4
        have h5 : okS a = true ∧ okS b = true ∧ a.length ≤ 100000 ∧ b.length ≤ 100000 := by
          rw [chgErr_eq] at hw0
          split at hw0
          · omega
          · split at hw0
            · rename_i k1 k2; exact ⟨k2.1, k2.2.1, by omega, by omega⟩
            · omega
        refine cw_c (C' := Cl w [] [ownL 44 s25.v (changes a b d)]) (fun w h => by rwa [h4, if_pos rfl] at h) ?_
        refine cw_skip ?_
        refine post_then ?_
        refine cw_seq ?_
        -- region 11
        refine cw_region ?_
        refine sw_step rfl rfl rfl (OpR.q (q_move rfl rfl)) ?_
        refine sw_step rfl rfl rfl (OpR.q (q_move rfl rfl)) ?_
        refine sw_step rfl rfl rfl (OpR.q (q_move rfl rfl)) ?_
        -- STOP at: t68  := call {callee=(value F25), args=[t65, t66, t67], argTypes=[37, 37, 3]} :39
        refine sw_x rfl rfl rfl (e_call (CanCall.mk Try.call25) rfl (.cons rfl inferInstance (.cons rfl inferInstance (.cons rfl inferInstance (.nil)))) (fun w hw => refChanges_spec sa sb a b d w (stb_arg hw ha) (stb_arg hw hb) h5.1 h5.2.1 h5.2.2.1 h5.2.2.2)) (fun s68 => ?_)
        refine sw_imp fun _ => ?_
        refine sw_step rfl rfl rfl (OpR.q (q_assign rfl rfl)) ?_
        refine sw_nil ?_
        refine post_then ?_
        refine cw_seq ?_
        refine cw_seq ?_
        -- region 12
        refine cw_region ?_
        refine sw_step rfl rfl rfl (OpR.q (q_move rfl rfl)) ?_
        refine sw_step rfl rfl rfl (OpR.q (q_neq rfl rfl rfl)) ?_
        refine sw_step rfl rfl rfl (OpR.q (q_move rfl rfl)) ?_
        refine sw_step rfl rfl rfl (OpR.q (q_move rfl rfl)) ?_
        first | refine sw_step rfl rfl rfl (OpR.q (q_len rfl (.cons rfl inferInstance (.nil)) (by first | exact fun w hw => Stb.cl (by assumption) hw | exact fun w hw => rd_own hw (by first | assumption | (repeat first | exact .head _ | apply List.Mem.tail))))) ?_ | refine sw_step rfl rfl rfl (OpR.q (q_lenV rfl (.cons rfl inferInstance (.nil)))) ?_
        refine sw_step rfl rfl rfl (OpR.q (q_move rfl rfl)) ?_
        first | refine sw_step rfl rfl rfl (OpR.q (q_len rfl (.cons rfl inferInstance (.nil)) (by first | exact fun w hw => Stb.cl (by assumption) hw | exact fun w hw => rd_own hw (by first | assumption | (repeat first | exact .head _ | apply List.Mem.tail))))) ?_ | refine sw_step rfl rfl rfl (OpR.q (q_lenV rfl (.cons rfl inferInstance (.nil)))) ?_
        refine sw_step rfl rfl rfl (OpR.q (q_neq rfl rfl rfl)) ?_
        refine sw_step rfl rfl rfl (OpR.q (q_or2 rfl rfl rfl)) ?_
        refine sw_nil ?_
        refine post_then ?_
        -- STOP at: cond
        refine cw_cond rfl (fun h6 => ?_) (fun h6 => ?_)
        · skip
          simp [h4] at h6
        · skip
          refine cw_skip ?_
          refine post_then ?_
          refine cw_seq ?_
          refine cw_seq ?_
          -- region 14
          refine cw_region ?_
          refine sw_step rfl rfl rfl (OpR.q (q_assign rfl rfl)) ?_
          refine sw_nil ?_
          refine post_then ?_
          refine cw_block ?_
          -- STOP at: loop
          refine cw_loop (S := Nat) (fun k => [(0, [], sa.v), (1, [], sb.v), (7, [], s25.v), (10, [], s68.v), (11, [], .int .i64 k)]) (fun _ => Cl w [] [ownL 44 s68.v (changes a b d), ownL 44 s25.v (changes a b d)]) (fun k => k ≤ (changes a b d).length) (fun k => (changes a b d).length - k) 0 (by omega) (by repeat (first | exact Le.nil | refine Le.cons rfl ?_ | refine Le.cons' rfl (by congr 1; first | omega | (simp only; omega)) ?_)) (fun w h => Cl.sel (by repeat (first | exact Sel.nil _ | refine Sel.take 0 rfl ?_ | refine Sel.take 1 rfl ?_ | refine Sel.take 2 rfl ?_ | refine Sel.take 3 rfl ?_ | refine Sel.take 4 rfl ?_ | refine Sel.take 5 rfl ?_ | refine Sel.take 6 rfl ?_ | refine Sel.take 7 rfl ?_)) w h) ?_
          intro k hk
          have hcl : (changes a b d).length ≤ 200000 := by
            have := (chgTo_bd a b d (max a.length b.length)).1
            simp only [changes]; omega
          dsimp only
          refine cw_seq ?_
          refine cw_seq ?_
          -- region 15
          refine cw_region ?_
          refine sw_step rfl rfl rfl (OpR.q (q_move rfl rfl)) ?_
          refine sw_step rfl rfl rfl (OpR.q (q_move rfl rfl)) ?_
          first | refine sw_step rfl rfl rfl (OpR.q (q_len rfl (.cons rfl inferInstance (.nil)) (by first | exact fun w hw => Stb.cl (by assumption) hw | exact fun w hw => rd_own hw (by first | assumption | (repeat first | exact .head _ | apply List.Mem.tail))))) ?_ | refine sw_step rfl rfl rfl (OpR.q (q_lenV rfl (.cons rfl inferInstance (.nil)))) ?_
          refine sw_step rfl rfl rfl (OpR.q (q_lss rfl rfl rfl)) ?_
          refine sw_nil ?_
          refine post_then ?_
          -- STOP at: cond
          refine cw_cond rfl (fun h7 => ?_) (fun h7 => ?_)
          · skip
            have hk' : k < (changes a b d).length := by simp at h7; omega
            refine cw_skip ?_
            refine post_then ?_
            refine cw_seq ?_
            refine cw_block ?_
            refine cw_seq ?_
            -- region 17
            refine cw_region_q mixed_Try (by kernel_rfl) ?_
            refine qw_step rfl rfl rfl (OpR.q (q_move rfl rfl)) ?_
            refine qw_step rfl rfl rfl (OpR.q (q_move rfl rfl)) ?_
            first | refine qw_step rfl rfl rfl (OpR.q (q_indexN rfl rfl rfl (by first | exact fun w hw => Stb.cl (by assumption) hw | exact fun w hw => rd_own hw (by first | assumption | (repeat first | exact .head _ | apply List.Mem.tail))) (by intro hc; first | omega | (simp only [List.length_set, List.length_append, List.length_cons, List.length_nil, List.length_replicate, List.length_take, List.length_drop, List.length_map]; omega) | (simp only [AllT.iff, List.all_cons, List.all_nil, id, Bool.and_eq_true, Bool.not_eq_true', decide_eq_true_eq, decide_eq_false_iff_not, and_true] at hc; first | omega | (simp only [List.length_set, List.length_append, List.length_cons, List.length_nil, List.length_replicate, List.length_take, List.length_drop, List.length_map]; omega))))) ?_ | refine qw_step rfl rfl rfl (OpR.q (q_index rfl rfl rfl (by first | exact fun w hw => Stb.cl (by assumption) hw | exact fun w hw => rd_own hw (by first | assumption | (repeat first | exact .head _ | apply List.Mem.tail))) (by intro hc; first | omega | (simp only [List.length_set, List.length_append, List.length_cons, List.length_nil, List.length_replicate, List.length_take, List.length_drop, List.length_map]; omega) | (simp only [AllT.iff, List.all_cons, List.all_nil, id, Bool.and_eq_true, Bool.not_eq_true', decide_eq_true_eq, decide_eq_false_iff_not, and_true] at hc; first | omega | (simp only [List.length_set, List.length_append, List.length_cons, List.length_nil, List.length_replicate, List.length_take, List.length_drop, List.length_map]; omega))))) ?_
            first | refine qw_step rfl rfl rfl (OpR.q (q_loadC rfl rfl (by first | assumption | (repeat first | exact .head _ | apply List.Mem.tail)) rfl)) ?_ | refine qw_step rfl rfl rfl (OpR.q (q_loadA rfl rfl (by first | assumption | (repeat first | exact .head _ | apply List.Mem.tail)) rfl)) ?_ | refine qw_step rfl rfl rfl (OpR.q (q_loadEl rfl rfl rfl (by first | exact fun w hw => Stb.cl (by assumption) hw | exact fun w hw => rd_own hw (by first | assumption | (repeat first | exact .head _ | apply List.Mem.tail))) (by intro hc; first | omega | (simp only [List.length_set, List.length_append, List.length_cons, List.length_nil, List.length_replicate, List.length_take, List.length_drop, List.length_map]; omega) | (simp only [AllT.iff, List.all_cons, List.all_nil, id, Bool.and_eq_true, Bool.not_eq_true', decide_eq_true_eq, decide_eq_false_iff_not, and_true] at hc; first | omega | (simp only [List.length_set, List.length_append, List.length_cons, List.length_nil, List.length_replicate, List.length_take, List.length_drop, List.length_map]; omega))))) ?_ | refine qw_step rfl rfl rfl (OpR.q (q_loadF rfl rfl rfl (by first | exact fun w hw => Stb.cl (by assumption) hw | exact fun w hw => rd_own hw (by first | assumption | (repeat first | exact .head _ | apply List.Mem.tail))) (by intro hc; first | omega | (simp only [List.length_set, List.length_append, List.length_cons, List.length_nil, List.length_replicate, List.length_take, List.length_drop, List.length_map]; omega) | (simp only [AllT.iff, List.all_cons, List.all_nil, id, Bool.and_eq_true, Bool.not_eq_true', decide_eq_true_eq, decide_eq_false_iff_not, and_true] at hc; first | omega | (simp only [List.length_set, List.length_append, List.length_cons, List.length_nil, List.length_replicate, List.length_take, List.length_drop, List.length_map]; omega))) rfl)) ?_ | refine qw_step rfl rfl rfl (OpR.q (q_loadS rfl rfl (fun w hw => Stb.cl (by assumption) hw) rfl)) ?_
            refine qw_step rfl rfl rfl (OpR.q (q_move rfl rfl)) ?_
            refine qw_step rfl rfl rfl (OpR.q (q_move rfl rfl)) ?_
            first | refine qw_step rfl rfl rfl (OpR.q (q_indexN rfl rfl rfl (by first | exact fun w hw => Stb.cl (by assumption) hw | exact fun w hw => rd_own hw (by first | assumption | (repeat first | exact .head _ | apply List.Mem.tail))) (by intro hc; first | omega | (simp only [List.length_set, List.length_append, List.length_cons, List.length_nil, List.length_replicate, List.length_take, List.length_drop, List.length_map]; omega) | (simp only [AllT.iff, List.all_cons, List.all_nil, id, Bool.and_eq_true, Bool.not_eq_true', decide_eq_true_eq, decide_eq_false_iff_not, and_true] at hc; first | omega | (simp only [List.length_set, List.length_append, List.length_cons, List.length_nil, List.length_replicate, List.length_take, List.length_drop, List.length_map]; omega))))) ?_ | refine qw_step rfl rfl rfl (OpR.q (q_index rfl rfl rfl (by first | exact fun w hw => Stb.cl (by assumption) hw | exact fun w hw => rd_own hw (by first | assumption | (repeat first | exact .head _ | apply List.Mem.tail))) (by intro hc; first | omega | (simp only [List.length_set, List.length_append, List.length_cons, List.length_nil, List.length_replicate, List.length_take, List.length_drop, List.length_map]; omega) | (simp only [AllT.iff, List.all_cons, List.all_nil, id, Bool.and_eq_true, Bool.not_eq_true', decide_eq_true_eq, decide_eq_false_iff_not, and_true] at hc; first | omega | (simp only [List.length_set, List.length_append, List.length_cons, List.length_nil, List.length_replicate, List.length_take, List.length_drop, List.length_map]; omega))))) ?_
            first | refine qw_step rfl rfl rfl (OpR.q (q_loadC rfl rfl (by first | assumption | (repeat first | exact .head _ | apply List.Mem.tail)) rfl)) ?_ | refine qw_step rfl rfl rfl (OpR.q (q_loadA rfl rfl (by first | assumption | (repeat first | exact .head _ | apply List.Mem.tail)) rfl)) ?_ | refine qw_step rfl rfl rfl (OpR.q (q_loadEl rfl rfl rfl (by first | exact fun w hw => Stb.cl (by assumption) hw | exact fun w hw => rd_own hw (by first | assumption | (repeat first | exact .head _ | apply List.Mem.tail))) (by intro hc; first | omega | (simp only [List.length_set, List.length_append, List.length_cons, List.length_nil, List.length_replicate, List.length_take, List.length_drop, List.length_map]; omega) | (simp only [AllT.iff, List.all_cons, List.all_nil, id, Bool.and_eq_true, Bool.not_eq_true', decide_eq_true_eq, decide_eq_false_iff_not, and_true] at hc; first | omega | (simp only [List.length_set, List.length_append, List.length_cons, List.length_nil, List.length_replicate, List.length_take, List.length_drop, List.length_map]; omega))))) ?_ | refine qw_step rfl rfl rfl (OpR.q (q_loadF rfl rfl rfl (by first | exact fun w hw => Stb.cl (by assumption) hw | exact fun w hw => rd_own hw (by first | assumption | (repeat first | exact .head _ | apply List.Mem.tail))) (by intro hc; first | omega | (simp only [List.length_set, List.length_append, List.length_cons, List.length_nil, List.length_replicate, List.length_take, List.length_drop, List.length_map]; omega) | (simp only [AllT.iff, List.all_cons, List.all_nil, id, Bool.and_eq_true, Bool.not_eq_true', decide_eq_true_eq, decide_eq_false_iff_not, and_true] at hc; first | omega | (simp only [List.length_set, List.length_append, List.length_cons, List.length_nil, List.length_replicate, List.length_take, List.length_drop, List.length_map]; omega))) rfl)) ?_ | refine qw_step rfl rfl rfl (OpR.q (q_loadS rfl rfl (fun w hw => Stb.cl (by assumption) hw) rfl)) ?_
            -- STOP at: t92  := binOp neq 44 t87 t91 44 :4
            refine qw_step rfl rfl rfl (OpR.q (q_neqS rfl rfl rfl (by kernel_rfl) (fun w => neq44 (nth (changes a b d) k) (nth (changes a b d) k) w))) ?_
            refine qw_end ?_
            refine post_then ?_
            -- STOP at: cond
            refine cw_cond rfl (fun h8 => ?_) (fun h8 => ?_)
            · skip
              simp at h8
            · skip
              refine cw_skip ?_
              refine post_blk ?_
              refine post_then ?_
              -- region 16
              refine cw_region ?_
              refine sw_step rfl rfl rfl (OpR.q (q_move rfl rfl)) ?_
              refine sw_step rfl rfl rfl (OpR.q (q_add rfl rfl rfl (by intro hc; first | omega | (simp only [List.length_set, List.length_append, List.length_cons, List.length_nil, List.length_replicate, List.length_take, List.length_drop, List.length_map]; omega) | (simp only [AllT.iff, List.all_cons, List.all_nil, id, Bool.and_eq_true, Bool.not_eq_true', decide_eq_true_eq, decide_eq_false_iff_not, and_true] at hc; first | omega | (simp only [List.length_set, List.length_append, List.length_cons, List.length_nil, List.length_replicate, List.length_take, List.length_drop, List.length_map]; omega))))) ?_
              refine sw_step rfl rfl rfl (OpR.q (q_assign rfl rfl)) ?_
              refine sw_nil ?_
              exact post_next (k + 1) (by repeat (first | exact Le.nil | refine Le.cons rfl ?_ | refine Le.cons' rfl (by congr 1; first | omega | (simp only; omega)) ?_)) (fun _ h => h) (by omega) (by omega)
          · skip
            have hn := changes_nil a b d
            refine cw_exit ?_
            refine post_then_x ?_
            refine post_then_x ?_
            refine post_blk_eq ?_
            refine post_then ?_
            refine cw_seq ?_
            -- region 19
            refine cw_region ?_
            refine sw_step rfl rfl rfl (OpR.q (q_move rfl rfl)) ?_
            first | refine sw_step rfl rfl rfl (OpR.q (q_len rfl (.cons rfl inferInstance (.nil)) (by first | exact fun w hw => Stb.cl (by assumption) hw | exact fun w hw => rd_own hw (by first | assumption | (repeat first | exact .head _ | apply List.Mem.tail))))) ?_ | refine sw_step rfl rfl rfl (OpR.q (q_lenV rfl (.cons rfl inferInstance (.nil)))) ?_
            refine sw_step rfl rfl rfl (OpR.q (q_eql rfl rfl rfl)) ?_
            refine sw_step rfl rfl rfl (OpR.q (q_move rfl rfl)) ?_
            refine sw_step rfl rfl rfl (OpR.q (q_move rfl rfl)) ?_
            refine sw_step rfl rfl rfl (q_call (CanCall.mk Try.call26) rfl (.cons rfl inferInstance (.cons rfl inferInstance (.nil))) (fun _ w hw => callq hw (sameInts_spec _ _ _ _ w (by first | exact stb_arg hw (by assumption) | exact stb_own hw (by first | assumption | (repeat first | exact .head _ | apply List.Mem.tail))) (by first | exact stb_arg hw (by assumption) | exact stb_own hw (by first | assumption | (repeat first | exact .head _ | apply List.Mem.tail)))))) ?_
            refine sw_step rfl rfl rfl (OpR.q (q_eql_b rfl rfl rfl Try.underlying4)) ?_
            refine sw_step rfl rfl rfl (OpR.q (q_move rfl rfl)) ?_
            refine sw_step rfl rfl rfl (q_call (CanCall.mk Try.call15) rfl (.nil) (fun _ w hw => callq hw (known_spec w))) ?_
            refine sw_step rfl rfl rfl (OpR.q (q_and2 rfl rfl rfl)) ?_
            refine sw_step rfl rfl rfl (OpR.q (q_assign rfl rfl)) ?_
            refine sw_nil ?_
            refine post_then ?_
            refine cw_ret ?_
            refine post_ret1 rfl (resOk_tmp rfl) ?_
            refine fun w' hw => ⟨?_, (fun w h => Cl.sel (by repeat (first | exact Sel.nil _ | refine Sel.take 0 rfl ?_ | refine Sel.take 1 rfl ?_ | refine Sel.take 2 rfl ?_ | refine Sel.take 3 rfl ?_ | refine Sel.take 4 rfl ?_ | refine Sel.take 5 rfl ?_ | refine Sel.take 6 rfl ?_ | refine Sel.take 7 rfl ?_)) w h) _ hw⟩
            have e : decide (((changes a b d).length : Int) = 0) = decide (a = b) := by
              rw [decide_eq_decide, ← hn]; omega
            rw [e]
            simp
end Go.Proofs.Ytekikelejncgeaa
