import Derived.Test.YtekikelejncgeaaA
set_option autoImplicit false
set_option linter.unusedSimpArgs false
set_option linter.unusedVariables false
set_option maxRecDepth 100000
namespace Go.Proofs.Ytekikelejncgeaa
open Go.Sx
open Enc (enc val)

theorem eq_of_nth {α : Type} [Inhabited α] {a b : List α} (hl : a.length = b.length) (h : ∀ j, j < a.length → nth a j = nth b j) : a = b := by
  refine List.ext_getElem hl fun i h1 h2 => ?_
  rw [← nth_get h1, ← nth_get h2]; exact h i h1

theorem sameInts_spec (av bv : Value) (a b : List Int) (w : World) (ha : Stb w [] (RdL av a)) (hb : Stb w [] (RdL bv b)) : Calls Try.prog 26 #[av, bv] w fun e w' => e = .returned (.bool (decide (a = b))) ∧ Cl w [] [] w' := by
  have hL := rd_len ha.here
  have hL2 := rd_len hb.here
  refine calls_cw (vs := [_, _]) Try.func26 rfl Try.ntmps26 rfl (Cl.start0 w) ?_
  refine cw_seq ?_
  -- region 0
  refine cw_region ?_
  refine sw_step rfl rfl rfl (OpR.q (q_assign rfl rfl)) ?_
  refine sw_nil ?_
  refine post_then ?_
  refine cw_seq ?_
  refine cw_seq ?_
  -- region 1
  refine cw_region ?_
  refine sw_step rfl rfl rfl (OpR.q (q_move rfl rfl)) ?_
  refine sw_step rfl rfl rfl (OpR.q (q_len rfl (.cons rfl inferInstance (.nil)) (by exact fun w hw => Stb.cl (by assumption) hw))) ?_
  refine sw_step rfl rfl rfl (OpR.q (q_move rfl rfl)) ?_
  refine sw_step rfl rfl rfl (OpR.q (q_len rfl (.cons rfl inferInstance (.nil)) (by exact fun w hw => Stb.cl (by assumption) hw))) ?_
  refine sw_step rfl rfl rfl (OpR.q (q_neq rfl rfl rfl)) ?_
  refine sw_nil ?_
  refine post_then ?_
  -- STOP at: cond
  refine cw_cond rfl (fun h => ?_) (fun h => ?_)
  · skip
    have hne : a ≠ b := fun e => by subst e; simp at h
    refine cw_seq ?_
    -- region 2
    refine cw_region ?_
    refine sw_step rfl rfl rfl (OpR.q (q_assign rfl rfl)) ?_
    refine sw_nil ?_
    refine post_then ?_
    refine cw_ret ?_
    refine post_then_r ?_
    refine post_ret1 rfl (resOk_tmp rfl) ?_
    exact fun w' hw => ⟨by simp [hne], hw⟩
  · skip
    have hl : a.length = b.length := by simp at h; omega
    refine cw_skip ?_
    refine post_then ?_
    refine cw_seq ?_
    refine cw_seq ?_
    -- region 3
    refine cw_region ?_
    refine sw_step rfl rfl rfl (OpR.q (q_assign rfl rfl)) ?_
    refine sw_nil ?_
    refine post_then ?_
    refine cw_block ?_
    -- STOP at: loop
    refine cw_loop (S := Nat) (fun k => [(0, [], av), (1, [], bv), (5, [], .int .i64 k)]) (fun _ => Cl w [] []) (fun k => k ≤ a.length ∧ ∀ j, j < k → nth a j = nth b j) (fun k => a.length - k) 0 ⟨by omega, fun j hj => by omega⟩ (by exact .cons rfl (.cons rfl (.cons rfl .nil))) (fun _ h => h) ?_
    rintro k ⟨hk, hbe⟩
    refine cw_seq ?_
    refine cw_seq ?_
    -- region 4
    refine cw_region ?_
    refine sw_step rfl rfl rfl (OpR.q (q_move rfl rfl)) ?_
    refine sw_step rfl rfl rfl (OpR.q (q_move rfl rfl)) ?_
    refine sw_step rfl rfl rfl (OpR.q (q_len rfl (.cons rfl inferInstance (.nil)) (by exact fun w hw => Stb.cl (by assumption) hw))) ?_
    refine sw_step rfl rfl rfl (OpR.q (q_lss rfl rfl rfl)) ?_
    refine sw_nil ?_
    refine post_then ?_
    -- STOP at: cond
    refine cw_cond rfl (fun h2 => ?_) (fun h2 => ?_)
    · skip
      have hk' : k < a.length := by simp only [decide_eq_true_eq] at h2; omega
      refine cw_skip ?_
      refine post_then ?_
      refine cw_seq ?_
      refine cw_block ?_
      refine cw_seq ?_
      -- region 6
      refine cw_region_q mixed_Try (by kernel_rfl) ?_
      refine qw_step rfl rfl rfl (OpR.q (q_move rfl rfl)) ?_
      refine qw_step rfl rfl rfl (OpR.q (q_move rfl rfl)) ?_
      refine qw_step rfl rfl rfl (OpR.q (q_indexN rfl rfl rfl (by exact fun w hw => Stb.cl (by assumption) hw) (by intro hc; omega))) ?_
      refine qw_step rfl rfl rfl (OpR.q (q_loadEl rfl rfl rfl (by exact fun w hw => Stb.cl (by assumption) hw) (by intro hc; omega))) ?_
      refine qw_step rfl rfl rfl (OpR.q (q_move rfl rfl)) ?_
      refine qw_step rfl rfl rfl (OpR.q (q_move rfl rfl)) ?_
      refine qw_step rfl rfl rfl (OpR.q (q_indexN rfl rfl rfl (by exact fun w hw => Stb.cl (by assumption) hw) (by intro hc; omega))) ?_
      refine qw_step rfl rfl rfl (OpR.q (q_loadEl rfl rfl rfl (by exact fun w hw => Stb.cl (by assumption) hw) (by intro hc; omega))) ?_
      refine qw_step rfl rfl rfl (OpR.q (q_neq rfl rfl rfl)) ?_
      refine qw_end ?_
      refine post_then ?_
      -- STOP at: cond
      refine cw_cond rfl (fun h3 => ?_) (fun h3 => ?_)
      · skip
        have hne : a ≠ b := fun e => by subst e; simp at h3
        refine cw_seq ?_
        -- region 7
        refine cw_region ?_
        refine sw_step rfl rfl rfl (OpR.q (q_assign rfl rfl)) ?_
        refine sw_nil ?_
        refine post_then ?_
        refine cw_ret ?_
        refine post_blk_r ?_
        refine post_then_r ?_
        refine post_then_r ?_
        refine post_blk_r ?_
        refine post_then_r ?_
        refine post_ret1 rfl (resOk_tmp rfl) ?_
        exact fun w' hw => ⟨by simp [hne], hw⟩
      · skip
        have he : nth a k = nth b k := by simpa using h3
        refine cw_skip ?_
        refine post_blk ?_
        refine post_then ?_
        -- region 5
        refine cw_region ?_
        refine sw_step rfl rfl rfl (OpR.q (q_move rfl rfl)) ?_
        refine sw_step rfl rfl rfl (OpR.q (q_add rfl rfl rfl (by intro hc; omega))) ?_
        refine sw_step rfl rfl rfl (OpR.q (q_assign rfl rfl)) ?_
        refine sw_nil ?_
        refine post_next (k + 1) (by exact .cons rfl (.cons rfl (.cons rfl .nil))) (fun _ h => h) ⟨by omega, fun j hj => ?_⟩ (by omega)
        by_cases hjk : j = k
        · rw [hjk]; exact he
        · exact hbe j (by omega)
    · skip
      have hk' : k = a.length := by simp only [decide_eq_false_iff_not] at h2; omega
      subst hk'
      have he := eq_of_nth hl hbe
      refine cw_exit ?_
      refine post_then_x ?_
      refine post_then_x ?_
      refine post_blk_eq ?_
      refine post_then ?_
      refine cw_seq ?_
      -- region 8
      refine cw_region ?_
      refine sw_step rfl rfl rfl (OpR.q (q_assign rfl rfl)) ?_
      refine sw_nil ?_
      refine post_then ?_
      refine cw_ret ?_
      refine post_ret1 rfl (resOk_tmp rfl) ?_
      exact fun w' hw => ⟨by simp [he], hw⟩
theorem sameBools_spec (av bv : Value) (a b : List Bool) (w : World) (ha : Stb w [] (RdL av a)) (hb : Stb w [] (RdL bv b)) : Calls Try.prog 20 #[av, bv] w fun e w' => e = .returned (.bool (decide (a = b))) ∧ Cl w [] [] w' := by
  have hL := rd_len ha.here
  have hL2 := rd_len hb.here
  refine calls_cw (vs := [_, _]) Try.func20 rfl Try.ntmps20 rfl (Cl.start0 w) ?_
  refine cw_seq ?_
  -- region 0
  refine cw_region ?_
  refine sw_step rfl rfl rfl (OpR.q (q_assign rfl rfl)) ?_
  refine sw_nil ?_
  refine post_then ?_
  refine cw_seq ?_
  refine cw_seq ?_
  -- region 1
  refine cw_region ?_
  refine sw_step rfl rfl rfl (OpR.q (q_move rfl rfl)) ?_
  refine sw_step rfl rfl rfl (OpR.q (q_len rfl (.cons rfl inferInstance (.nil)) (by exact fun w hw => Stb.cl (by assumption) hw))) ?_
  refine sw_step rfl rfl rfl (OpR.q (q_move rfl rfl)) ?_
  refine sw_step rfl rfl rfl (OpR.q (q_len rfl (.cons rfl inferInstance (.nil)) (by exact fun w hw => Stb.cl (by assumption) hw))) ?_
  refine sw_step rfl rfl rfl (OpR.q (q_neq rfl rfl rfl)) ?_
  refine sw_nil ?_
  refine post_then ?_
  -- STOP at: cond
  refine cw_cond rfl (fun h => ?_) (fun h => ?_)
  · skip
    have hne : a ≠ b := fun e => by subst e; simp at h
    refine cw_seq ?_
    -- region 2
    refine cw_region ?_
    refine sw_step rfl rfl rfl (OpR.q (q_assign rfl rfl)) ?_
    refine sw_nil ?_
    refine post_then ?_
    refine cw_ret ?_
    refine post_then_r ?_
    refine post_ret1 rfl (resOk_tmp rfl) ?_
    exact fun w' hw => ⟨by simp [hne], hw⟩
  · skip
    have hl : a.length = b.length := by simp at h; omega
    refine cw_skip ?_
    refine post_then ?_
    refine cw_seq ?_
    refine cw_seq ?_
    -- region 3
    refine cw_region ?_
    refine sw_step rfl rfl rfl (OpR.q (q_assign rfl rfl)) ?_
    refine sw_nil ?_
    refine post_then ?_
    refine cw_block ?_
    -- STOP at: loop
    refine cw_loop (S := Nat) (fun k => [(0, [], av), (1, [], bv), (5, [], .int .i64 k)]) (fun _ => Cl w [] []) (fun k => k ≤ a.length ∧ ∀ j, j < k → nth a j = nth b j) (fun k => a.length - k) 0 ⟨by omega, fun j hj => by omega⟩ (by exact .cons rfl (.cons rfl (.cons rfl .nil))) (fun _ h => h) ?_
    rintro k ⟨hk, hbe⟩
    refine cw_seq ?_
    refine cw_seq ?_
    -- region 4
    refine cw_region ?_
    refine sw_step rfl rfl rfl (OpR.q (q_move rfl rfl)) ?_
    refine sw_step rfl rfl rfl (OpR.q (q_move rfl rfl)) ?_
    refine sw_step rfl rfl rfl (OpR.q (q_len rfl (.cons rfl inferInstance (.nil)) (by exact fun w hw => Stb.cl (by assumption) hw))) ?_
    refine sw_step rfl rfl rfl (OpR.q (q_lss rfl rfl rfl)) ?_
    refine sw_nil ?_
    refine post_then ?_
    -- STOP at: cond
    refine cw_cond rfl (fun h2 => ?_) (fun h2 => ?_)
    · skip
      have hk' : k < a.length := by simp only [decide_eq_true_eq] at h2; omega
      refine cw_skip ?_
      refine post_then ?_
      refine cw_seq ?_
      refine cw_block ?_
      refine cw_seq ?_
      -- region 6
      refine cw_region_q mixed_Try (by kernel_rfl) ?_
      refine qw_step rfl rfl rfl (OpR.q (q_move rfl rfl)) ?_
      refine qw_step rfl rfl rfl (OpR.q (q_move rfl rfl)) ?_
      refine qw_step rfl rfl rfl (OpR.q (q_indexN rfl rfl rfl (by exact fun w hw => Stb.cl (by assumption) hw) (by intro hc; omega))) ?_
      refine qw_step rfl rfl rfl (OpR.q (q_loadEl rfl rfl rfl (by exact fun w hw => Stb.cl (by assumption) hw) (by intro hc; omega))) ?_
      refine qw_step rfl rfl rfl (OpR.q (q_move rfl rfl)) ?_
      refine qw_step rfl rfl rfl (OpR.q (q_move rfl rfl)) ?_
      refine qw_step rfl rfl rfl (OpR.q (q_indexN rfl rfl rfl (by exact fun w hw => Stb.cl (by assumption) hw) (by intro hc; omega))) ?_
      refine qw_step rfl rfl rfl (OpR.q (q_loadEl rfl rfl rfl (by exact fun w hw => Stb.cl (by assumption) hw) (by intro hc; omega))) ?_
      refine qw_step rfl rfl rfl (OpR.q (q_neq_b rfl rfl rfl Try.underlying4)) ?_
      refine qw_end ?_
      refine post_then ?_
      -- STOP at: cond
      refine cw_cond rfl (fun h3 => ?_) (fun h3 => ?_)
      · skip
        have hne : a ≠ b := fun e => by subst e; simp at h3
        refine cw_seq ?_
        -- region 7
        refine cw_region ?_
        refine sw_step rfl rfl rfl (OpR.q (q_assign rfl rfl)) ?_
        refine sw_nil ?_
        refine post_then ?_
        refine cw_ret ?_
        refine post_blk_r ?_
        refine post_then_r ?_
        refine post_then_r ?_
        refine post_blk_r ?_
        refine post_then_r ?_
        refine post_ret1 rfl (resOk_tmp rfl) ?_
        exact fun w' hw => ⟨by simp [hne], hw⟩
      · skip
        have he : nth a k = nth b k := by simpa using h3
        refine cw_skip ?_
        refine post_blk ?_
        refine post_then ?_
        -- region 5
        refine cw_region ?_
        refine sw_step rfl rfl rfl (OpR.q (q_move rfl rfl)) ?_
        refine sw_step rfl rfl rfl (OpR.q (q_add rfl rfl rfl (by intro hc; omega))) ?_
        refine sw_step rfl rfl rfl (OpR.q (q_assign rfl rfl)) ?_
        refine sw_nil ?_
        refine post_next (k + 1) (by exact .cons rfl (.cons rfl (.cons rfl .nil))) (fun _ h => h) ⟨by omega, fun j hj => ?_⟩ (by omega)
        by_cases hjk : j = k
        · rw [hjk]; exact he
        · exact hbe j (by omega)
    · skip
      have hk' : k = a.length := by simp only [decide_eq_false_iff_not] at h2; omega
      subst hk'
      have he := eq_of_nth hl hbe
      refine cw_exit ?_
      refine post_then_x ?_
      refine post_then_x ?_
      refine post_blk_eq ?_
      refine post_then ?_
      refine cw_seq ?_
      -- region 8
      refine cw_region ?_
      refine sw_step rfl rfl rfl (OpR.q (q_assign rfl rfl)) ?_
      refine sw_nil ?_
      refine post_then ?_
      refine cw_ret ?_
      refine post_ret1 rfl (resOk_tmp rfl) ?_
      exact fun w' hw => ⟨by simp [he], hw⟩

def okS (a : List Int) : Bool := a.all fun x => inB x (-32768) 32767
theorem samples_spec (av : Value) (a : List Int) (w : World) (ha : Stb w [] (RdL av a)) : Calls Try.prog 24 #[av] w fun e w' => e = .returned (.bool (okS a)) ∧ Cl w [] [] w' := by
  have hL := rd_len ha.here
  refine calls_cw (vs := [_]) Try.func24 rfl Try.ntmps24 rfl (Cl.start0 w) ?_
  refine cw_seq ?_
  -- region 0
  refine cw_region ?_
  refine sw_step rfl rfl rfl (OpR.q (q_assign rfl rfl)) ?_
  refine sw_nil ?_
  refine post_then ?_
  refine cw_seq ?_
  refine cw_seq ?_
  -- region 1
  refine cw_region ?_
  refine sw_step rfl rfl rfl (OpR.q (q_assign rfl rfl)) ?_
  refine sw_nil ?_
  refine post_then ?_
  refine cw_block ?_
  -- STOP at: loop
  refine cw_loop (S := Nat) (fun k => [(0, [], av), (3, [], .int .i64 k)]) (fun _ => Cl w [] []) (fun k => k ≤ a.length ∧ ∀ j, j < k → inB (nth a j) (-32768) 32767 = true) (fun k => a.length - k) 0 ⟨by omega, fun j hj => by omega⟩ (by exact .cons rfl (.cons rfl .nil)) (fun _ h => h) ?_
  rintro k ⟨hk, hbe⟩
  refine cw_seq ?_
  refine cw_seq ?_
  -- region 2
  refine cw_region ?_
  refine sw_step rfl rfl rfl (OpR.q (q_move rfl rfl)) ?_
  refine sw_step rfl rfl rfl (OpR.q (q_move rfl rfl)) ?_
  refine sw_step rfl rfl rfl (OpR.q (q_len rfl (.cons rfl inferInstance (.nil)) (by exact fun w hw => Stb.cl (by assumption) hw))) ?_
  refine sw_step rfl rfl rfl (OpR.q (q_lss rfl rfl rfl)) ?_
  refine sw_nil ?_
  refine post_then ?_
  -- STOP at: cond
  refine cw_cond rfl (fun h2 => ?_) (fun h2 => ?_)
  · skip
    have hk' : k < a.length := by simp only [decide_eq_true_eq] at h2; omega
    refine cw_skip ?_
    refine post_then ?_
    refine cw_seq ?_
    refine cw_block ?_
    refine cw_seq ?_
    -- region 4
    refine cw_region ?_
    refine sw_step rfl rfl rfl (OpR.q (q_move rfl rfl)) ?_
    refine sw_step rfl rfl rfl (OpR.q (q_move rfl rfl)) ?_
    refine sw_step rfl rfl rfl (OpR.q (q_indexN rfl rfl rfl (by exact fun w hw => Stb.cl (by assumption) hw) (by intro hc; omega))) ?_
    refine sw_step rfl rfl rfl (OpR.q (q_loadEl rfl rfl rfl (by exact fun w hw => Stb.cl (by assumption) hw) (by intro hc; omega))) ?_
    refine sw_step rfl rfl rfl (q_call (CanCall.mk Try.call63) rfl (.cons rfl inferInstance (.cons rfl inferInstance (.cons rfl inferInstance (.nil)))) (fun _ w hw => callq hw (refIn7_spec _ _ _ w))) ?_
    refine sw_step rfl rfl rfl (OpR.q (q_not rfl rfl)) ?_
    refine sw_nil ?_
    refine post_then ?_
    -- STOP at: cond
    refine cw_cond rfl (fun h3 => ?_) (fun h3 => ?_)
    · skip
      have hne : okS a = false := by
        unfold okS
        rw [List.all_eq_false]
        exact ⟨nth a k, by rw [nth_get hk']; exact List.getElem_mem hk', by simpa using h3⟩
      refine cw_seq ?_
      -- region 5
      refine cw_region ?_
      refine sw_step rfl rfl rfl (OpR.q (q_assign rfl rfl)) ?_
      refine sw_nil ?_
      refine post_then ?_
      refine cw_ret ?_
      refine post_blk_r ?_
      refine post_then_r ?_
      refine post_then_r ?_
      refine post_blk_r ?_
      refine post_then_r ?_
      refine post_ret1 rfl (resOk_tmp rfl) ?_
      exact fun w' hw => ⟨by rw [hne], hw⟩
    · skip
      refine cw_skip ?_
      refine post_blk ?_
      refine post_then ?_
      -- region 3
      refine cw_region ?_
      refine sw_step rfl rfl rfl (OpR.q (q_move rfl rfl)) ?_
      refine sw_step rfl rfl rfl (OpR.q (q_add rfl rfl rfl (by intro hc; omega))) ?_
      refine sw_step rfl rfl rfl (OpR.q (q_assign rfl rfl)) ?_
      refine sw_nil ?_
      refine post_next (k + 1) (by exact .cons rfl (.cons rfl .nil)) (fun _ h => h) ⟨by omega, fun j hj => ?_⟩ (by omega)
      by_cases hjk : j = k
      · rw [hjk]; simpa using h3
      · exact hbe j (by omega)
  · skip
    have hk' : k = a.length := by simp only [decide_eq_false_iff_not] at h2; omega
    subst hk'
    have he : okS a = true := by
      unfold okS
      rw [List.all_eq_true]
      intro x hx
      obtain ⟨i, hi, rfl⟩ := List.getElem_of_mem hx
      have := hbe i hi
      rw [nth_get hi] at this; exact this
    refine cw_exit ?_
    refine post_then_x ?_
    refine post_then_x ?_
    refine post_blk_eq ?_
    refine post_then ?_
    refine cw_seq ?_
    -- region 6
    refine cw_region ?_
    refine sw_step rfl rfl rfl (OpR.q (q_assign rfl rfl)) ?_
    refine sw_nil ?_
    refine post_then ?_
    refine cw_ret ?_
    refine post_ret1 rfl (resOk_tmp rfl) ?_
    exact fun w' hw => ⟨by rw [he], hw⟩

/-! ### the closures of ContainsFunc, and what calls them -/
theorem outside_spec (x : Int) (w : World) : Calls Try.prog 78 #[.int .i64 x] w fun e w' => e = .returned (.bool (!inB x (-32768) 32767)) ∧ Cl w [] [] w' := by
  refine calls_cw (vs := [_]) Try.func78 rfl Try.ntmps78 rfl (Cl.start0 w) ?_
  refine cw_seq ?_
  -- region 0
  refine cw_region ?_
  refine sw_step rfl rfl rfl (OpR.q (q_assign rfl rfl)) ?_
  refine sw_nil ?_
  refine post_then ?_
  refine cw_seq ?_
  -- region 1
  refine cw_region ?_
  refine sw_step rfl rfl rfl (OpR.q (q_move rfl rfl)) ?_
  refine sw_step rfl rfl rfl (OpR.q (q_lss rfl rfl rfl)) ?_
  refine sw_step rfl rfl rfl (OpR.q (q_move rfl rfl)) ?_
  refine sw_step rfl rfl rfl (OpR.q (q_move rfl rfl)) ?_
  refine sw_step rfl rfl rfl (OpR.q (q_gtr rfl rfl rfl)) ?_
  refine sw_step rfl rfl rfl (OpR.q (q_or2 rfl rfl rfl)) ?_
  refine sw_step rfl rfl rfl (OpR.q (q_assign rfl rfl)) ?_
  refine sw_nil ?_
  refine post_then ?_
  refine cw_ret ?_
  refine post_ret1 rfl (resOk_tmp rfl) ?_
  refine fun w' hw => ⟨?_, hw⟩
  congr 2
  unfold inB
  rw [Bool.eq_iff_iff]; simp <;> omega
theorem pred_outside : PredF Try.prog 78 #[] (fun x : Int => !inB x (-32768) 32767) (fun _ => True) := ⟨fun x w _ => outside_spec x w⟩
theorem int1_spec (x : Int) (w : World) : Calls Try.prog 92 #[.int .i64 x] w fun e w' => e = .returned (.bool (!inB x (-1000000000) 1000000000)) ∧ Cl w [] [] w' := by
  refine calls_cw (vs := [_]) Try.func92 rfl Try.ntmps92 rfl (Cl.start0 w) ?_
  refine cw_seq ?_
  -- region 0
  refine cw_region ?_
  refine sw_step rfl rfl rfl (OpR.q (q_assign rfl rfl)) ?_
  refine sw_nil ?_
  refine post_then ?_
  refine cw_seq ?_
  -- region 1
  refine cw_region ?_
  refine sw_step rfl rfl rfl (OpR.q (q_move rfl rfl)) ?_
  refine sw_step rfl rfl rfl (q_call (CanCall.mk Try.call52) rfl (.cons rfl inferInstance (.cons rfl inferInstance (.cons rfl inferInstance (.nil)))) (fun _ w hw => callq hw (within_spec _ _ _ w))) ?_
  refine sw_step rfl rfl rfl (OpR.q (q_not rfl rfl)) ?_
  refine sw_step rfl rfl rfl (OpR.q (q_assign rfl rfl)) ?_
  refine sw_nil ?_
  refine post_then ?_
  refine cw_ret ?_
  refine post_ret1 rfl (resOk_tmp rfl) ?_
  exact fun w' hw => ⟨rfl, hw⟩
theorem pred_int1 : PredF Try.prog 92 #[] (fun x : Int => !inB x (-1000000000) 1000000000) (fun _ => True) := ⟨fun x w _ => int1_spec x w⟩
theorem wave1_spec (s : SlV) (w : World) : Calls Try.prog 91 #[s.v] w fun e w' => e = .returned (.bool (decide ((100000 : Int) < s.len))) ∧ Cl w [] [] w' := by
  refine calls_cw (vs := [_]) Try.func91 rfl Try.ntmps91 rfl (Cl.start0 w) ?_
  refine cw_seq ?_
  -- region 0
  refine cw_region ?_
  refine sw_step rfl rfl rfl (OpR.q (q_assign rfl rfl)) ?_
  refine sw_nil ?_
  refine post_then ?_
  refine cw_seq ?_
  -- region 1
  refine cw_region ?_
  refine sw_step rfl rfl rfl (OpR.q (q_move rfl rfl)) ?_
  refine sw_step rfl rfl rfl (OpR.q (q_lenV rfl (.cons rfl inferInstance (.nil)))) ?_
  refine sw_step rfl rfl rfl (OpR.q (q_gtr rfl rfl rfl)) ?_
  refine sw_step rfl rfl rfl (OpR.q (q_assign rfl rfl)) ?_
  refine sw_nil ?_
  refine post_then ?_
  refine cw_ret ?_
  refine post_ret1 rfl (resOk_tmp rfl) ?_
  exact fun w' hw => ⟨rfl, hw⟩
theorem pred_wave1 : PredF Try.prog 91 #[] (fun s : SlV => decide ((100000 : Int) < s.len)) (fun _ => True) := ⟨fun x w _ => wave1_spec x w⟩

/-- The error of integers. -/
def intsE (x : List Int) : Int := if 40 < x.length then 4 else if x.all (fun v => inB v (-1000000000) 1000000000) then 0 else 2
theorem any_not {α : Type} (l : List α) (p : α → Bool) : l.any (fun x => !p x) = !l.all p := by
  induction l with
  | nil => rfl
  | cons x l ih => simp [ih]
theorem integers_spec (xv : Value) (x : List Int) (w : World) (hx : Stb w [] (RdL xv x)) : Calls Try.prog 64 #[xv] w fun e w' => e = .returned (.int .i64 (intsE x)) ∧ Cl w [] [] w' := by
  refine calls_cw (vs := [_]) Try.func64 rfl Try.ntmps64 rfl (Cl.start0 w) ?_
  refine cw_seq ?_
  -- region 0
  refine cw_region ?_
  refine sw_step rfl rfl rfl (OpR.q (q_assign rfl rfl)) ?_
  refine sw_nil ?_
  refine post_then ?_
  refine cw_seq ?_
  refine cw_seq ?_
  -- region 1
  refine cw_region ?_
  refine sw_step rfl rfl rfl (OpR.q (q_move rfl rfl)) ?_
  refine sw_step rfl rfl rfl (OpR.q (q_len rfl (.cons rfl inferInstance (.nil)) (by exact fun w hw => Stb.cl (by assumption) hw))) ?_
  refine sw_step rfl rfl rfl (OpR.q (q_gtr rfl rfl rfl)) ?_
  refine sw_nil ?_
  refine post_then ?_
  -- STOP at: cond
  refine cw_cond rfl (fun h => ?_) (fun h => ?_)
  · skip
    have h' : 40 < x.length := by simp only [decide_eq_true_eq] at h; omega
    refine cw_seq ?_
    -- region 2
    refine cw_region ?_
    refine sw_step rfl rfl rfl (OpR.q (q_assign rfl rfl)) ?_
    refine sw_nil ?_
    refine post_then ?_
    refine cw_ret ?_
    refine post_then_r ?_
    refine post_ret1 rfl (resOk_tmp rfl) ?_
    exact fun w' hw => ⟨by simp [intsE, h'], hw⟩
  · skip
    have h' : ¬ 40 < x.length := by simp only [decide_eq_false_iff_not] at h; omega
    refine cw_skip ?_
    refine post_then ?_
    refine cw_seq ?_
    refine cw_seq ?_
    -- region 3
    refine cw_region ?_
    refine sw_step rfl rfl rfl (OpR.q (q_move rfl rfl)) ?_
    refine sw_step rfl rfl rfl (q_call (CanCall.mk Try.call77) rfl (.cons rfl inferInstance (.cons rfl inferInstance (.nil))) (fun _ w hw => callq hw (containsInt_spec _ _ _ _ _ _ w (by exact stb_arg hw (by assumption)) (stb_true _ _) (CanCall.mk Try.call92) pred_int1))) ?_
    refine sw_nil ?_
    refine post_then ?_
    -- STOP at: cond
    refine cw_cond rfl (fun h2 => ?_) (fun h2 => ?_)
    · skip
      have h3 : x.all (fun v => inB v (-1000000000) 1000000000) = false := by rw [any_not] at h2; simpa using h2
      refine cw_seq ?_
      -- region 4
      refine cw_region ?_
      refine sw_step rfl rfl rfl (OpR.q (q_assign rfl rfl)) ?_
      refine sw_nil ?_
      refine post_then ?_
      refine cw_ret ?_
      refine post_then_r ?_
      refine post_ret1 rfl (resOk_tmp rfl) ?_
      exact fun w' hw => ⟨by simp [intsE, h', h3], hw⟩
    · skip
      have h3 : x.all (fun v => inB v (-1000000000) 1000000000) = true := by rw [any_not] at h2; simpa using h2
      refine cw_skip ?_
      refine post_then ?_
      refine cw_seq ?_
      -- region 5
      refine cw_region ?_
      refine sw_step rfl rfl rfl (OpR.q (q_assign rfl rfl)) ?_
      refine sw_nil ?_
      refine post_then ?_
      refine cw_ret ?_
      refine post_ret1 rfl (resOk_tmp rfl) ?_
      exact fun w' hw => ⟨by simp [intsE, h', h3], hw⟩

/-- The error of waves. -/
def waveE (ll : List (List Int)) : Int := if ll.any (fun a => decide (100000 < a.length)) then 4 else if ll.all okS then 0 else 2
theorem wave_spec (lv : Value) (vs : List SlV) (ll : List (List Int)) (w : World) (hl : Stb w [] (RdL lv vs)) (hn : vs.length = ll.length) (hr : ∀ i, i < ll.length → Stb w [] (RdL (nth vs i).v (nth ll i))) :
    Calls Try.prog 62 #[lv] w fun e w' => e = .returned (.int .i64 (waveE ll)) ∧ Cl w [] [] w' := by
  have hL := rd_len hl.here
  have hlong : vs.any (fun s : SlV => decide ((100000 : Int) < s.len)) = ll.any (fun a => decide (100000 < a.length)) := by
    rw [Bool.eq_iff_iff, List.any_eq_true, List.any_eq_true]
    constructor
    · rintro ⟨s, hs, h⟩
      obtain ⟨i, hi, rfl⟩ := List.getElem_of_mem hs
      have h1 := (hr i (by omega)).here.len
      rw [nth_get hi] at h1
      exact ⟨nth ll i, by rw [nth_get (by omega)]; exact List.getElem_mem _, by simp at h ⊢; omega⟩
    · rintro ⟨a, ha, h⟩
      obtain ⟨i, hi, rfl⟩ := List.getElem_of_mem ha
      have h1 := (hr i hi).here.len
      rw [nth_get hi, nth_get (by omega : i < vs.length)] at h1
      exact ⟨vs[i], List.getElem_mem _, by simp at h ⊢; omega⟩
  refine calls_cw (vs := [_]) Try.func62 rfl Try.ntmps62 rfl (Cl.start0 w) ?_
  refine cw_seq ?_
  -- region 0
  refine cw_region ?_
  refine sw_step rfl rfl rfl (OpR.q (q_assign rfl rfl)) ?_
  refine sw_nil ?_
  refine post_then ?_
  refine cw_seq ?_
  refine cw_seq ?_
  -- region 1
  refine cw_region ?_
  refine sw_step rfl rfl rfl (OpR.q (q_move rfl rfl)) ?_
  refine sw_step rfl rfl rfl (q_call (CanCall.mk Try.call90) rfl (.cons rfl inferInstance (.cons rfl inferInstance (.nil))) (fun _ w hw => callq hw (containsRow_spec _ _ _ _ _ _ w (by exact stb_arg hw (by assumption)) (stb_true _ _) (CanCall.mk Try.call91) pred_wave1))) ?_
  refine sw_nil ?_
  refine post_then ?_
  -- STOP at: cond
  refine cw_cond rfl (fun h => ?_) (fun h => ?_)
  · skip
    refine cw_seq ?_
    -- region 2
    refine cw_region ?_
    refine sw_step rfl rfl rfl (OpR.q (q_assign rfl rfl)) ?_
    refine sw_nil ?_
    refine post_then ?_
    refine cw_ret ?_
    refine post_then_r ?_
    refine post_ret1 rfl (resOk_tmp rfl) ?_
    exact fun w' hw => ⟨by rw [hlong] at h; simp [waveE, h], hw⟩
  · skip
    rw [hlong] at h
    refine cw_skip ?_
    refine post_then ?_
    refine cw_seq ?_
    refine cw_seq ?_
    -- region 3
    refine cw_region ?_
    refine sw_step rfl rfl rfl (OpR.q (q_move rfl rfl)) ?_
    refine sw_step rfl rfl rfl (OpR.q (q_len rfl (.cons rfl inferInstance (.nil)) (by exact fun w hw => Stb.cl (by assumption) hw))) ?_
    refine sw_step rfl rfl rfl (OpR.q (q_move rfl rfl)) ?_
    refine sw_nil ?_
    refine post_then ?_
    refine cw_block ?_
    -- STOP at: loop
    refine cw_loop (S := Nat) (fun k => [(7, [], lv), (8, [], .int .i64 vs.length), (9, [], .int .i64 k)]) (fun _ => Cl w [] []) (fun k => k ≤ vs.length ∧ ∀ j, j < k → okS (nth ll j) = true) (fun k => vs.length - k) 0 ⟨by omega, fun j hj => by omega⟩ (by exact .cons rfl (.cons rfl (.cons rfl .nil))) (fun _ h => h) ?_
    rintro k ⟨hk, hbe⟩
    refine cw_seq ?_
    -- region 4
    refine cw_region ?_
    refine sw_step rfl rfl rfl (OpR.q (q_lss rfl rfl rfl)) ?_
    refine sw_nil ?_
    refine post_then ?_
    refine cw_seq ?_
    -- STOP at: cond
    refine cw_cond rfl (fun h2 => ?_) (fun h2 => ?_)
    · skip
      have hk' : k < vs.length := by simp only [decide_eq_true_eq] at h2; omega
      have hrk := hr k (by omega)
      refine cw_skip ?_
      refine post_then ?_
      refine cw_seq ?_
      refine cw_block ?_
      refine cw_seq ?_
      -- region 5
      refine cw_region ?_
      refine sw_step rfl rfl rfl (OpR.q (q_indexN rfl rfl rfl (by exact fun w hw => Stb.cl (by assumption) hw) (by intro hc; omega))) ?_
      refine sw_step rfl rfl rfl (OpR.q (q_loadEl rfl rfl rfl (by exact fun w hw => Stb.cl (by assumption) hw) (by intro hc; omega))) ?_
      refine sw_step rfl rfl rfl (OpR.q (q_assign rfl rfl)) ?_
      refine sw_nil ?_
      refine post_then ?_
      refine cw_seq ?_
      -- region 6
      refine cw_region ?_
      refine sw_step rfl rfl rfl (OpR.q (q_move rfl rfl)) ?_
      refine sw_step rfl rfl rfl (q_call (CanCall.mk Try.call77) rfl (.cons rfl inferInstance (.cons rfl inferInstance (.nil))) (fun _ w hw => callq hw (containsInt_spec _ _ _ _ _ _ w (by exact stb_arg hw (by assumption)) (stb_true _ _) (CanCall.mk Try.call78) pred_outside))) ?_
      refine sw_nil ?_
      refine post_then ?_
      -- STOP at: cond
      refine cw_cond rfl (fun h3 => ?_) (fun h3 => ?_)
      · skip
        have h4 : ll.all okS = false := by
          rw [any_not] at h3
          rw [List.all_eq_false]
          exact ⟨nth ll k, by rw [nth_get (by omega)]; exact List.getElem_mem _, by simpa [okS] using h3⟩
        refine cw_seq ?_
        -- region 7
        refine cw_region ?_
        refine sw_step rfl rfl rfl (OpR.q (q_assign rfl rfl)) ?_
        refine sw_nil ?_
        refine post_then ?_
        refine cw_ret ?_
        refine post_blk_r ?_
        refine post_then_r ?_
        refine post_then_r ?_
        refine post_blk_r ?_
        refine post_then_r ?_
        refine post_ret1 rfl (resOk_tmp rfl) ?_
        exact fun w' hw => ⟨by simp [waveE, h, h4], hw⟩
      · skip
        rw [any_not] at h3
        refine cw_skip ?_
        refine post_blk ?_
        refine post_then ?_
        -- region 8
        refine cw_region ?_
        refine sw_step rfl rfl rfl (OpR.q (q_add rfl rfl rfl (by intro hc; omega))) ?_
        refine sw_step rfl rfl rfl (OpR.q (q_move rfl rfl)) ?_
        refine sw_nil ?_
        refine post_next (k + 1) (by exact .cons rfl (.cons rfl (.cons rfl .nil))) (fun _ h => h) ⟨by omega, fun j hj => ?_⟩ (by omega)
        by_cases hjk : j = k
        · rw [hjk]; simpa [okS] using h3
        · exact hbe j (by omega)
    · skip
      have hk' : k = vs.length := by simp only [decide_eq_false_iff_not] at h2; omega
      subst hk'
      have he : ll.all okS = true := by
        rw [List.all_eq_true]
        intro x hx
        obtain ⟨i, hi, rfl⟩ := List.getElem_of_mem hx
        have := hbe i (by omega)
        rw [nth_get hi] at this; exact this
      refine cw_exit ?_
      refine post_then_x ?_
      refine post_then_x ?_
      refine post_blk_eq ?_
      refine post_then ?_
      refine cw_seq ?_
      -- region 9
      refine cw_region ?_
      refine sw_step rfl rfl rfl (OpR.q (q_assign rfl rfl)) ?_
      refine sw_nil ?_
      refine post_then ?_
      refine cw_ret ?_
      refine post_ret1 rfl (resOk_tmp rfl) ?_
      exact fun w' hw => ⟨by simp [waveE, h, he], hw⟩
end Go.Proofs.Ytekikelejncgeaa
