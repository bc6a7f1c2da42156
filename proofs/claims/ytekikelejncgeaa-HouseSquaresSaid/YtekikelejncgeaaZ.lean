import Derived.Test.YtekikelejncgeaaY
set_option autoImplicit false
set_option linter.unusedSimpArgs false
set_option linter.unusedVariables false
set_option maxRecDepth 100000
namespace Go.Proofs.Ytekikelejncgeaa
open Go.Sx
open Enc (enc val)

/-! ### marked waves: small walks -/
theorem corr_spec (av cv : Value) (a c : List Int) (w : World) (ha : Stb w [] (RdL av a)) (hc : Stb w [] (RdL cv c)) (hcl : c.length ≤ a.length) (hl : c.length ≤ 256) (hi : IsChips c) (hb : ∀ i, -4000000000 ≤ nth a i ∧ nth a i ≤ 4000000000) :
    Calls Try.prog 74 #[av, cv] w fun e w' => e = .returned (.int .i64 (corrTo a c 0 c.length)) ∧ Cl w [] [] w' := by
  refine calls_cw (vs := [_, _]) Try.func74 rfl Try.ntmps74 rfl (Cl.start0 w) ?_
  refine cw_seq ?_
  -- region 0
  refine cw_region ?_
  refine sw_step rfl rfl rfl (OpR.q (q_assign rfl rfl)) ?_
  refine sw_nil ?_
  refine post_then ?_
  refine cw_seq ?_
  -- region 1
  refine cw_region ?_
  refine sw_step rfl rfl rfl (OpR.q (q_assign rfl rfl)) ?_
  refine sw_nil ?_
  refine post_then ?_
  refine cw_seq ?_
  refine cw_seq ?_
  -- region 2
  refine cw_region ?_
  refine sw_step rfl rfl rfl (OpR.q (q_move rfl rfl)) ?_
  refine sw_step rfl rfl rfl (OpR.q (q_len rfl (.cons rfl inferInstance (.nil)) (by exact fun w hw => Stb.cl (by assumption) hw))) ?_
  refine sw_step rfl rfl rfl (OpR.q (q_move rfl rfl)) ?_
  refine sw_nil ?_
  refine post_then ?_
  refine cw_block ?_
  -- STOP at: loop
  refine cw_loop (S := Nat) (fun k => [(0, [], av), (5, [], .int .i64 (corrTo a c 0 k)), (8, [], cv), (9, [], .int .i64 c.length), (10, [], .int .i64 k)]) (fun _ => Cl w [] []) (fun k => k ≤ c.length) (fun k => c.length - k) 0 (by omega) (by exact .cons rfl (.cons rfl (.cons rfl (.cons rfl (.cons rfl .nil))))) (fun _ h => h) ?_
  intro k hk
  have h1 := corr_bd0 (a := a) (o := 0) hi hl hk hb
  refine cw_seq ?_
  -- region 3
  refine cw_region ?_
  refine sw_step rfl rfl rfl (OpR.q (q_lss rfl rfl rfl)) ?_
  refine sw_nil ?_
  refine post_then ?_
  refine cw_seq ?_
  -- STOP at: cond
  refine cw_cond rfl (fun h => ?_) (fun h => ?_)
  · skip
    have hk' : k < c.length := by simp only [decide_eq_true_eq] at h; omega
    have h2 := mul_pm (hi k hk') (hb k)
    refine cw_skip ?_
    refine post_then ?_
    refine cw_seq ?_
    refine cw_block ?_
    refine cw_seq ?_
    -- region 4
    refine cw_region ?_
    refine sw_step rfl rfl rfl (OpR.q (q_move rfl rfl)) ?_
    refine sw_step rfl rfl rfl (OpR.q (q_indexN rfl rfl rfl (by exact fun w hw => Stb.cl (by assumption) hw) (by intro hc; omega))) ?_
    refine sw_step rfl rfl rfl (OpR.q (q_loadEl rfl rfl rfl (by exact fun w hw => Stb.cl (by assumption) hw) (by intro hc; omega))) ?_
    refine sw_step rfl rfl rfl (OpR.q (q_assign rfl rfl)) ?_
    refine sw_step rfl rfl rfl (OpR.q (q_assign rfl rfl)) ?_
    refine sw_nil ?_
    refine post_then ?_
    -- region 5
    refine cw_region ?_
    refine sw_step rfl rfl rfl (OpR.q (q_move rfl rfl)) ?_
    refine sw_step rfl rfl rfl (OpR.q (q_move rfl rfl)) ?_
    refine sw_step rfl rfl rfl (OpR.q (q_move rfl rfl)) ?_
    refine sw_step rfl rfl rfl (OpR.q (q_indexN rfl rfl rfl (by exact fun w hw => Stb.cl (by assumption) hw) (by intro hc; omega))) ?_
    refine sw_step rfl rfl rfl (OpR.q (q_loadEl rfl rfl rfl (by exact fun w hw => Stb.cl (by assumption) hw) (by intro hc; omega))) ?_
    refine sw_step rfl rfl rfl (OpR.q (q_move rfl rfl)) ?_
    refine sw_step rfl rfl rfl (OpR.q (q_mul rfl rfl rfl (by intro hc; omega))) ?_
    refine sw_step rfl rfl rfl (OpR.q (q_add rfl rfl rfl (by intro hc; omega))) ?_
    refine sw_step rfl rfl rfl (OpR.q (q_assign rfl rfl)) ?_
    refine sw_nil ?_
    refine post_blk ?_
    refine post_then ?_
    -- region 6
    refine cw_region ?_
    refine sw_step rfl rfl rfl (OpR.q (q_add rfl rfl rfl (by intro hc; omega))) ?_
    refine sw_step rfl rfl rfl (OpR.q (q_move rfl rfl)) ?_
    refine sw_nil ?_
    exact post_next (k + 1) (Le.cons rfl (Le.cons' rfl (by simp only [corrTo, Nat.zero_add]) (Le.cons rfl (Le.cons rfl (Le.cons rfl Le.nil))))) (fun _ h => h) (by omega) (by omega)
  · skip
    have hk' : k = c.length := by simp only [decide_eq_false_iff_not] at h; omega
    subst hk'
    refine cw_exit ?_
    refine post_then_x ?_
    refine post_then_x ?_
    refine post_blk_eq ?_
    refine post_then ?_
    refine cw_seq ?_
    -- region 7
    refine cw_region ?_
    refine sw_step rfl rfl rfl (OpR.q (q_move rfl rfl)) ?_
    refine sw_step rfl rfl rfl (OpR.q (q_assign rfl rfl)) ?_
    refine sw_nil ?_
    refine post_then ?_
    refine cw_ret ?_
    refine post_ret1 rfl (resOk_tmp rfl) ?_
    exact fun w' hw => ⟨rfl, hw⟩
theorem refCorr_spec (av cv : Value) (a c : List Int) (w : World) (ha : Stb w [] (RdL av a)) (hc : Stb w [] (RdL cv c)) (hcl : c.length ≤ a.length) (hl : c.length ≤ 256) (hi : IsChips c) (hb : ∀ i, -4000000000 ≤ nth a i ∧ nth a i ≤ 4000000000) :
    Calls Try.prog 80 #[av, cv] w fun e w' => e = .returned (.int .i64 (corrTo a c 0 c.length)) ∧ Cl w [] [] w' := by
  refine calls_cw (vs := [_, _]) Try.func80 rfl Try.ntmps80 rfl (Cl.start0 w) ?_
  refine cw_seq ?_
  -- region 0
  refine cw_region ?_
  refine sw_step rfl rfl rfl (OpR.q (q_assign rfl rfl)) ?_
  refine sw_nil ?_
  refine post_then ?_
  refine cw_seq ?_
  -- region 1
  refine cw_region ?_
  refine sw_step rfl rfl rfl (OpR.q (q_assign rfl rfl)) ?_
  refine sw_nil ?_
  refine post_then ?_
  refine cw_seq ?_
  refine cw_seq ?_
  -- region 2
  refine cw_region ?_
  refine sw_step rfl rfl rfl (OpR.q (q_assign rfl rfl)) ?_
  refine sw_nil ?_
  refine post_then ?_
  refine cw_block ?_
  -- STOP at: loop
  refine cw_loop (S := Nat) (fun k => [(0, [], av), (1, [], cv), (5, [], .int .i64 (corrTo a c 0 k)), (6, [], .int .i64 k)]) (fun _ => Cl w [] []) (fun k => k ≤ c.length) (fun k => c.length - k) 0 (by omega) (by exact .cons rfl (.cons rfl (.cons rfl (.cons rfl .nil)))) (fun _ h => h) ?_
  intro k hk
  have h1 := corr_bd0 (a := a) (o := 0) hi hl hk hb
  refine cw_seq ?_
  refine cw_seq ?_
  -- region 3
  refine cw_region ?_
  refine sw_step rfl rfl rfl (OpR.q (q_move rfl rfl)) ?_
  refine sw_step rfl rfl rfl (OpR.q (q_move rfl rfl)) ?_
  refine sw_step rfl rfl rfl (OpR.q (q_len rfl (.cons rfl inferInstance (.nil)) (by exact fun w hw => Stb.cl (by assumption) hw))) ?_
  refine sw_step rfl rfl rfl (OpR.q (q_lss rfl rfl rfl)) ?_
  refine sw_nil ?_
  refine post_then ?_
  -- STOP at: cond
  refine cw_cond rfl (fun h => ?_) (fun h => ?_)
  · skip
    have hk' : k < c.length := by simp only [decide_eq_true_eq] at h; omega
    have h2 := mul_pm (hi k hk') (hb k)
    refine cw_skip ?_
    refine post_then ?_
    refine cw_seq ?_
    refine cw_block ?_
    -- region 5
    refine cw_region_q mixed_Try (by kernel_rfl) ?_
    refine qw_step rfl rfl rfl (OpR.q (q_move rfl rfl)) ?_
    refine qw_step rfl rfl rfl (OpR.q (q_move rfl rfl)) ?_
    refine qw_step rfl rfl rfl (OpR.q (q_move rfl rfl)) ?_
    refine qw_step rfl rfl rfl (OpR.q (q_indexN rfl rfl rfl (by exact fun w hw => Stb.cl (by assumption) hw) (by intro hc; omega))) ?_
    refine qw_step rfl rfl rfl (OpR.q (q_loadEl rfl rfl rfl (by exact fun w hw => Stb.cl (by assumption) hw) (by intro hc; omega))) ?_
    refine qw_step rfl rfl rfl (OpR.q (q_move rfl rfl)) ?_
    refine qw_step rfl rfl rfl (OpR.q (q_move rfl rfl)) ?_
    refine qw_step rfl rfl rfl (OpR.q (q_indexN rfl rfl rfl (by exact fun w hw => Stb.cl (by assumption) hw) (by intro hc; omega))) ?_
    refine qw_step rfl rfl rfl (OpR.q (q_loadEl rfl rfl rfl (by exact fun w hw => Stb.cl (by assumption) hw) (by intro hc; omega))) ?_
    refine qw_step rfl rfl rfl (OpR.q (q_mul rfl rfl rfl (by intro hc; omega))) ?_
    refine qw_step rfl rfl rfl (OpR.q (q_add rfl rfl rfl (by intro hc; omega))) ?_
    refine qw_step rfl rfl rfl (OpR.q (q_assign rfl rfl)) ?_
    refine qw_end ?_
    refine post_blk ?_
    refine post_then ?_
    -- region 4
    refine cw_region ?_
    refine sw_step rfl rfl rfl (OpR.q (q_move rfl rfl)) ?_
    refine sw_step rfl rfl rfl (OpR.q (q_add rfl rfl rfl (by intro hc; omega))) ?_
    refine sw_step rfl rfl rfl (OpR.q (q_assign rfl rfl)) ?_
    refine sw_nil ?_
    exact post_next (k + 1) (Le.cons rfl (Le.cons rfl (Le.cons' rfl (by simp only [corrTo, Nat.zero_add]) (Le.cons rfl Le.nil)))) (fun _ h => h) (by omega) (by omega)
  · skip
    have hk' : k = c.length := by simp only [decide_eq_false_iff_not] at h; omega
    subst hk'
    refine cw_exit ?_
    refine post_then_x ?_
    refine post_then_x ?_
    refine post_blk_eq ?_
    refine post_then ?_
    refine cw_seq ?_
    -- region 6
    refine cw_region ?_
    refine sw_step rfl rfl rfl (OpR.q (q_move rfl rfl)) ?_
    refine sw_step rfl rfl rfl (OpR.q (q_assign rfl rfl)) ?_
    refine sw_nil ?_
    refine post_then ?_
    refine cw_ret ?_
    refine post_ret1 rfl (resOk_tmp rfl) ?_
    exact fun w' hw => ⟨rfl, hw⟩
theorem frame_spec (m : Stamp) (hm : rightS m = true) (w : World) : Calls Try.prog 48 #[val m] w fun e w' => e = .returned (.int .i64 (frameN m)) ∧ Cl w [] [] w' := by
  have hb := rightS_bd hm
  have h1 := frameN_eq hm
  have h2 := frameN_bd hm
  refine calls_cw (vs := [_]) Try.func48 rfl Try.ntmps48 rfl (Cl.start0 w) ?_
  refine cw_seq ?_
  -- region 0
  refine cw_region ?_
  refine sw_x rfl rfl rfl (e_box rfl rfl rfl) (fun b1 => ?_)
  refine sw_step rfl rfl rfl (OpR.q (q_assign rfl rfl)) ?_
  refine sw_nil ?_
  refine post_then ?_
  refine cw_seq ?_
  -- region 1
  refine cw_region ?_
  refine sw_step rfl rfl rfl (OpR.q (q_fieldAddr rfl rfl)) ?_
  refine sw_step rfl rfl rfl (OpR.q (q_loadC rfl rfl (by exact .head _) rfl)) ?_
  refine sw_step rfl rfl rfl (OpR.q (q_add rfl rfl rfl (by intro hc; omega))) ?_
  refine sw_step rfl rfl rfl (OpR.q (q_fieldAddr rfl rfl)) ?_
  refine sw_step rfl rfl rfl (OpR.q (q_loadC rfl rfl (by exact .head _) rfl)) ?_
  refine sw_step rfl rfl rfl (OpR.q (q_mul rfl rfl rfl (by intro hc; omega))) ?_
  refine sw_step rfl rfl rfl (OpR.q (q_assign rfl rfl)) ?_
  refine sw_nil ?_
  refine post_then ?_
  refine cw_ret ?_
  refine post_ret1 rfl (resOk_tmp rfl) ?_
  refine fun w' hw => ⟨by rw [h1], (fun w h => Cl.sel (by exact .nil _) w h) _ hw⟩
theorem size_spec (m : Stamp) (hm : rightS m = true) (b : Nat) (s0 : SlV) (w : World) (hk : Stb w [] (BlkAt b (mkC m s0) 108)) : Calls Try.prog 75 #[.pointer (some ⟨b, 0, none⟩)] w fun e w' => e = .returned (.int .i64 (frameN m)) ∧ Cl w [] [] w' := by
  have hb := rightS_bd hm
  have h1 := frameN_eq hm
  have h2 := frameN_bd hm
  refine calls_cw (vs := [_]) Try.func75 rfl Try.ntmps75 rfl (Cl.start0 w) ?_
  refine cw_seq ?_
  -- region 0
  refine cw_region ?_
  refine sw_step rfl rfl rfl (OpR.q (q_assign rfl rfl)) ?_
  refine sw_nil ?_
  refine post_then ?_
  refine cw_seq ?_
  -- region 1
  refine cw_region_q mixed_Try (by kernel_rfl) ?_
  refine qw_step rfl rfl rfl (OpR.q (q_move rfl rfl)) ?_
  refine qw_step rfl rfl rfl (OpR.q (q_nilCheck rfl rfl)) ?_
  refine qw_step rfl rfl rfl (OpR.q (q_fieldAddr rfl rfl)) ?_
  refine qw_step rfl rfl rfl (OpR.q (q_fieldAddr rfl rfl)) ?_
  refine qw_step rfl rfl rfl (OpR.q (q_loadS rfl rfl (fun w hw => Stb.cl (by assumption) hw) rfl)) ?_
  refine qw_step rfl rfl rfl (OpR.q (q_add rfl rfl rfl (by intro hc; omega))) ?_
  refine qw_step rfl rfl rfl (OpR.q (q_move rfl rfl)) ?_
  refine qw_step rfl rfl rfl (OpR.q (q_nilCheck rfl rfl)) ?_
  refine qw_step rfl rfl rfl (OpR.q (q_fieldAddr rfl rfl)) ?_
  refine qw_step rfl rfl rfl (OpR.q (q_fieldAddr rfl rfl)) ?_
  refine qw_step rfl rfl rfl (OpR.q (q_loadS rfl rfl (fun w hw => Stb.cl (by assumption) hw) rfl)) ?_
  refine qw_step rfl rfl rfl (OpR.q (q_mul rfl rfl rfl (by intro hc; omega))) ?_
  refine qw_step rfl rfl rfl (OpR.q (q_assign rfl rfl)) ?_
  refine qw_end ?_
  refine post_then ?_
  refine cw_ret ?_
  refine post_ret1 rfl (resOk_tmp rfl) ?_
  refine fun w' hw => ⟨by rw [h1], (fun w h => Cl.sel (by exact .nil _) w h) _ hw⟩
theorem refPc_spec (m : Stamp) (hm : rightS m = true) (p : Nat) (w : World) :
    Calls Try.prog 79 #[val m, .int .i64 p] w fun e w' => ∃ s : SlV, e = .returned (if p = 0 then (s.sub 1 0 m.period.toNat).v else (s.sub 1 m.period.toNat (chipsL m.key (2 * m.period).toNat).length).v) ∧ True ∧ Cl w [] [ownL 3 s.v (chipsL m.key (2 * m.period).toNat)] w' := by
  have hb := rightS_bd hm
  have e2 : 2 * m.period = ((2 * m.period).toNat : Int) := by omega
  have hlen := chipsL_len m.key (2 * m.period).toNat
  refine calls_cw (vs := [_, _]) Try.func79 rfl Try.ntmps79 rfl (Cl.start0 w) ?_
  refine cw_seq ?_
  -- region 0
  refine cw_region ?_
  refine sw_x rfl rfl rfl (e_box rfl rfl rfl) (fun b2 => ?_)
  refine sw_step rfl rfl rfl (OpR.q (q_assign rfl rfl)) ?_
  refine sw_nil ?_
  refine post_then ?_
  refine cw_seq ?_
  -- region 1
  refine cw_region ?_
  refine sw_step rfl rfl rfl (OpR.q (q_fieldAddr rfl rfl)) ?_
  refine sw_step rfl rfl rfl (OpR.q (q_loadC rfl rfl (by exact .head _) rfl)) ?_
  refine sw_step rfl rfl rfl (OpR.q (q_fieldAddr rfl rfl)) ?_
  refine sw_step rfl rfl rfl (OpR.q (q_loadC rfl rfl (by exact .head _) rfl)) ?_
  refine sw_step rfl rfl rfl (OpR.q (q_mul rfl rfl rfl (by intro hc; omega))) ?_
  -- STOP at: t11  := call {callee=(value F35), args=[t7, t10], argTypes=[3, 3]} :37
  refine sw_x rfl rfl rfl (e_call (CanCall.mk Try.call35) rfl (.cons rfl inferInstance (.cons rfl inferInstance (.nil))) (fun w hw => by rw [e2]; exact refChips_spec m.key (2 * m.period).toNat (by omega) w)) (fun s11 => ?_)
  refine sw_imp fun _ => ?_
  refine sw_step rfl rfl rfl (OpR.q (q_assign rfl rfl)) ?_
  refine sw_nil ?_
  refine post_then ?_
  refine cw_seq ?_
  refine cw_seq ?_
  -- region 2
  refine cw_region ?_
  refine sw_step rfl rfl rfl (OpR.q (q_move rfl rfl)) ?_
  refine sw_step rfl rfl rfl (OpR.q (q_eql rfl rfl rfl)) ?_
  refine sw_nil ?_
  refine post_then ?_
  -- STOP at: cond
  refine cw_cond rfl (fun h => ?_) (fun h => ?_)
  · skip
    have hp : p = 0 := by simpa using h
    refine cw_seq ?_
    -- region 3
    refine cw_region ?_
    refine sw_step rfl rfl rfl (OpR.q (q_move rfl rfl)) ?_
    refine sw_step rfl rfl rfl (OpR.q (q_fieldAddr rfl rfl)) ?_
    refine sw_step rfl rfl rfl (OpR.q (q_loadC rfl rfl (by exact .tail _ (.head _)) rfl)) ?_
    refine sw_step rfl rfl rfl (OpR.q (q_sliceH rfl rfl rfl (by exact fun w hw => rd_own hw (by exact .head _)) (by intro hc; omega))) ?_
    refine sw_step rfl rfl rfl (OpR.q (q_assign rfl rfl)) ?_
    refine sw_nil ?_
    refine post_then ?_
    refine cw_ret ?_
    refine post_then_r ?_
    refine post_ret1 rfl (resOk_tmp rfl) ?_
    exact fun w' hw => ⟨s11, by rw [if_pos hp], trivial, (fun w h => Cl.sel (by exact .take 0 rfl (.nil _)) w h) _ hw⟩
  · skip
    have hp : ¬ p = 0 := by simpa using h
    refine cw_skip ?_
    refine post_then ?_
    refine cw_seq ?_
    -- region 4
    refine cw_region ?_
    refine sw_step rfl rfl rfl (OpR.q (q_move rfl rfl)) ?_
    refine sw_step rfl rfl rfl (OpR.q (q_fieldAddr rfl rfl)) ?_
    refine sw_step rfl rfl rfl (OpR.q (q_loadC rfl rfl (by exact .tail _ (.head _)) rfl)) ?_
    refine sw_step rfl rfl rfl (OpR.q (q_sliceL rfl rfl rfl (by exact fun w hw => rd_own hw (by exact .head _)) (by intro hc; omega))) ?_
    refine sw_step rfl rfl rfl (OpR.q (q_assign rfl rfl)) ?_
    refine sw_nil ?_
    refine post_then ?_
    refine cw_ret ?_
    refine post_ret1 rfl (resOk_tmp rfl) ?_
    exact fun w' hw => ⟨s11, by rw [if_neg hp], trivial, (fun w h => Cl.sel (by exact .take 0 rfl (.nil _)) w h) _ hw⟩
theorem clone_spec (s : SlV) (a : List Int) (w : World) (ha : Stb w [] (RdL s.v a)) (hl : a.length ≤ 1000000) :
    Calls Try.prog 71 #[s.v] w fun e w' => ∃ s' : SlV, e = .returned s'.v ∧ True ∧ Cl w [] [ownL 3 s'.v a] w' := by
  refine calls_cw (vs := [_]) Try.func71 rfl Try.ntmps71 rfl (Cl.start0 w) ?_
  refine cw_seq ?_
  -- region 0
  refine cw_region ?_
  refine sw_step rfl rfl rfl (OpR.q (q_assign rfl rfl)) ?_
  refine sw_nil ?_
  refine post_then ?_
  refine cw_seq ?_
  refine cw_seq ?_
  -- region 1
  refine cw_region ?_
  refine sw_step rfl rfl rfl (OpR.q (q_move rfl rfl)) ?_
  refine sw_step rfl rfl rfl (OpR.q (q_eqlNil rfl rfl)) ?_
  refine sw_nil ?_
  refine post_then ?_
  -- STOP at: cond
  refine cw_cond rfl (fun h => ?_) (fun h => ?_)
  · skip
    have h1 := rd_nil ha.here (by simpa using h)
    subst h1
    refine cw_seq ?_
    -- region 2
    refine cw_region ?_
    refine sw_step rfl rfl rfl (OpR.q (q_assign rfl rfl)) ?_
    refine sw_nil ?_
    refine post_then ?_
    refine cw_ret ?_
    refine post_then_r ?_
    refine post_ret1 rfl (resOk_tmp rfl) ?_
    exact fun w' hw => ⟨⟨none, 0, 0⟩, rfl, trivial, hw.addNil (α := Int) 3⟩
  · skip
    refine cw_skip ?_
    refine post_then ?_
    refine cw_seq ?_
    -- region 3
    refine cw_region ?_
    -- STOP at: t5   := buildSlice 37 0 [] :37
    refine sw_x rfl rfl rfl (e_buildL (α := Int) (l := []) (ps := []) rfl .nil rfl rfl rfl (by decide)) (fun s5 => ?_)
    refine sw_step rfl rfl rfl (OpR.q (q_move rfl rfl)) ?_
    refine sw_x rfl rfl rfl (e_append (i := 0) rfl (.cons rfl inferInstance (.cons rfl inferInstance (.nil))) rfl rfl (by exact fun w hw => Stb.cl (by assumption) hw) (by simp only [List.length_set, List.length_append, List.length_cons, List.length_nil, List.length_replicate, List.length_take, List.length_drop, List.length_map]; omega) rfl) (fun s7 => ?_)
    refine sw_step rfl rfl rfl (OpR.q (q_assign rfl rfl)) ?_
    refine sw_nil ?_
    refine post_then ?_
    refine cw_ret ?_
    refine post_ret1 rfl (resOk_tmp rfl) ?_
    exact fun w' hw => ⟨s7, rfl, trivial, by simpa using (fun w h => Cl.sel (by exact .take 0 rfl (.nil _)) w h) _ hw⟩
end Go.Proofs.Ytekikelejncgeaa
