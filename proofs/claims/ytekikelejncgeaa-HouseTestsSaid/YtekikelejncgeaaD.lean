import Derived.Test.YtekikelejncgeaaC
import Derived.Test.YtekikelejncgeaaSxRange
set_option autoImplicit false
set_option linter.unusedSimpArgs false
set_option linter.unusedVariables false
set_option maxRecDepth 100000
namespace Go.Proofs.Ytekikelejncgeaa
open Go.Sx
open Enc (enc val)

/-! ### chips -/
def coinX (start : Int) : Nat → Int
  | 0 => IntKind.u64.wrap start
  | k + 1 => IntKind.u64.wrap (IntKind.u64.wrap (6364136223846793005 * coinX start k) + 1442695040888963407)
def coin (start : Int) (k : Nat) : Bool := decide (coinX start (k + 1) / 2 ^ 63 = 1)
def chipsL (start : Int) (n : Nat) : List Int := (List.range n).map fun k => if coin start k then 1 else -1
theorem chipsL_len (start : Int) (n : Nat) : (chipsL start n).length = n := by simp [chipsL]
theorem chipsL_succ (start : Int) (n : Nat) : chipsL start (n + 1) = chipsL start n ++ [if coin start n then 1 else -1] := by simp [chipsL, List.range_succ]

theorem coins_spec (start : Int) (w : World) :
    Calls Try.prog 95 #[.int .i64 start] w fun e w' => ∃ b : Nat, e = .returned (.func (.func 102) #[] #[.pointer (some ⟨b, 0, none⟩)]) ∧ True ∧ Cl w [] [blk b [.int .i64 start] 3] w' := by
  refine calls_cw (vs := [_]) Try.func95 rfl Try.ntmps95 rfl (Cl.start0 w) ?_
  refine cw_seq ?_
  -- region 0
  refine cw_region ?_
  refine sw_x rfl rfl rfl (e_box rfl rfl rfl) (fun b1 => ?_)
  refine sw_step rfl rfl rfl (OpR.q (q_assign rfl rfl)) ?_
  refine sw_nil ?_
  refine post_then ?_
  refine cw_seq ?_
  -- region 1
  refine cw_region ?_
  refine sw_step rfl rfl rfl (OpR.q (q_func_l rfl (.cons rfl inferInstance (.nil)))) ?_
  refine sw_step rfl rfl rfl (OpR.q (q_assign rfl rfl)) ?_
  refine sw_nil ?_
  refine post_then ?_
  refine cw_ret ?_
  refine post_ret1 rfl (resOk_tmp rfl) ?_
  exact fun w' hw => ⟨_, rfl, trivial, hw⟩

theorem coins1_spec {S : Type} (l b N : Nat) (start : Int) (w0 : World) (fp : List Nat) (J : S → List Asn) (ok : Nat → S → Prop) (D : World → Prop) (s0 : S) (hb : blk b [.int .i64 start] 3 ∈ J s0)
    (hA : ∀ j s, ok j s → ∀ w, Cl w0 fp (J s) w → Asks Try.prog l [.bool (coin start j)] w fun c w' => (c = true ∧ ∃ s', ok (j + 1) s' ∧ Cl w0 fp (J s') w') ∨ (c = false ∧ D w'))
    (hN : ∀ j s, ok j s → j < N) (h0 : ok 0 s0) (w : World) (hw : Cl w0 fp (J s0) w) :
    Calls Try.prog 102 #[.func (.yield l) #[] #[], .pointer (some ⟨b, 0, none⟩)] w fun e w' => e = .returned (.tuple #[]) ∧ D w' := by
  refine calls_cw (vs := [_, _]) Try.func102 rfl Try.ntmps102 rfl hw ?_
  refine cw_seq ?_
  -- region 0
  refine cw_region ?_
  refine sw_step rfl rfl rfl (OpR.q (q_loadC rfl rfl (by assumption) rfl)) ?_
  refine sw_step rfl rfl rfl (OpR.q (q_conv rfl rfl)) ?_
  refine sw_step rfl rfl rfl (OpR.q (q_assign rfl rfl)) ?_
  refine sw_nil ?_
  refine post_then ?_
  refine cw_block ?_
  -- STOP at: loop
  refine cw_loop (S := Nat × S) (fun x => [(0, [], .func (.yield l) #[] #[]), (3, [], .int .u64 (coinX start x.1))]) (fun x => Cl w0 fp (J x.2)) (fun x => ok x.1 x.2) (fun x => N - x.1) (0, s0) h0 (by exact .cons rfl (.cons rfl .nil)) (fun _ h => h) ?_
  rintro ⟨j, s⟩ hs
  have hj := hN j s hs
  dsimp only at hs ⊢
  refine cw_block ?_
  refine cw_seq ?_
  -- region 1
  refine cw_region ?_
  refine sw_step rfl rfl rfl (OpR.q (q_move rfl rfl)) ?_
  refine sw_step rfl rfl rfl (OpR.q (q_mul_w rfl rfl rfl)) ?_
  refine sw_step rfl rfl rfl (OpR.q (q_add_w rfl rfl rfl)) ?_
  refine sw_step rfl rfl rfl (OpR.q (q_assign rfl rfl)) ?_
  refine sw_nil ?_
  refine post_then ?_
  refine cw_seq ?_
  -- region 2
  refine cw_region ?_
  refine sw_step rfl rfl rfl (OpR.q (q_move rfl rfl)) ?_
  refine sw_step rfl rfl rfl (OpR.q (q_move rfl rfl)) ?_
  refine sw_step rfl rfl rfl (OpR.q (q_shr rfl rfl rfl (by exact fun _ => ⟨by decide, by decide⟩))) ?_
  refine sw_step rfl rfl rfl (OpR.q (q_eql rfl rfl rfl)) ?_
  -- STOP at: t13  := call {callee=(value t9), args=[t12], argTypes=[4]} :4
  refine sw_yield rfl rfl rfl rfl rfl (.cons rfl inferInstance (.nil)) (hA j s hs) (fun c => ?_)
  refine sw_step rfl rfl rfl (OpR.q (q_not rfl rfl)) ?_
  refine sw_nil ?_
  refine post_then ?_
  -- STOP at: cond
  refine cw_cond rfl (fun h => ?_) (fun h => ?_)
  · skip
    have hc : c = false := by simpa using h
    refine cw_ret ?_
    refine post_blk_r ?_
    refine post_then_r ?_
    refine post_blk_r ?_
    refine post_ret0 rfl ?_
    exact fun w' hw => ⟨rfl, by rcases hw with ⟨h1, _⟩ | ⟨_, h1⟩; · rw [hc] at h1; cases h1
                                · exact h1⟩
  · skip
    have hc : c = true := by simpa using h
    refine cw_c (C' := fun w' => ∃ s', ok (j + 1) s' ∧ Cl w0 fp (J s') w') (fun w' hw => by rcases hw with ⟨_, h1⟩ | ⟨h1, _⟩; · exact h1
                                                                                            · rw [hc] at h1; cases h1) ?_
    refine cw_ex fun s' => cw_imp fun hs' => ?_
    refine cw_skip ?_
    refine post_blk ?_
    exact post_next (j + 1, s') (by exact .cons rfl (.cons rfl .nil)) (fun _ h => h) hs' (by simp only; omega)

theorem chips_spec (start : Int) (n : Nat) (hn : n ≤ 100000) (w : World) :
    Calls Try.prog 67 #[.int .i64 start, .int .i64 n] w fun e w' => ∃ s : SlV, e = .returned s.v ∧ True ∧ Cl w [] [ownL 3 s.v (chipsL start n)] w' := by
  refine calls_cwM (vs := [_, _]) Try.func67 rfl Try.ntmps67 rfl (Cl.start0 w) ?_
  refine cw_seq ?_
  -- region 0
  refine cw_region ?_
  refine sw_x rfl rfl rfl (e_box rfl rfl rfl) (fun b3 => ?_)
  refine sw_step rfl rfl rfl (OpR.q (q_assign rfl rfl)) ?_
  refine sw_nil ?_
  refine post_then ?_
  refine cw_seq ?_
  -- region 1
  refine cw_region ?_
  refine sw_x rfl rfl rfl (e_alloc rfl) (fun b5 => ?_)
  refine sw_nil ?_
  refine post_then ?_
  refine cw_seq ?_
  refine cw_seq ?_
  -- region 2
  refine cw_region ?_
  refine sw_step rfl rfl rfl (OpR.q (q_loadC rfl rfl (by exact .tail _ (.head _)) rfl)) ?_
  refine sw_step rfl rfl rfl (OpR.q (q_eql rfl rfl rfl)) ?_
  refine sw_nil ?_
  refine post_then ?_
  -- STOP at: cond
  refine cw_cond rfl (fun h => ?_) (fun h => ?_)
  · skip
    have h1 : n = 0 := by simpa using h
    subst h1
    refine cw_seq ?_
    -- region 3
    refine cw_region ?_
    refine sw_step rfl rfl rfl (OpR.q (q_assign rfl rfl)) ?_
    refine sw_nil ?_
    refine post_then ?_
    refine cw_ret ?_
    refine post_then_r ?_
    repeat (first | refine post_take (i := 0) rfl ?_ | refine post_take (i := 1) rfl ?_ | refine post_take (i := 2) rfl ?_ | refine post_take (i := 3) rfl ?_ | refine post_take (i := 4) rfl ?_ | refine post_take (i := 5) rfl ?_ | refine post_take (i := 6) rfl ?_ | refine post_take (i := 7) rfl ?_ | refine post_take (i := 8) rfl ?_ | refine post_take (i := 9) rfl ?_)
    refine post_retM ?_
    refine post_ret1 rfl (resOk_tmp rfl) ?_
    exact fun w' hw => ⟨⟨none, 0, 0⟩, rfl, trivial, hw.tail.tail.addNil (α := Int) 3⟩
  · skip
    have h1 : 0 < n := by simp at h; omega
    refine cw_skip ?_
    refine post_then ?_
    refine cw_seq ?_
    refine cw_seq ?_
    -- region 4
    refine cw_region ?_
    refine sw_step rfl rfl rfl (OpR.q (q_move rfl rfl)) ?_
    -- STOP at: t10  := call {callee=(value F95), args=[t9], argTypes=[3]} :128
    refine sw_x rfl rfl rfl (e_call (CanCall.mk Try.call95) rfl (.cons rfl inferInstance (.nil)) (fun w hw => coins_spec start w)) (fun b10 => ?_)
    refine sw_imp fun _ => ?_
    refine sw_nil ?_
    refine post_then ?_
    refine cw_block ?_
    -- STOP at: rangeFunc
    refine cw_rangeFunc (fun _ b jump H' => jump = some (.exit 0) ∧ ∃ s : SlV, H' = [obj b (.deferred (some [])), blk b5 [s.v] 37, ownL 3 s.v (chipsL start n)]) (CanCall.mk Try.call102) rfl ?_ ?_ ?_
    · intro l b L w1 hL hw1
      have hw1' := Cl.addNil (α := Int) 3 hw1
      refine Calls.mono (coins1_spec (S := Nat × SlV) l b10 n start w [] (fun x => [obj l (L .ready none), obj b (.deferred (some [])), blk b10 [.int .i64 start] 3, blk b5 [x.2.v] 37, blk b3 [.int .i64 n] 3, ownL 3 x.2.v (chipsL start x.1)]) (fun j x => x.1 = j ∧ j < n)
        (fun w' => ∃ s : SlV, Cl w [] [obj l (L .done (some (.exit 0))), obj b (.deferred (some [])), blk b5 [s.v] 37, ownL 3 s.v (chipsL start n)] w') (0, ⟨none, 0, 0⟩) (by simp) ?_ (fun j s h => h.2) ⟨rfl, h1⟩ w1 ?_) ?_
      · rintro j ⟨i, s⟩ ⟨rfl, hj⟩ w2 hw2
        dsimp only at hw2 hj
        refine asks_of (i := 0) hL rfl hw2 rfl rfl ?_
        have hlen := chipsL_len start i
        -- region 5
        refine cw_region ?_
        refine sw_step rfl rfl rfl (OpR.q (q_assign rfl rfl)) ?_
        refine sw_nil ?_
        refine post_begin (i := 0) hL rfl ?_
        refine cw_block ?_
        refine cw_seq ?_
        -- region 6
        -- STOP: a region with effects that draws its order
        refine cw_region_a (Cl w [] [obj l (L .busy none), obj b (.deferred (some [])), blk b10 [.int .i64 start] 3, blk b5 [s.v] 37, blk b3 [.int .i64 n] 3, ownL 3 s.v (chipsL start i)]) [4, 5] mixed_Try ?_
        refine aw_take 0 (fun w h => Cl.sel (by exact .take 0 rfl (.take 0 rfl (.take 0 rfl (.take 0 rfl (.take 0 rfl (.take 0 rfl (.nil _))))))) w h) rfl (by kernel_rfl) (by kernel_rfl) (by kernel_rfl) (by kernel_rfl) (by kernel_rfl) (by kernel_rfl) rfl rfl rfl (q_loadC rfl rfl (by exact .tail _ (.tail _ (.tail _ (.head _)))) rfl) ?_
        refine aw_pure 1 rfl (by kernel_rfl) (by kernel_rfl) (by kernel_rfl) (by kernel_rfl) (by kernel_rfl) rfl rfl rfl (q_move rfl rfl) ?_
        refine aw_q 2 (by kernel_rfl) rfl rfl rfl rfl (q_call (CanCall.mk Try.call76) rfl (.cons rfl inferInstance (.nil)) (fun _ w hw => callq hw (sign_spec _ w))) (by intro hb; exact (fun w h => Cl.sel (by exact .take 0 rfl (.take 0 rfl (.take 0 rfl (.take 0 rfl (.take 0 rfl (.take 0 rfl (.nil _))))))) w h)) ?_
        refine aw_x 3 (by kernel_rfl) rfl rfl rfl rfl (e_build1 (α := Int) rfl rfl rfl rfl) (by intro hb; exact fun _ => (fun w h => Cl.sel (by exact .take 1 rfl (.take 1 rfl (.take 1 rfl (.take 1 rfl (.take 1 rfl (.take 1 rfl (.nil _))))))) w h)) (fun s15 => ?_)
        refine aw_x 4 (by kernel_rfl) rfl rfl rfl rfl (e_append (i := 6) rfl (.cons rfl inferInstance (.cons rfl inferInstance (.nil))) rfl rfl (by exact fun w hw => rd_own hw (by exact .head _)) (by simp only [List.length_set, List.length_append, List.length_cons, List.length_nil, List.length_replicate, List.length_take, List.length_drop, List.length_map]; omega) rfl) (by intro hb; (exact absurd hb (by decide))) (fun s16 => ?_)
        refine aw_one0 5 (by kernel_rfl) rfl rfl rfl (e_store (i := 4) rfl rfl rfl rfl rfl rfl rfl rfl) (by intro hb; (exact absurd hb (by decide))) ?_
        refine aw_end (by kernel_rfl) ?_
        refine post_then ?_
        refine cw_seq ?_
        -- region 7
        refine cw_region ?_
        refine sw_step rfl rfl rfl (OpR.q (q_loadC rfl rfl (by exact .tail _ (.tail _ (.tail _ (.tail _ (.head _))))) rfl)) ?_
        refine sw_step rfl rfl rfl (OpR.q (q_len rfl (.cons rfl inferInstance (.nil)) (by exact fun w hw => rd_own hw (by exact .tail _ (.tail _ (.tail _ (.tail _ (.tail _ (.tail _ (.head _)))))))))) ?_
        refine sw_step rfl rfl rfl (OpR.q (q_loadC rfl rfl (by exact .tail _ (.tail _ (.tail _ (.tail _ (.tail _ (.head _)))))) rfl)) ?_
        refine sw_step rfl rfl rfl (OpR.q (q_eql rfl rfl rfl)) ?_
        refine sw_nil ?_
        refine post_then ?_
        -- STOP at: cond
        refine cw_cond rfl (fun h2 => ?_) (fun h2 => ?_)
        · skip
          have h3 : i + 1 = n := by simp at h2; omega
          subst h3
          refine cw_exit ?_
          refine post_blk_ne rfl ?_
          -- the round is left by exit 0
          refine post_round_x (i := 1) hL rfl fun w3 hw3 => ⟨false, rfl, .inr ⟨rfl, s16, ?_⟩⟩
          rw [chipsL_succ]
          exact (fun w h => Cl.sel (by exact .take 1 rfl (.take 1 rfl (.take 2 rfl (.take 3 rfl (.nil _))))) w h) _ hw3
        · skip
          have h3 : i + 1 < n := by simp at h2; omega
          refine cw_skip ?_
          refine post_blk ?_
          -- the end of the round
          refine post_round (i := 1) hL rfl fun w3 hw3 => ⟨true, rfl, .inl ⟨rfl, (i + 1, s16), ⟨rfl, h3⟩, ?_⟩⟩
          dsimp only
          rw [chipsL_succ]
          exact (fun w h => Cl.sel (by exact .take 1 rfl (.take 1 rfl (.take 1 rfl (.take 1 rfl (.take 1 rfl (.take 1 rfl (.nil _))))))) w h) _ hw3
      · exact (fun w h => Cl.sel (by exact .take 1 rfl (.take 1 rfl (.take 1 rfl (.take 1 rfl (.take 1 rfl (.take 0 rfl (.nil _))))))) w h) _ hw1'
      · rintro e w' ⟨rfl, s, hw'⟩
        exact ⟨⟨_, rfl⟩, _, _, _, ⟨rfl, s, rfl⟩, by simp, hw'⟩
    · rintro l b H' ⟨h2, _⟩
      cases h2
    · rintro l b c H' ⟨h2, s, rfl⟩
      simp only [Option.some.injEq] at h2
      subst h2
      refine cw_exit ?_
      refine post_blk_eq ?_
      refine post_then ?_
      refine cw_seq ?_
      -- region 8
      refine cw_region ?_
      refine sw_step rfl rfl rfl (OpR.q (q_loadC rfl rfl (by exact .tail _ (.head _)) rfl)) ?_
      refine sw_step rfl rfl rfl (OpR.q (q_assign rfl rfl)) ?_
      refine sw_nil ?_
      refine post_then ?_
      refine cw_ret ?_
      repeat (first | refine post_take (i := 0) rfl ?_ | refine post_take (i := 1) rfl ?_ | refine post_take (i := 2) rfl ?_ | refine post_take (i := 3) rfl ?_ | refine post_take (i := 4) rfl ?_ | refine post_take (i := 5) rfl ?_ | refine post_take (i := 6) rfl ?_ | refine post_take (i := 7) rfl ?_ | refine post_take (i := 8) rfl ?_ | refine post_take (i := 9) rfl ?_)
      refine post_retM ?_
      refine post_ret1 rfl (resOk_tmp rfl) ?_
      exact fun w' hw => ⟨s, rfl, trivial, (fun w h => Cl.sel (by exact .take 2 rfl (.nil _)) w h) _ hw⟩

theorem refChips_spec (start : Int) (n : Nat) (hn : n ≤ 200000) (w : World) :
    Calls Try.prog 35 #[.int .i64 start, .int .i64 n] w fun e w' => ∃ s : SlV, e = .returned s.v ∧ True ∧ Cl w [] [ownL 3 s.v (chipsL start n)] w' := by
  refine calls_cw (vs := [_, _]) Try.func35 rfl Try.ntmps35 rfl (Cl.start0 w) ?_
  refine cw_seq ?_
  -- region 0
  refine cw_region ?_
  refine sw_step rfl rfl rfl (OpR.q (q_assign rfl rfl)) ?_
  refine sw_nil ?_
  refine post_then ?_
  refine cw_seq ?_
  -- region 1
  refine cw_region ?_
  refine sw_step rfl rfl rfl (OpR.q (q_move rfl rfl)) ?_
  refine sw_step rfl rfl rfl (OpR.q (q_conv rfl rfl)) ?_
  refine sw_step rfl rfl rfl (OpR.q (q_assign rfl rfl)) ?_
  refine sw_nil ?_
  refine post_then ?_
  refine cw_seq ?_
  -- region 2
  refine cw_region ?_
  refine sw_step rfl rfl rfl (OpR.q (q_assign rfl rfl)) ?_
  refine sw_nil ?_
  refine post_then ?_
  refine cw_seq ?_
  refine cw_seq ?_
  -- region 3
  refine cw_region ?_
  refine sw_step rfl rfl rfl (OpR.q (q_assign rfl rfl)) ?_
  refine sw_nil ?_
  refine post_then ?_
  refine cw_block ?_
  -- STOP at: loop
  refine cw_loop (S := Nat × SlV) (fun x => [(1, [], .int .i64 n), (5, [], .int .u64 (coinX start x.1)), (6, [], x.2.v), (7, [], .int .i64 x.1)]) (fun x => Cl w [] [ownL 3 x.2.v (chipsL start x.1)]) (fun x => x.1 ≤ n) (fun x => n - x.1) (0, ⟨none, 0, 0⟩) (by omega) (by exact .cons rfl (.cons rfl (.cons rfl (.cons rfl .nil)))) (fun _ h => h.addNil (α := Int) 3) ?_
  rintro ⟨k, s⟩ hk
  have hlen := chipsL_len start k
  dsimp only at hk ⊢
  refine cw_seq ?_
  refine cw_seq ?_
  -- region 4
  refine cw_region ?_
  refine sw_step rfl rfl rfl (OpR.q (q_move rfl rfl)) ?_
  refine sw_step rfl rfl rfl (OpR.q (q_move rfl rfl)) ?_
  refine sw_step rfl rfl rfl (OpR.q (q_lss rfl rfl rfl)) ?_
  refine sw_nil ?_
  refine post_then ?_
  -- STOP at: cond
  refine cw_cond rfl (fun h => ?_) (fun h => ?_)
  · skip
    have h1 : k < n := by simp at h; omega
    refine cw_skip ?_
    refine post_then ?_
    refine cw_seq ?_
    refine cw_block ?_
    refine cw_seq ?_
    -- region 6
    refine cw_region ?_
    refine sw_step rfl rfl rfl (OpR.q (q_move rfl rfl)) ?_
    refine sw_step rfl rfl rfl (OpR.q (q_mul_w rfl rfl rfl)) ?_
    refine sw_step rfl rfl rfl (OpR.q (q_add_w rfl rfl rfl)) ?_
    refine sw_step rfl rfl rfl (OpR.q (q_assign rfl rfl)) ?_
    refine sw_nil ?_
    refine post_then ?_
    refine cw_seq ?_
    -- region 7
    refine cw_region ?_
    refine sw_step rfl rfl rfl (OpR.q (q_move rfl rfl)) ?_
    refine sw_step rfl rfl rfl (OpR.q (q_shr rfl rfl rfl (by exact fun _ => ⟨by decide, by decide⟩))) ?_
    refine sw_step rfl rfl rfl (OpR.q (q_eql rfl rfl rfl)) ?_
    refine sw_nil ?_
    refine post_then ?_
    -- STOP at: cond
    refine cw_cond rfl (fun h2 => ?_) (fun h2 => ?_)
    · skip
      have h3 : coin start k = true := h2
      -- region 8
      refine cw_region ?_
      refine sw_step rfl rfl rfl (OpR.q (q_move rfl rfl)) ?_
      refine sw_x rfl rfl rfl (e_build1 (α := Int) rfl rfl rfl rfl) (fun s22 => ?_)
      refine sw_x rfl rfl rfl (e_append (i := 1) rfl (.cons rfl inferInstance (.cons rfl inferInstance (.nil))) rfl rfl (by exact fun w hw => rd_own hw (by exact .head _)) (by simp only [List.length_set, List.length_append, List.length_cons, List.length_nil, List.length_replicate, List.length_take, List.length_drop, List.length_map]; omega) rfl) (fun s23 => ?_)
      refine sw_step rfl rfl rfl (OpR.q (q_assign rfl rfl)) ?_
      refine sw_nil ?_
      refine post_blk ?_
      refine post_then ?_
      -- region 5
      refine cw_region ?_
      refine sw_step rfl rfl rfl (OpR.q (q_move rfl rfl)) ?_
      refine sw_step rfl rfl rfl (OpR.q (q_add rfl rfl rfl (by intro hc; omega))) ?_
      refine sw_step rfl rfl rfl (OpR.q (q_assign rfl rfl)) ?_
      refine sw_nil ?_
      refine post_next (k + 1, s23) (by exact .cons rfl (.cons rfl (.cons rfl (.cons rfl .nil)))) (fun w3 hw3 => ?_) (by simp only; omega) (by simp only; omega)
      dsimp only
      rw [chipsL_succ, h3]
      exact (fun w h => Cl.sel (by exact .take 1 rfl (.nil _)) w h) _ hw3
    · skip
      have h3 : coin start k = false := h2
      -- region 9
      refine cw_region ?_
      refine sw_step rfl rfl rfl (OpR.q (q_move rfl rfl)) ?_
      refine sw_x rfl rfl rfl (e_build1 (α := Int) rfl rfl rfl rfl) (fun s25 => ?_)
      refine sw_x rfl rfl rfl (e_append (i := 1) rfl (.cons rfl inferInstance (.cons rfl inferInstance (.nil))) rfl rfl (by exact fun w hw => rd_own hw (by exact .head _)) (by simp only [List.length_set, List.length_append, List.length_cons, List.length_nil, List.length_replicate, List.length_take, List.length_drop, List.length_map]; omega) rfl) (fun s26 => ?_)
      refine sw_step rfl rfl rfl (OpR.q (q_assign rfl rfl)) ?_
      refine sw_nil ?_
      refine post_blk ?_
      refine post_then ?_
      -- region 5
      refine cw_region ?_
      refine sw_step rfl rfl rfl (OpR.q (q_move rfl rfl)) ?_
      refine sw_step rfl rfl rfl (OpR.q (q_add rfl rfl rfl (by intro hc; omega))) ?_
      refine sw_step rfl rfl rfl (OpR.q (q_assign rfl rfl)) ?_
      refine sw_nil ?_
      refine post_next (k + 1, s26) (by exact .cons rfl (.cons rfl (.cons rfl (.cons rfl .nil)))) (fun w3 hw3 => ?_) (by simp only; omega) (by simp only; omega)
      dsimp only
      rw [chipsL_succ, h3]
      exact (fun w h => Cl.sel (by exact .take 1 rfl (.nil _)) w h) _ hw3
  · skip
    have h1 : k = n := by simp at h; omega
    subst h1
    refine cw_exit ?_
    refine post_then_x ?_
    refine post_then_x ?_
    refine post_blk_eq ?_
    refine post_then ?_
    refine cw_seq ?_
    -- region 10
    refine cw_region ?_
    refine sw_step rfl rfl rfl (OpR.q (q_move rfl rfl)) ?_
    refine sw_step rfl rfl rfl (OpR.q (q_assign rfl rfl)) ?_
    refine sw_nil ?_
    refine post_then ?_
    refine cw_ret ?_
    refine post_ret1 rfl (resOk_tmp rfl) ?_
    exact fun w' hw => ⟨s, rfl, trivial, hw⟩

def chipsOk (start n : Int) : Bool := inB start 0 4611686018427518976 && inB n 0 10000
theorem houseChips_spec (start n : Int) (w : World) :
    Calls Try.prog 33 #[.int .i64 start, .int .i64 n] w fun e w' => ∃ s : SlV, e = .returned (.tuple #[s.v, .int .i64 (if chipsOk start n then 0 else 2)]) ∧ True ∧ Cl w [] [ownL 3 s.v (if chipsOk start n then chipsL start n.toNat else [])] w' := by
  refine calls_cw (vs := [_, _]) Try.func33 rfl Try.ntmps33 rfl (Cl.start0 w) ?_
  refine cw_seq ?_
  -- region 0
  refine cw_region ?_
  refine sw_step rfl rfl rfl (OpR.q (q_assign rfl rfl)) ?_
  refine sw_step rfl rfl rfl (OpR.q (q_assign rfl rfl)) ?_
  refine sw_nil ?_
  refine post_then ?_
  refine cw_seq ?_
  refine cw_seq ?_
  -- region 1
  refine cw_region ?_
  refine sw_step rfl rfl rfl (OpR.q (q_move rfl rfl)) ?_
  refine sw_step rfl rfl rfl (q_call (CanCall.mk Try.call52) rfl (.cons rfl inferInstance (.cons rfl inferInstance (.cons rfl inferInstance (.nil)))) (fun _ w hw => callq hw (within_spec _ _ _ w))) ?_
  refine sw_step rfl rfl rfl (OpR.q (q_not rfl rfl)) ?_
  refine sw_step rfl rfl rfl (OpR.q (q_move rfl rfl)) ?_
  refine sw_step rfl rfl rfl (OpR.q (q_move rfl rfl)) ?_
  refine sw_step rfl rfl rfl (q_call (CanCall.mk Try.call52) rfl (.cons rfl inferInstance (.cons rfl inferInstance (.cons rfl inferInstance (.nil)))) (fun _ w hw => callq hw (within_spec _ _ _ w))) ?_
  refine sw_step rfl rfl rfl (OpR.q (q_not rfl rfl)) ?_
  refine sw_step rfl rfl rfl (OpR.q (q_or2 rfl rfl rfl)) ?_
  refine sw_nil ?_
  refine post_then ?_
  -- STOP at: cond
  refine cw_cond rfl (fun h => ?_) (fun h => ?_)
  · skip
    have h1 : chipsOk start n = false := by
      simp only [chipsOk]
      simp at h
      rcases h with h | h <;> simp [h]
    refine cw_seq ?_
    -- region 2
    refine cw_region ?_
    refine sw_step rfl rfl rfl (OpR.q (q_assign rfl rfl)) ?_
    refine sw_step rfl rfl rfl (OpR.q (q_assign rfl rfl)) ?_
    refine sw_nil ?_
    refine post_then ?_
    refine cw_ret ?_
    refine post_then_r ?_
    refine post_ret2 rfl (resOk_tmp rfl) (resOk_tmp rfl) ?_
    exact fun w' hw => ⟨⟨none, 0, 0⟩, by rw [h1]; rfl, trivial, by rw [h1]; exact hw.addNil (α := Int) 3⟩
  · skip
    have h1 : chipsOk start n = true := by
      simp only [chipsOk]
      simp at h ⊢
      exact h
    have h2 : 0 ≤ n ∧ n ≤ 10000 := by simp [chipsOk, inB] at h1; omega
    obtain ⟨m, rfl⟩ := Int.eq_ofNat_of_zero_le h2.1
    refine cw_skip ?_
    refine post_then ?_
    refine cw_seq ?_
    -- region 3
    refine cw_region ?_
    refine sw_step rfl rfl rfl (OpR.q (q_move rfl rfl)) ?_
    refine sw_step rfl rfl rfl (OpR.q (q_move rfl rfl)) ?_
    -- STOP at: t16  := call {callee=(value F67), args=[t14, t15], argTypes=[3, 3]} :37
    refine sw_x rfl rfl rfl (e_call (CanCall.mk Try.call67) rfl (.cons rfl inferInstance (.cons rfl inferInstance (.nil))) (fun w hw => chips_spec start m (by omega) w)) (fun s16 => ?_)
    refine sw_imp fun _ => ?_
    refine sw_step rfl rfl rfl (OpR.q (q_assign rfl rfl)) ?_
    refine sw_step rfl rfl rfl (OpR.q (q_assign rfl rfl)) ?_
    refine sw_nil ?_
    refine post_then ?_
    refine cw_ret ?_
    refine post_ret2 rfl (resOk_tmp rfl) (resOk_tmp rfl) ?_
    exact fun w' hw => ⟨s16, by rw [h1]; rfl, trivial, by rw [h1]; exact hw⟩
end Go.Proofs.Ytekikelejncgeaa
