import Derived.Test.YtekikelejncgeaaF
set_option autoImplicit false
set_option linter.unusedSimpArgs false
set_option linter.unusedVariables false
set_option maxRecDepth 100000
namespace Go.Proofs.Ytekikelejncgeaa
open Go.Sx
open Enc (enc val)

theorem len64_spec (x : Int) (hx : 0 ≤ x ∧ x < 256) (w : World) : Calls Try.prog 117 #[.int .u64 x] w fun e w' => ∃ l : Int, e = .returned (.int .i64 l) ∧ True ∧ Cl w [] [] w' := by
  refine calls_cw (vs := [_]) Try.func117 rfl Try.ntmps117 rfl (Cl.start0 w) ?_
  refine cw_seq ?_
  -- region 0
  refine cw_region ?_
  refine sw_step rfl rfl rfl (OpR.q (q_assign rfl rfl)) ?_
  refine sw_nil ?_
  refine post_then ?_
  refine cw_seq ?_
  refine cw_seq ?_
  -- region 1
  refine cw_region ?_
  refine sw_step rfl rfl rfl (OpR.q (q_move rfl rfl)) ?_
  refine sw_step rfl rfl rfl (OpR.q (q_geq rfl rfl rfl)) ?_
  refine sw_nil ?_
  refine post_then ?_
  -- STOP at: cond
  refine cw_cond rfl (fun h1 => ?_) (fun h1 => ?_)
  · skip
    simp at h1; omega
  · skip
    refine cw_skip ?_
    refine post_then ?_
    refine cw_seq ?_
    refine cw_seq ?_
    -- region 4
    refine cw_region ?_
    refine sw_step rfl rfl rfl (OpR.q (q_move rfl rfl)) ?_
    refine sw_step rfl rfl rfl (OpR.q (q_geq rfl rfl rfl)) ?_
    refine sw_nil ?_
    refine post_then ?_
    -- STOP at: cond
    refine cw_cond rfl (fun h2 => ?_) (fun h2 => ?_)
    · skip
      simp at h2; omega
    · skip
      refine cw_skip ?_
      refine post_then ?_
      refine cw_seq ?_
      refine cw_seq ?_
      -- region 7
      refine cw_region ?_
      refine sw_step rfl rfl rfl (OpR.q (q_move rfl rfl)) ?_
      refine sw_step rfl rfl rfl (OpR.q (q_geq rfl rfl rfl)) ?_
      refine sw_nil ?_
      refine post_then ?_
      -- STOP at: cond
      refine cw_cond rfl (fun h3 => ?_) (fun h3 => ?_)
      · skip
        simp at h3; omega
      · skip
        refine cw_skip ?_
        refine post_then ?_
        refine cw_seq ?_
        -- region 10
        refine cw_region ?_
        refine sw_step rfl rfl rfl (OpR.q (q_move rfl rfl)) ?_
        refine sw_step rfl rfl rfl (OpR.q (q_move rfl rfl)) ?_
        refine sw_step rfl rfl rfl (OpR.q (q_conv rfl rfl)) ?_
        -- STOP at: t22  := index 9 string {data=(List.toArray (List.append (List.append [0, 1, 2, 2, 3, 3, 3, 3, 4, 4, 4, 4, 4, 4, 4, 4, 5, 5, 5, 5, 5, 5, 5, 5, 5, 5, 5, 5, 5, 5, 5, 5, 6, 6, 6, 6, 6, 6, 6, 6, 6, 6, 6, 6, 6, 6, 6, 6, 6, 6, 6, 6, 6, 6, 6, 6, 6, 6, 6, 6, 6, 6, 6, 6] [7, 7, 7, 7, 7, 7, 7, 7, 7, 7, 7, 7, 7, 7, 7, 7, 7, 7, 7, 7, 7, 7, 7, 7, 7, 7, 7, 7, 7, 7, 7, 7, 7, 7, 7, 7, 7, 7, 7, 7, 7, 7, 7, 7, 7, 7, 7, 7, 7, 7, 7, 7, 7, 7, 7, 7, 7, 7, 7, 7, 7, 7, 7, 7]) (List.append [8, 8, 8, 8, 8, 8, 8, 8, 8, 8, 8, 8, 8, 8, 8, 8, 8, 8, 8, 8, 8, 8, 8, 8, 8, 8, 8, 8, 8, 8, 8, 8, 8, 8, 8, 8, 8, 8, 8, 8, 8, 8, 8, 8, 8, 8, 8, 8, 8, 8, 8, 8, 8, 8, 8, 8, 8, 8, 8, 8, 8, 8, 8, 8] [8, 8, 8, 8, 8, 8, 8, 8, 8, 8, 8, 8, 8, 8, 8, 8, 8, 8, 8, 8, 8, 8, 8, 8, 8, 8, 8, 8, 8, 8, 8, 8, 8, 8, 8, 8, 8, 8, 8, 8, 8, 8, 8, 8, 8, 8, 8, 8, 8, 8, 8, 8, 8, 8, 8, 8, 8, 8, 8, 8, 8, 8, 8, 8])))} t21 :5
        have hw : IntKind.u8.wrap x = x := by simp only [IntKind.wrap, IntKind.signed, IntKind.bits]; simp; omega
        refine sw_step rfl rfl rfl (OpR.q (q_indexS rfl rfl rfl Try.underlying9 (fun _ => ⟨by rw [hw]; omega, by rw [hw]; exact Int.lt_of_lt_of_le hx.2 (by decide)⟩))) ?_
        refine sw_step rfl rfl rfl (OpR.q (q_conv rfl rfl)) ?_
        refine sw_step rfl rfl rfl (OpR.q (q_add_w rfl rfl rfl)) ?_
        refine sw_step rfl rfl rfl (OpR.q (q_assign rfl rfl)) ?_
        refine sw_nil ?_
        refine post_then ?_
        refine cw_ret ?_
        refine post_ret1 rfl (resOk_tmp rfl) ?_
        exact fun w' hw => ⟨_, rfl, trivial, hw⟩
theorem len_spec (x : Int) (hx : 0 ≤ x ∧ x < 256) (w : World) : Calls Try.prog 105 #[.int .u64 x] w fun e w' => ∃ l : Int, e = .returned (.int .i64 l) ∧ True ∧ Cl w [] [] w' := by
  refine calls_cw (vs := [_]) Try.func105 rfl Try.ntmps105 rfl (Cl.start0 w) ?_
  refine cw_seq ?_
  -- region 0
  refine cw_region ?_
  refine sw_step rfl rfl rfl (OpR.q (q_assign rfl rfl)) ?_
  refine sw_nil ?_
  refine post_then ?_
  refine cw_seq ?_
  -- STOP at: cond
  refine cw_cond rfl (fun h1 => ?_) (fun h1 => ?_)
  · skip
    cases h1
  · skip
    refine cw_skip ?_
    refine post_then ?_
    refine cw_seq ?_
    -- region 2
    refine cw_region ?_
    refine sw_step rfl rfl rfl (OpR.q (q_move rfl rfl)) ?_
    -- STOP at: t7   := call {callee=(value F117), args=[t6], argTypes=[101]} :3
    refine sw_x rfl rfl rfl (e_call (CanCall.mk Try.call117) rfl (.cons rfl inferInstance (.nil)) (fun w hw => len64_spec x hx w)) (fun l7 => ?_)
    refine sw_imp fun _ => ?_
    refine sw_step rfl rfl rfl (OpR.q (q_assign rfl rfl)) ?_
    refine sw_nil ?_
    refine post_then ?_
    refine cw_ret ?_
    refine post_ret1 rfl (resOk_tmp rfl) ?_
    exact fun w' hw => ⟨l7, rfl, trivial, hw⟩

theorem pdq12_spec (sv : SlV) (l : List Int) (lim : Int) (hb : l.length ≤ 12) (w : World) (bs : List Nat) (hs : Sep [ownL 3 sv.v l] w bs) (hn : bs.Nodup) (hlt : ∀ b ∈ bs, b < w.heap.size) :
    Calls Try.prog 104 #[sv.v, .int .i64 0, .int .i64 l.length, .int .i64 lim] w fun e w' => ∃ l' : List Int, e = .returned (.tuple #[]) ∧ (Mix l l' 0 l.length ∧ Srt l' 0 l.length) ∧ Cl w bs [ownL 3 sv.v l'] w' := by
  refine calls_cw (vs := [_, _, _, _]) Try.func104 rfl Try.ntmps104 rfl (Cl.start hs hn hlt) ?_
  refine cw_seq ?_
  -- region 0
  refine cw_region ?_
  refine sw_step rfl rfl rfl (OpR.q (q_assign rfl rfl)) ?_
  refine sw_nil ?_
  refine post_then ?_
  refine cw_seq ?_
  -- region 1
  refine cw_region ?_
  refine sw_step rfl rfl rfl (OpR.q (q_assign rfl rfl)) ?_
  refine sw_nil ?_
  refine post_then ?_
  refine cw_block ?_
  -- STOP at: loop
  refine cw_loop (S := Unit) (fun _ => [(0, [], sv.v), (1, [], .int .i64 0), (2, [], .int .i64 l.length), (3, [], .int .i64 lim)]) (fun _ => Cl w bs [ownL 3 sv.v l]) (fun _ => True) (fun _ => 0) () trivial (by exact .cons rfl (.cons rfl (.cons rfl (.cons rfl .nil)))) (fun _ h => h) ?_
  rintro ⟨⟩ _
  refine cw_block ?_
  refine cw_seq ?_
  -- region 2
  refine cw_region ?_
  refine sw_step rfl rfl rfl (OpR.q (q_move rfl rfl)) ?_
  refine sw_step rfl rfl rfl (OpR.q (q_move rfl rfl)) ?_
  refine sw_step rfl rfl rfl (OpR.q (q_sub rfl rfl rfl (by intro hc; omega))) ?_
  refine sw_step rfl rfl rfl (OpR.q (q_assign rfl rfl)) ?_
  refine sw_nil ?_
  refine post_then ?_
  refine cw_seq ?_
  refine cw_seq ?_
  -- region 3
  refine cw_region ?_
  refine sw_step rfl rfl rfl (OpR.q (q_move rfl rfl)) ?_
  refine sw_step rfl rfl rfl (OpR.q (q_leq rfl rfl rfl)) ?_
  refine sw_nil ?_
  refine post_then ?_
  -- STOP at: cond
  refine cw_cond rfl (fun h => ?_) (fun h => ?_)
  · skip
    refine cw_seq ?_
    -- region 4
    refine cw_region ?_
    refine sw_step rfl rfl rfl (OpR.q (q_move rfl rfl)) ?_
    refine sw_step rfl rfl rfl (OpR.q (q_move rfl rfl)) ?_
    refine sw_step rfl rfl rfl (OpR.q (q_move rfl rfl)) ?_
    -- STOP at: t27  := call {callee=(value F107), args=[t24, t25, t26], argTypes=[37, 3, 3]} :0
    refine sw_x rfl rfl rfl (e_callH (A := [ownL 3 sv.v l]) (F := []) (CanCall.mk Try.call107) rfl rfl (.cons rfl inferInstance (.cons rfl inferInstance (.cons rfl inferInstance (.nil)))) (.refl _) (fun w bs h1 h2 h3 _ _ => insertion_spec sv l 0 l.length (by omega) (by omega) (by omega) w bs h1 h2 h3)) (fun l27 => ?_)
    refine sw_imp fun hm => ?_
    refine sw_nil ?_
    refine post_then ?_
    refine cw_ret ?_
    refine post_then_r ?_
    refine post_blk_r ?_
    refine post_then_r ?_
    refine post_blk_r ?_
    refine post_ret0 rfl ?_
    exact fun w' hw => ⟨l27, rfl, hm, hw⟩
  · skip
    simp at h; omega

theorem sort12_spec (sv : SlV) (l : List Int) (hb : l.length ≤ 12) (w : World) (bs : List Nat) (hs : Sep [ownL 3 sv.v l] w bs) (hn : bs.Nodup) (hlt : ∀ b ∈ bs, b < w.heap.size) :
    Calls Try.prog 101 #[sv.v] w fun e w' => ∃ l' : List Int, e = .returned (.tuple #[]) ∧ (Mix l l' 0 l.length ∧ Srt l' 0 l.length) ∧ Cl w bs [ownL 3 sv.v l'] w' := by
  refine calls_cw (vs := [_]) Try.func101 rfl Try.ntmps101 rfl (Cl.start hs hn hlt) ?_
  refine cw_seq ?_
  -- region 0
  refine cw_region ?_
  refine sw_step rfl rfl rfl (OpR.q (q_move rfl rfl)) ?_
  refine sw_step rfl rfl rfl (OpR.q (q_len rfl (.cons rfl inferInstance (.nil)) (by exact fun w hw => rd_own hw (by exact .head _)))) ?_
  refine sw_step rfl rfl rfl (OpR.q (q_assign rfl rfl)) ?_
  refine sw_nil ?_
  refine post_then ?_
  -- region 1
  refine cw_region ?_
  refine sw_step rfl rfl rfl (OpR.q (q_move rfl rfl)) ?_
  refine sw_step rfl rfl rfl (OpR.q (q_move rfl rfl)) ?_
  refine sw_step rfl rfl rfl (OpR.q (q_move rfl rfl)) ?_
  refine sw_step rfl rfl rfl (OpR.q (q_conv rfl rfl)) ?_
  -- STOP at: t9   := call {callee=(value F105), args=[t8], argTypes=[102]} :3
  refine sw_x rfl rfl rfl (e_call (CanCall.mk Try.call105) rfl (.cons rfl inferInstance (.nil)) (fun w hw => len_spec _ (by simp only [IntKind.wrap, IntKind.signed, IntKind.bits]; simp; omega) w)) (fun l9 => ?_)
  refine sw_imp fun _ => ?_
  -- STOP at: t10  := call {callee=(value F104), args=[t5, 0:i64, t6, t9], argTypes=[37, 3, 3, 3]} :0
  refine sw_x rfl rfl rfl (e_callH (A := [ownL 3 sv.v l]) (F := []) (CanCall.mk Try.call104) rfl rfl (.cons rfl inferInstance (.cons rfl inferInstance (.cons rfl inferInstance (.cons rfl inferInstance (.nil))))) (.refl _) (fun w bs h1 h2 h3 _ _ => pdq12_spec sv l l9 hb w bs h1 h2 h3)) (fun l27 => ?_)
  refine sw_imp fun hm => ?_
  refine sw_nil ?_
  refine post_end0 rfl ?_
  exact fun w' hw => ⟨l27, rfl, hm, hw⟩
end Go.Proofs.Ytekikelejncgeaa
