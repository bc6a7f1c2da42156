import Derived.Test.YtekikelejncgeaaS
set_option autoImplicit false
set_option linter.unusedSimpArgs false
set_option linter.unusedVariables false
set_option maxRecDepth 100000
namespace Go.Proofs.Ytekikelejncgeaa
open Go.Sx
open Enc (enc val)

theorem known_spec (w : World) : Calls Try.prog 15 #[] w fun e w' => e = .returned (.bool true) ∧ Cl w [] [] w' := by
  refine calls_cw (vs := []) Try.func15 rfl Try.ntmps15 rfl (Cl.start0 w) ?_
  refine cw_seq ?_
  -- region 0
  refine cw_region ?_
  refine sw_step rfl rfl rfl (OpR.q (q_assign rfl rfl)) ?_
  refine sw_nil ?_
  refine post_then ?_
  refine cw_seq ?_
  -- region 1
  refine cw_region ?_
  -- STOP at: t14  := call {callee=(value F33), args=[7:i64, 8:i64], argTypes=[3, 3]} :56
  refine sw_x rfl rfl rfl (e_call (CanCall.mk Try.call33) rfl (.cons rfl inferInstance (.cons rfl inferInstance (.nil))) (fun w hw => kChips w)) (fun s14 => ?_)
  refine sw_imp fun _ => ?_
  refine sw_step rfl rfl rfl (OpR.q (q_move rfl rfl)) ?_
  refine sw_step rfl rfl rfl (OpR.q (q_extract rfl rfl rfl)) ?_
  refine sw_step rfl rfl rfl (OpR.q (q_extract rfl rfl rfl)) ?_
  refine sw_step rfl rfl rfl (OpR.q (q_assign rfl rfl)) ?_
  refine sw_step rfl rfl rfl (OpR.q (q_assign rfl rfl)) ?_
  refine sw_nil ?_
  refine post_then ?_
  refine cw_seq ?_
  -- region 2
  refine cw_region ?_
  -- STOP at: t18  := buildSlice 37 3 [<0, 1:i64>, <1, 2:i64>, <2, 3:i64>] :37
  refine sw_x rfl rfl rfl (e_buildL (α := Int) (l := [1, 2, 3]) rfl (.cons rfl inferInstance (.cons rfl inferInstance (.cons rfl inferInstance (.nil)))) rfl rfl rfl rfl) (fun s18 => ?_)
  -- STOP at: t19  := call {callee=(value F28), args=[t18, 4:i64], argTypes=[37, 3]} :27
  refine sw_x rfl rfl rfl (e_call (CanCall.mk Try.call28) rfl (.cons rfl inferInstance (.cons rfl inferInstance (.nil))) (fun w hw => kCount s18 w (stb_own hw (by exact .head _)))) (fun s19 => ?_)
  refine sw_imp fun _ => ?_
  refine sw_step rfl rfl rfl (OpR.q (q_move rfl rfl)) ?_
  refine sw_step rfl rfl rfl (OpR.q (q_extract rfl rfl rfl)) ?_
  refine sw_step rfl rfl rfl (OpR.q (q_extract rfl rfl rfl)) ?_
  refine sw_x rfl rfl rfl (e_alloc rfl) (fun b3 => ?_)
  refine sw_eff0 rfl rfl (e_store (i := 0) rfl rfl rfl rfl rfl rfl rfl rfl) ?_
  refine sw_step rfl rfl rfl (OpR.q (q_assign rfl rfl)) ?_
  refine sw_nil ?_
  refine post_then ?_
  refine cw_seq ?_
  -- region 3
  refine cw_region ?_
  -- STOP at: t23  := call {callee=(value F16), args=[5:i64, 5:i64], argTypes=[3, 3]} :27
  refine sw_x rfl rfl rfl (e_call (CanCall.mk Try.call16) rfl (.cons rfl inferInstance (.cons rfl inferInstance (.nil))) (fun w hw => kSigns w)) (fun s23 => ?_)
  refine sw_imp fun _ => ?_
  refine sw_step rfl rfl rfl (OpR.q (q_move rfl rfl)) ?_
  refine sw_step rfl rfl rfl (OpR.q (q_extract rfl rfl rfl)) ?_
  refine sw_step rfl rfl rfl (OpR.q (q_extract rfl rfl rfl)) ?_
  refine sw_x rfl rfl rfl (e_alloc rfl) (fun b5 => ?_)
  refine sw_eff0 rfl rfl (e_store (i := 0) rfl rfl rfl rfl rfl rfl rfl rfl) ?_
  refine sw_step rfl rfl rfl (OpR.q (q_assign rfl rfl)) ?_
  refine sw_nil ?_
  refine post_then ?_
  refine cw_seq ?_
  -- region 4
  refine cw_region ?_
  refine sw_step rfl rfl rfl (OpR.q (q_build rfl (.cons rfl inferInstance (.cons rfl inferInstance (.nil))) rfl)) ?_
  refine sw_step rfl rfl rfl (OpR.q (q_build rfl (.cons rfl inferInstance (.cons rfl inferInstance (.nil))) rfl)) ?_
  refine sw_step rfl rfl rfl (OpR.q (q_build rfl (.cons rfl inferInstance (.cons rfl inferInstance (.nil))) rfl)) ?_
  -- STOP at: t30  := buildSlice 22 3 [<0, t27>, <1, t28>, <2, t29>] :22
  refine sw_x rfl rfl rfl (e_buildL (α := Chance) (l := p3) rfl (.cons rfl inferInstance (.cons rfl inferInstance (.cons rfl inferInstance (.nil)))) rfl rfl rfl rfl) (fun s30 => ?_)
  -- STOP at: t31  := call {callee=(value F18), args=[t30, 1:i64, 20:i64], argTypes=[22, 3, 3]} :31
  refine sw_x rfl rfl rfl (e_call (CanCall.mk Try.call18) rfl (.cons rfl inferInstance (.cons rfl inferInstance (.cons rfl inferInstance (.nil)))) (fun w hw => kHolm s30 w (stb_own hw (by exact .head _)))) (fun s31 => ?_)
  refine sw_imp fun _ => ?_
  refine sw_step rfl rfl rfl (OpR.q (q_move rfl rfl)) ?_
  refine sw_step rfl rfl rfl (OpR.q (q_extract rfl rfl rfl)) ?_
  refine sw_step rfl rfl rfl (OpR.q (q_extract rfl rfl rfl)) ?_
  refine sw_step rfl rfl rfl (OpR.q (q_assign rfl rfl)) ?_
  refine sw_step rfl rfl rfl (OpR.q (q_assign rfl rfl)) ?_
  refine sw_nil ?_
  refine post_then ?_
  refine cw_seq ?_
  -- region 5
  refine cw_region ?_
  -- STOP at: t35  := call {callee=(value F39), args=[4:i64], argTypes=[3]} :66
  refine sw_x rfl rfl rfl (e_call (CanCall.mk Try.call39) rfl (.cons rfl inferInstance (.nil)) (fun w hw => kSquare w)) (fun s35 => ?_)
  refine sw_imp fun _ => ?_
  obtain ⟨s35, q0, q1, q2, q3⟩ := s35
  dsimp only
  refine sw_step rfl rfl rfl (OpR.q (q_move rfl rfl)) ?_
  refine sw_step rfl rfl rfl (OpR.q (q_extract rfl rfl rfl)) ?_
  refine sw_step rfl rfl rfl (OpR.q (q_extract rfl rfl rfl)) ?_
  refine sw_step rfl rfl rfl (OpR.q (q_assign rfl rfl)) ?_
  refine sw_step rfl rfl rfl (OpR.q (q_assign rfl rfl)) ?_
  refine sw_nil ?_
  refine post_then ?_
  refine cw_seq ?_
  -- region 6
  refine cw_region ?_
  -- STOP at: t39  := buildSlice 37 5 [<0, 1:i64>, <1, 2:i64>, <2, 3:i64>, <3, 4:i64>, <4, 5:i64>] :37
  refine sw_x rfl rfl rfl (e_buildL (α := Int) (l := [1, 2, 3, 4, 5]) rfl (.cons rfl inferInstance (.cons rfl inferInstance (.cons rfl inferInstance (.cons rfl inferInstance (.cons rfl inferInstance (.nil)))))) rfl rfl rfl rfl) (fun s39 => ?_)
  -- STOP at: t40  := buildSlice 37 6 [<0, 1:i64>, <1, 9:i64>, <2, 3:i64>, <3, 4:i64>, <4, 0:i64>, <5, 7:i64>] :37
  refine sw_x rfl rfl rfl (e_buildL (α := Int) (l := [1, 9, 3, 4, 0, 7]) rfl (.cons rfl inferInstance (.cons rfl inferInstance (.cons rfl inferInstance (.cons rfl inferInstance (.cons rfl inferInstance (.cons rfl inferInstance (.nil))))))) rfl rfl rfl rfl) (fun s40 => ?_)
  -- STOP at: t41  := call {callee=(value F23), args=[t39, t40, 1:i64], argTypes=[37, 37, 3]} :40
  refine sw_x rfl rfl rfl (e_call (CanCall.mk Try.call23) rfl (.cons rfl inferInstance (.cons rfl inferInstance (.cons rfl inferInstance (.nil)))) (fun w hw => kChanges s39 s40 w (stb_own hw (by exact .tail _ (.head _))) (stb_own hw (by exact .head _)))) (fun s41 => ?_)
  refine sw_imp fun _ => ?_
  refine sw_step rfl rfl rfl (OpR.q (q_move rfl rfl)) ?_
  refine sw_step rfl rfl rfl (OpR.q (q_extract rfl rfl rfl)) ?_
  refine sw_step rfl rfl rfl (OpR.q (q_extract rfl rfl rfl)) ?_
  refine sw_step rfl rfl rfl (OpR.q (q_assign rfl rfl)) ?_
  refine sw_step rfl rfl rfl (OpR.q (q_assign rfl rfl)) ?_
  refine sw_nil ?_
  refine post_then ?_
  refine cw_seq ?_
  refine cw_seq ?_
  -- region 7
  refine cw_region ?_
  refine sw_step rfl rfl rfl (OpR.q (q_move rfl rfl)) ?_
  refine sw_step rfl rfl rfl (OpR.q (q_neq rfl rfl rfl)) ?_
  refine sw_step rfl rfl rfl (OpR.q (q_move rfl rfl)) ?_
  refine sw_step rfl rfl rfl (OpR.q (q_move rfl rfl)) ?_
  refine sw_step rfl rfl rfl (OpR.q (q_neq rfl rfl rfl)) ?_
  refine sw_step rfl rfl rfl (OpR.q (q_or2 rfl rfl rfl)) ?_
  refine sw_step rfl rfl rfl (OpR.q (q_move rfl rfl)) ?_
  refine sw_step rfl rfl rfl (OpR.q (q_move rfl rfl)) ?_
  refine sw_step rfl rfl rfl (OpR.q (q_neq rfl rfl rfl)) ?_
  refine sw_step rfl rfl rfl (OpR.q (q_or2 rfl rfl rfl)) ?_
  refine sw_step rfl rfl rfl (OpR.q (q_move rfl rfl)) ?_
  refine sw_step rfl rfl rfl (OpR.q (q_move rfl rfl)) ?_
  refine sw_step rfl rfl rfl (OpR.q (q_neq rfl rfl rfl)) ?_
  refine sw_step rfl rfl rfl (OpR.q (q_or2 rfl rfl rfl)) ?_
  refine sw_step rfl rfl rfl (OpR.q (q_move rfl rfl)) ?_
  refine sw_step rfl rfl rfl (OpR.q (q_move rfl rfl)) ?_
  refine sw_step rfl rfl rfl (OpR.q (q_neq rfl rfl rfl)) ?_
  refine sw_step rfl rfl rfl (OpR.q (q_or2 rfl rfl rfl)) ?_
  refine sw_step rfl rfl rfl (OpR.q (q_move rfl rfl)) ?_
  refine sw_step rfl rfl rfl (OpR.q (q_move rfl rfl)) ?_
  refine sw_step rfl rfl rfl (OpR.q (q_neq rfl rfl rfl)) ?_
  refine sw_step rfl rfl rfl (OpR.q (q_or2 rfl rfl rfl)) ?_
  refine sw_step rfl rfl rfl (OpR.q (q_move rfl rfl)) ?_
  refine sw_step rfl rfl rfl (OpR.q (q_move rfl rfl)) ?_
  refine sw_step rfl rfl rfl (OpR.q (q_len rfl (.cons rfl inferInstance (.nil)) (by exact fun w hw => rd_own hw (by exact .tail _ (.tail _ (.tail _ (.tail _ (.tail _ (.tail _ (.tail _ (.tail _ (.head _)))))))))))) ?_
  refine sw_step rfl rfl rfl (OpR.q (q_neq rfl rfl rfl)) ?_
  refine sw_step rfl rfl rfl (OpR.q (q_or2 rfl rfl rfl)) ?_
  refine sw_step rfl rfl rfl (OpR.q (q_move rfl rfl)) ?_
  refine sw_step rfl rfl rfl (OpR.q (q_move rfl rfl)) ?_
  refine sw_step rfl rfl rfl (OpR.q (q_len rfl (.cons rfl inferInstance (.nil)) (by exact fun w hw => rd_own hw (by exact .tail _ (.tail _ (.tail _ (.head _))))))) ?_
  refine sw_step rfl rfl rfl (OpR.q (q_neq rfl rfl rfl)) ?_
  refine sw_step rfl rfl rfl (OpR.q (q_or2 rfl rfl rfl)) ?_
  refine sw_step rfl rfl rfl (OpR.q (q_move rfl rfl)) ?_
  refine sw_step rfl rfl rfl (OpR.q (q_move rfl rfl)) ?_
  refine sw_step rfl rfl rfl (OpR.q (q_len rfl (.cons rfl inferInstance (.nil)) (by exact fun w hw => rd_own hw (by exact .head _)))) ?_
  refine sw_step rfl rfl rfl (OpR.q (q_neq rfl rfl rfl)) ?_
  refine sw_step rfl rfl rfl (OpR.q (q_or2 rfl rfl rfl)) ?_
  refine sw_nil ?_
  refine post_then ?_
  -- STOP at: cond
  refine cw_cond rfl (fun h => ?_) (fun h => ?_)
  · skip
    simp at h
  · skip
    refine cw_le (E' := [(1, [], s14.v), (3, [], .pointer (some ⟨b3, 0, none⟩)), (5, [], .pointer (some ⟨b5, 0, none⟩)), (7, [], s31.v), (9, [], s35.v), (11, [], s41.v)]) (by exact .cons rfl (.cons rfl (.cons rfl (.cons rfl (.cons rfl (.cons rfl .nil)))))) ?_
    refine cw_c (C' := Cl w [] [ownL 3 s14.v ([-1, 1, 1, -1, -1, -1, -1, -1] : List Int), blk b3 [.int .i64 2, .int .i64 8] 25, blk b5 [.int .i64 2, .int .i64 32] 25, ownL 4 s31.v [true, false, false], ownL 37 s35.v [q0, q1, q2, q3], ownL 3 q0.v ([0, 1, 3, 2] : List Int), ownL 3 q3.v ([3, 0, 2, 1] : List Int), ownL 44 s41.v ([⟨1, 2, 7⟩, ⟨4, 6, 5⟩] : List Change)]) (fun w h => Cl.sel (Sel.take 13 rfl (Sel.take 11 rfl (Sel.take 10 rfl (Sel.take 8 rfl (Sel.take 3 rfl (Sel.take 3 rfl (Sel.take 5 rfl (Sel.take 0 rfl (Sel.nil _))))))))) w h) ?_
    refine cw_skip ?_
    refine post_then ?_
    refine cw_seq ?_
    -- region 9
    refine cw_region ?_
    refine sw_step rfl rfl rfl (OpR.q (q_move rfl rfl)) ?_
    -- STOP at: t82  := buildSlice 37 8 [<0, -1:i64>, <1, 1:i64>, <2, 1:i64>, <3, -1:i64>, <4, -1:i64>, <5, -1:i64>, <6, -1:i64>, <7, -1:i64>] :37
    refine sw_x rfl rfl rfl (e_buildL (α := Int) (l := [-1, 1, 1, -1, -1, -1, -1, -1]) rfl (.cons rfl inferInstance (.cons rfl inferInstance (.cons rfl inferInstance (.cons rfl inferInstance (.cons rfl inferInstance (.cons rfl inferInstance (.cons rfl inferInstance (.cons rfl inferInstance (.nil))))))))) rfl rfl rfl rfl) (fun s82 => ?_)
    refine sw_step rfl rfl rfl (q_call (CanCall.mk Try.call26) rfl (.cons rfl inferInstance (.cons rfl inferInstance (.nil))) (fun _ w hw => callq hw (sameInts_spec _ _ _ _ w (by exact stb_own hw (by exact .tail _ (.head _))) (by exact stb_own hw (by exact .head _))))) ?_
    refine sw_step rfl rfl rfl (OpR.q (q_move rfl rfl)) ?_
    refine sw_step rfl rfl rfl (OpR.q (q_loadA rfl rfl (by exact .tail _ (.tail _ (.head _))) rfl)) ?_
    refine sw_step rfl rfl rfl (OpR.q (q_build rfl (.cons rfl inferInstance (.cons rfl inferInstance (.nil))) rfl)) ?_
    -- STOP at: t87  := binOp eql 25 t85 t86 25 :4 ?<3, true>
    refine sw_step rfl rfl rfl (OpR.q (q_eqlS rfl rfl rfl (by kernel_rfl) (fun w => eq25 ⟨2, 8⟩ ⟨2, 8⟩ w))) ?_
    refine sw_step rfl rfl rfl (OpR.q (q_and2 rfl rfl rfl)) ?_
    refine sw_step rfl rfl rfl (OpR.q (q_move rfl rfl)) ?_
    refine sw_step rfl rfl rfl (OpR.q (q_loadA rfl rfl (by exact .tail _ (.tail _ (.tail _ (.head _)))) rfl)) ?_
    refine sw_step rfl rfl rfl (OpR.q (q_build rfl (.cons rfl inferInstance (.cons rfl inferInstance (.nil))) rfl)) ?_
    -- STOP at: t92  := binOp eql 25 t90 t91 25 :4 ?<8, true>
    refine sw_step rfl rfl rfl (OpR.q (q_eqlS rfl rfl rfl (by kernel_rfl) (fun w => eq25 ⟨2, 32⟩ ⟨2, 32⟩ w))) ?_
    refine sw_step rfl rfl rfl (OpR.q (q_and2 rfl rfl rfl)) ?_
    refine sw_step rfl rfl rfl (OpR.q (q_move rfl rfl)) ?_
    refine sw_step rfl rfl rfl (OpR.q (q_move rfl rfl)) ?_
    refine sw_step rfl rfl rfl (OpR.q (q_indexN rfl rfl rfl (by exact fun w hw => rd_own hw (by exact .tail _ (.tail _ (.tail _ (.tail _ (.head _)))))) (by intro hc; (simp only [List.length_set, List.length_append, List.length_cons, List.length_nil, List.length_replicate, List.length_take, List.length_drop, List.length_map]; omega)))) ?_
    refine sw_step rfl rfl rfl (OpR.q (q_loadEl rfl rfl rfl (by exact fun w hw => rd_own hw (by exact .tail _ (.tail _ (.tail _ (.tail _ (.head _)))))) (by intro hc; (simp only [List.length_set, List.length_append, List.length_cons, List.length_nil, List.length_replicate, List.length_take, List.length_drop, List.length_map]; omega)))) ?_
    refine sw_step rfl rfl rfl (OpR.q (q_and2 rfl rfl rfl)) ?_
    refine sw_step rfl rfl rfl (OpR.q (q_move rfl rfl)) ?_
    refine sw_step rfl rfl rfl (OpR.q (q_move rfl rfl)) ?_
    refine sw_step rfl rfl rfl (OpR.q (q_indexN rfl rfl rfl (by exact fun w hw => rd_own hw (by exact .tail _ (.tail _ (.tail _ (.tail _ (.head _)))))) (by intro hc; (simp only [List.length_set, List.length_append, List.length_cons, List.length_nil, List.length_replicate, List.length_take, List.length_drop, List.length_map]; omega)))) ?_
    refine sw_step rfl rfl rfl (OpR.q (q_loadEl rfl rfl rfl (by exact fun w hw => rd_own hw (by exact .tail _ (.tail _ (.tail _ (.tail _ (.head _)))))) (by intro hc; (simp only [List.length_set, List.length_append, List.length_cons, List.length_nil, List.length_replicate, List.length_take, List.length_drop, List.length_map]; omega)))) ?_
    refine sw_step rfl rfl rfl (OpR.q (q_not rfl rfl)) ?_
    refine sw_step rfl rfl rfl (OpR.q (q_and2 rfl rfl rfl)) ?_
    refine sw_step rfl rfl rfl (OpR.q (q_move rfl rfl)) ?_
    refine sw_step rfl rfl rfl (OpR.q (q_move rfl rfl)) ?_
    refine sw_step rfl rfl rfl (OpR.q (q_indexN rfl rfl rfl (by exact fun w hw => rd_own hw (by exact .tail _ (.tail _ (.tail _ (.tail _ (.head _)))))) (by intro hc; (simp only [List.length_set, List.length_append, List.length_cons, List.length_nil, List.length_replicate, List.length_take, List.length_drop, List.length_map]; omega)))) ?_
    refine sw_step rfl rfl rfl (OpR.q (q_loadEl rfl rfl rfl (by exact fun w hw => rd_own hw (by exact .tail _ (.tail _ (.tail _ (.tail _ (.head _)))))) (by intro hc; (simp only [List.length_set, List.length_append, List.length_cons, List.length_nil, List.length_replicate, List.length_take, List.length_drop, List.length_map]; omega)))) ?_
    refine sw_step rfl rfl rfl (OpR.q (q_not rfl rfl)) ?_
    refine sw_step rfl rfl rfl (OpR.q (q_and2 rfl rfl rfl)) ?_
    refine sw_step rfl rfl rfl (OpR.q (q_move rfl rfl)) ?_
    refine sw_step rfl rfl rfl (OpR.q (q_move rfl rfl)) ?_
    refine sw_step rfl rfl rfl (OpR.q (q_indexN rfl rfl rfl (by exact fun w hw => rd_own hw (by exact .tail _ (.tail _ (.tail _ (.tail _ (.tail _ (.head _))))))) (by intro hc; (simp only [List.length_set, List.length_append, List.length_cons, List.length_nil, List.length_replicate, List.length_take, List.length_drop, List.length_map]; omega)))) ?_
    refine sw_step rfl rfl rfl (OpR.q (q_loadEl rfl rfl rfl (by exact fun w hw => rd_own hw (by exact .tail _ (.tail _ (.tail _ (.tail _ (.tail _ (.head _))))))) (by intro hc; (simp only [List.length_set, List.length_append, List.length_cons, List.length_nil, List.length_replicate, List.length_take, List.length_drop, List.length_map]; omega)))) ?_
    -- STOP at: t115 := buildSlice 37 4 [<0, 0:i64>, <1, 1:i64>, <2, 3:i64>, <3, 2:i64>] :37 ?<30, true>
    refine sw_lee (E' := [(9, [], s35.v), (11, [], s41.v), (111, [], .bool true), (114, [true], q0.v)]) (by exact .cons rfl (.cons rfl (.cons rfl (.cons rfl .nil)))) ?_
    refine sw_xg rfl (by first | (simp [AllT]; done) | simp [AllT, *]) rfl rfl (e_buildL (α := Int) (l := [0, 1, 3, 2]) rfl (.cons rfl inferInstance (.cons rfl inferInstance (.cons rfl inferInstance (.cons rfl inferInstance (.nil))))) rfl rfl rfl rfl) (fun s115 => ?_)
    refine sw_step rfl rfl rfl (q_call (CanCall.mk Try.call26) rfl (.cons rfl inferInstance (.cons rfl inferInstance (.nil))) (fun _ w hw => callq hw (sameInts_spec _ _ _ _ w (by exact stb_own hw (by exact .tail _ (.tail _ (.tail _ (.tail _ (.tail _ (.tail _ (.tail _ (.head _))))))))) (by exact stb_own hw (by exact .head _))))) ?_
    refine sw_step rfl rfl rfl (OpR.q (q_and2 rfl rfl rfl)) ?_
    refine sw_step rfl rfl rfl (OpR.q (q_move rfl rfl)) ?_
    refine sw_step rfl rfl rfl (OpR.q (q_move rfl rfl)) ?_
    refine sw_step rfl rfl rfl (OpR.q (q_indexN rfl rfl rfl (by exact fun w hw => rd_own hw (by exact .tail _ (.tail _ (.tail _ (.tail _ (.tail _ (.tail _ (.head _)))))))) (by intro hc; (simp only [List.length_set, List.length_append, List.length_cons, List.length_nil, List.length_replicate, List.length_take, List.length_drop, List.length_map]; omega)))) ?_
    refine sw_step rfl rfl rfl (OpR.q (q_loadEl rfl rfl rfl (by exact fun w hw => rd_own hw (by exact .tail _ (.tail _ (.tail _ (.tail _ (.tail _ (.tail _ (.head _)))))))) (by intro hc; (simp only [List.length_set, List.length_append, List.length_cons, List.length_nil, List.length_replicate, List.length_take, List.length_drop, List.length_map]; omega)))) ?_
    -- STOP at: t122 := buildSlice 37 4 [<0, 3:i64>, <1, 0:i64>, <2, 2:i64>, <3, 1:i64>] :37 ?<37, true>
    refine sw_lee (E' := [(11, [], s41.v), (118, [], .bool true), (121, [true], q3.v)]) (by exact .cons rfl (.cons rfl (.cons rfl .nil))) ?_
    refine sw_xg rfl (by first | (simp [AllT]; done) | simp [AllT, *]) rfl rfl (e_buildL (α := Int) (l := [3, 0, 2, 1]) rfl (.cons rfl inferInstance (.cons rfl inferInstance (.cons rfl inferInstance (.cons rfl inferInstance (.nil))))) rfl rfl rfl rfl) (fun s122 => ?_)
    refine sw_step rfl rfl rfl (q_call (CanCall.mk Try.call26) rfl (.cons rfl inferInstance (.cons rfl inferInstance (.nil))) (fun _ w hw => callq hw (sameInts_spec _ _ _ _ w (by exact stb_own hw (by exact .tail _ (.tail _ (.tail _ (.tail _ (.tail _ (.tail _ (.tail _ (.tail _ (.tail _ (.head _))))))))))) (by exact stb_own hw (by exact .head _))))) ?_
    refine sw_step rfl rfl rfl (OpR.q (q_and2 rfl rfl rfl)) ?_
    refine sw_step rfl rfl rfl (OpR.q (q_move rfl rfl)) ?_
    refine sw_step rfl rfl rfl (OpR.q (q_move rfl rfl)) ?_
    refine sw_step rfl rfl rfl (OpR.q (q_indexN rfl rfl rfl (by exact fun w hw => rd_own hw (by exact .tail _ (.tail _ (.tail _ (.tail _ (.tail _ (.tail _ (.tail _ (.tail _ (.tail _ (.tail _ (.head _)))))))))))) (by intro hc; (simp only [List.length_set, List.length_append, List.length_cons, List.length_nil, List.length_replicate, List.length_take, List.length_drop, List.length_map]; omega)))) ?_
    refine sw_step rfl rfl rfl (OpR.q (q_loadEl rfl rfl rfl (by exact fun w hw => rd_own hw (by exact .tail _ (.tail _ (.tail _ (.tail _ (.tail _ (.tail _ (.tail _ (.tail _ (.tail _ (.tail _ (.head _)))))))))))) (by intro hc; (simp only [List.length_set, List.length_append, List.length_cons, List.length_nil, List.length_replicate, List.length_take, List.length_drop, List.length_map]; omega)))) ?_
    refine sw_step rfl rfl rfl (OpR.q (q_build rfl (.cons rfl inferInstance (.cons rfl inferInstance (.cons rfl inferInstance (.nil)))) rfl)) ?_
    -- STOP at: t130 := binOp eql 44 t128 t129 44 :4 ?<44, true>
    refine sw_step rfl rfl rfl (OpR.q (q_eqlS rfl rfl rfl (by kernel_rfl) (fun w => eq44 ⟨1, 2, 7⟩ ⟨1, 2, 7⟩ w))) ?_
    refine sw_step rfl rfl rfl (OpR.q (q_and2 rfl rfl rfl)) ?_
    refine sw_step rfl rfl rfl (OpR.q (q_move rfl rfl)) ?_
    refine sw_step rfl rfl rfl (OpR.q (q_move rfl rfl)) ?_
    refine sw_step rfl rfl rfl (OpR.q (q_indexN rfl rfl rfl (by exact fun w hw => rd_own hw (by exact .tail _ (.tail _ (.tail _ (.tail _ (.tail _ (.tail _ (.tail _ (.tail _ (.tail _ (.tail _ (.head _)))))))))))) (by intro hc; (simp only [List.length_set, List.length_append, List.length_cons, List.length_nil, List.length_replicate, List.length_take, List.length_drop, List.length_map]; omega)))) ?_
    refine sw_step rfl rfl rfl (OpR.q (q_loadEl rfl rfl rfl (by exact fun w hw => rd_own hw (by exact .tail _ (.tail _ (.tail _ (.tail _ (.tail _ (.tail _ (.tail _ (.tail _ (.tail _ (.tail _ (.head _)))))))))))) (by intro hc; (simp only [List.length_set, List.length_append, List.length_cons, List.length_nil, List.length_replicate, List.length_take, List.length_drop, List.length_map]; omega)))) ?_
    refine sw_step rfl rfl rfl (OpR.q (q_build rfl (.cons rfl inferInstance (.cons rfl inferInstance (.cons rfl inferInstance (.nil)))) rfl)) ?_
    -- STOP at: t137 := binOp eql 44 t135 t136 44 :4 ?<51, true>
    refine sw_step rfl rfl rfl (OpR.q (q_eqlS rfl rfl rfl (by kernel_rfl) (fun w => eq44 ⟨4, 6, 5⟩ ⟨4, 6, 5⟩ w))) ?_
    refine sw_step rfl rfl rfl (OpR.q (q_and2 rfl rfl rfl)) ?_
    refine sw_step rfl rfl rfl (OpR.q (q_assign rfl rfl)) ?_
    refine sw_nil ?_
    refine post_then ?_
    refine cw_ret ?_
    refine post_ret1 rfl (resOk_tmp rfl) ?_
    exact fun w' hw => ⟨rfl, (fun w h => Cl.sel (by exact .nil _) w h) _ hw⟩
end Go.Proofs.Ytekikelejncgeaa
