import Derived.Test.YtekikelejncgeaaG
set_option autoImplicit false
set_option linter.unusedSimpArgs false
set_option linter.unusedVariables false
set_option maxRecDepth 100000
namespace Go.Proofs.Ytekikelejncgeaa
open Go.Sx
open Enc (enc val)

theorem srt_pairwise {l : List Int} (h : Srt l 0 l.length) : l.Pairwise (· ≤ ·) := by
  rw [List.pairwise_iff_getElem]
  intro i j hi hj hij
  have := h i j (Nat.zero_le _) hij hj
  rwa [nth_get hi, nth_get hj] at this

theorem keys_spec (b clock : Nat) (es : Ents Int Int) (ok : EntsOk es clock) (h12 : es.length ≤ 12) (w : World) (hb : Stb w [] (fun w => w.heap[b]? = some (mapO es clock))) :
    Calls Try.prog 94 #[.map (some b)] w fun e w' => ∃ y : SlV × List Int, e = .returned y.1.v ∧ (y.2.Perm (es.map (·.1)) ∧ y.2.Pairwise (· ≤ ·)) ∧ Cl w [] [ownL 3 y.1.v y.2] w' := by
  refine calls_cw (vs := [_]) Try.func94 rfl Try.ntmps94 rfl (Cl.start0 w) ?_
  refine cw_seq ?_
  -- region 0
  refine cw_region ?_
  refine sw_step rfl rfl rfl (OpR.q (q_assign rfl rfl)) ?_
  refine sw_nil ?_
  refine post_then ?_
  refine cw_seq ?_
  -- region 1
  refine cw_region ?_
  refine sw_step rfl rfl rfl (OpR.q (q_assign rfl rfl)) ?_
  refine sw_nil ?_
  refine post_then ?_
  refine cw_seq ?_
  refine cw_seq ?_
  -- region 2
  refine cw_region ?_
  refine sw_step rfl rfl rfl (OpR.q (q_move rfl rfl)) ?_
  -- STOP at: t6   := range 124 t5 :0
  refine sw_x rfl rfl rfl (e_range (es := es) rfl rfl (by exact fun w hw => Stb.cl (by assumption) hw)) (fun r6 => ?_)
  refine sw_nil ?_
  refine post_then ?_
  refine cw_block ?_
  -- STOP at: loop
  refine cw_loop (S := Array Nat × SlV × List Int) (fun y => [(3, [], y.2.1.v), (6, [], .pointer (some ⟨r6, 0, none⟩))]) (fun y => Cl w [] [obj r6 (itO b clock y.1), ownL 3 y.2.1.v y.2.2]) (fun y => (y.2.2 ++ (left es y.1).map (·.1)).Perm (es.map (·.1))) (fun y => (left es y.1).length) (#[], ⟨none, 0, 0⟩, []) (by simp [left_nil]) (by exact .cons rfl (.cons rfl .nil)) (fun w hw => Cl.sel (Sel.take 1 rfl (Sel.take 0 rfl (Sel.nil _))) w (hw.addNil (α := Int) 3)) ?_
  rintro ⟨seen, s, out⟩ hp
  dsimp only at hp ⊢
  have hpl := hp.length_eq
  simp only [List.length_append, List.length_map] at hpl
  refine cw_seq ?_
  -- region 3
  refine cw_region ?_
  -- STOP at: t7   := next t6 false :0
  refine sw_x rfl rfl rfl (e_next (i := 0) rfl rfl rfl ok (by exact fun w hw => Stb.cl (by assumption) hw)) (fun y7 => ?_)
  refine sw_step rfl rfl rfl (OpR.q (q_extract rfl rfl (nextV_0 _))) ?_
  refine sw_nil ?_
  refine post_then ?_
  refine cw_seq ?_
  -- STOP at: cond
  refine cw_cond rfl (fun h2 => ?_) (fun h2 => ?_)
  · skip
    obtain ⟨e, rfl⟩ := Option.isSome_iff_exists.1 h2
    refine cw_next_some fun he => ?_
    have hes : e ∈ es := (List.mem_filter.1 he).1
    have hperm := left_perm ok he
    have hlen := hperm.length_eq
    refine cw_skip ?_
    refine post_then ?_
    refine cw_block ?_
    refine cw_seq ?_
    -- region 4
    refine cw_region ?_
    -- STOP at: t9   := entry t6 :0
    refine sw_step rfl rfl rfl (OpR.q (q_entry rfl rfl (.head _) ok hes (by exact fun w hw => Stb.cl (by assumption) hw))) ?_
    refine sw_step rfl rfl rfl (OpR.q (q_extract rfl rfl rfl)) ?_
    refine sw_step rfl rfl rfl (OpR.q (q_assign rfl rfl)) ?_
    refine sw_nil ?_
    refine post_then ?_
    -- region 5
    refine cw_region ?_
    refine sw_step rfl rfl rfl (OpR.q (q_move rfl rfl)) ?_
    refine sw_step rfl rfl rfl (OpR.q (q_move rfl rfl)) ?_
    refine sw_x rfl rfl rfl (e_build1 (α := Int) rfl rfl rfl rfl) (fun s13 => ?_)
    refine sw_x rfl rfl rfl (e_append (i := 2) rfl (.cons rfl inferInstance (.cons rfl inferInstance (.nil))) rfl rfl (by exact fun w hw => rd_own hw (by exact .head _)) (by simp only [List.length_set, List.length_append, List.length_cons, List.length_nil, List.length_replicate, List.length_take, List.length_drop, List.length_map]; omega) rfl) (fun s14 => ?_)
    refine sw_step rfl rfl rfl (OpR.q (q_assign rfl rfl)) ?_
    refine sw_nil ?_
    refine post_blk ?_
    refine post_next (seen.push e.2.2, s14, out ++ [e.1]) (by exact .cons rfl (.cons rfl .nil)) (fun w h => Cl.sel (by exact .take 1 rfl (.take 1 rfl (.nil _))) w h) ?_ ?_
    · simp only
      refine List.Perm.trans ?_ hp
      have := (hperm.map (·.1)).symm
      simp only [List.append_assoc, List.singleton_append]
      exact List.Perm.append_left out this
    · simp only [List.length_cons] at hlen ⊢
      omega
  · skip
    have hn : y7 = none := by cases y7 <;> simp_all
    subst hn
    refine cw_next_none fun hl0 => ?_
    rw [hl0] at hp hpl
    simp only [List.map_nil, List.append_nil, List.length_nil] at hp hpl
    refine cw_exit ?_
    refine post_then_x ?_
    refine post_then_x ?_
    refine post_blk_eq ?_
    refine post_then ?_
    refine cw_seq ?_
    -- region 6
    refine cw_region ?_
    refine sw_step rfl rfl rfl (OpR.q (q_move rfl rfl)) ?_
    -- STOP at: t16  := call {callee=(value F101), args=[t15], argTypes=[37]} :0
    refine sw_x rfl rfl rfl (e_callH (A := [ownL 3 s.v out]) (F := [obj r6 (itO b clock seen)]) (CanCall.mk Try.call101) rfl rfl (.cons rfl inferInstance (.nil)) (.swap _ _ _) (fun w bs h1 h2 h3 _ _ => sort12_spec s out (by omega) w bs h1 h2 h3)) (fun l16 => ?_)
    refine sw_imp fun hm => ?_
    refine sw_nil ?_
    refine post_then ?_
    refine cw_seq ?_
    -- region 7
    refine cw_region ?_
    refine sw_step rfl rfl rfl (OpR.q (q_move rfl rfl)) ?_
    refine sw_step rfl rfl rfl (OpR.q (q_assign rfl rfl)) ?_
    refine sw_nil ?_
    refine post_then ?_
    refine cw_ret ?_
    refine post_ret1 rfl (resOk_tmp rfl) ?_
    exact fun w' hw => ⟨(s, l16), rfl, ⟨hm.1.perm.trans hp, srt_pairwise (by have := hm.2; rwa [← hm.1.len] at this)⟩, (fun w h => Cl.sel (by exact .take 0 rfl (.nil _)) w h) _ hw⟩
end Go.Proofs.Ytekikelejncgeaa
