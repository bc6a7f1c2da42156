import Derived.Test.YtomjbfeafodfbaaGreatWBounds5

set_option autoImplicit false
set_option linter.unusedSimpArgs false
set_option linter.unusedVariables false
set_option maxRecDepth 100000
namespace Go.Proofs.YtomjbfeafodfbaaGreat
open Go.Sx
open Enc (enc val)

/-! ### the law of bounds -/
theorem prov_bound {n : Nat} {ms : List Nat} {prices : List Int} {scale : Int} (h : provB n ms prices scale = true) {c : List Int} (hc : Cvr n ms c) : provV n ms prices scale ≤ c.length ∧ sumTo prices n ≤ scale * c.length := by
  have h0 := h
  rw [provB, Bool.and_eq_true] at h
  obtain ⟨h1, h2⟩ := h
  simp only [prcB, Bool.and_eq_true, inB, decide_eq_true_eq] at h1
  obtain ⟨⟨h3, h4⟩, h5⟩ := h1
  have hp : ∀ k, 0 ≤ nth prices k := fun k => (nth_bd (lo := 0) (hi := 1000000000) (by omega) (fun v hv => by have := List.all_eq_true.1 h5 v hv; simpa using this) k).1
  have hs : ∀ i, i < ms.length → psum prices (nth ms i) n ≤ scale := fun i hi => by
    have := List.all_eq_true.1 h2 _ (nth_mem hi)
    simpa using this
  have hb := cover_bound hp (by omega) hs hc
  refine ⟨?_, hb⟩
  rw [provV, h0, if_pos rfl]
  exact ceil_le (by omega) hb
theorem greedy_prov {n : Nat} {ms : List Nat} (hn : n ≤ 30) (hm : MsOk n ms) {k : Nat} (hk : GOk n ms k) : provB n ms ((giter n ms k).sh.map fun k => 27720 / k) (scaleTo (wid ms)) = true := by
  have hl := giter_sh n ms k
  have hw := widTo_bd ms ms.length
  have hw2 : 1 ≤ wid ms ∧ wid ms ≤ 32 := hw
  have hs := scaleTo_bd (wid ms)
  have hs1 : 27720 ≤ scaleTo (wid ms) := by
    have := scaleTo_mono hw2.1
    have e : scaleTo 1 = 27720 := by decide
    omega
  rw [provB, Bool.and_eq_true]
  constructor
  · simp only [prcB, Bool.and_eq_true, inB, decide_eq_true_eq]
    refine ⟨⟨by simpa using hl, by omega, by omega⟩, List.all_eq_true.2 fun v hv => ?_⟩
    obtain ⟨j, hj, rfl⟩ := List.getElem_of_mem hv
    have h1 := price_nonneg (giter_nonneg hk) j
    have e : nth (prcL (giter n ms k).sh) j = nth ((giter n ms k).sh.map fun k => 27720 / k) j := rfl
    rw [e, nth_get hj] at h1
    simp only [Bool.and_eq_true, decide_eq_true_eq]; omega
  · refine List.all_eq_true.2 fun m hmm => ?_
    obtain ⟨j, hj, rfl⟩ := List.getElem_of_mem hmm
    have := greedy_proves (by omega) hm hk hj
    rw [nth_get hj] at this
    simp only [decide_eq_true_eq]; exact this
theorem lawBounds_out (n : Int) (sv : SlV) (vs : List SlV) (ls : List (List Int)) (sp : SlV) (prices : List Int) (scale : Int) (w : World) (hm : Stb w [] (fun w' => Mt w' sv.v vs ls)) (hout : ¬ (setsOk n ls 8 = true ∧ ls.length ≤ 8)) :
    Calls Tryz.prog 9 #[.int .i64 n, sv.v, sp.v, .int .i64 scale] w fun e w' => e = .returned (.bool true) ∧ Cl w [] [] w' := by
  have h1 := stb_map hm fun _ h => h.l
  have n1 := hm.here.n
  refine calls_cw (vs := [_, _, _, _]) Tryz.func9 rfl Tryz.ntmps9 rfl (Cl.start0 w) ?_
  refine cw_seq ?_
  -- region 0
  refine cw_region ?_
  refine sw_step rfl rfl rfl (OpR.q (q_assign rfl rfl)) ?_
  refine sw_nil ?_
  refine post_then ?_
  refine cw_seq ?_
  refine cw_seq ?_
  -- region 1
  refine cw_region ?_
  refine sw_step rfl rfl rfl (OpR.q (q_move rfl rfl)) ?_
  refine sw_step rfl rfl rfl (OpR.q (q_move rfl rfl)) ?_
  refine sw_step rfl rfl rfl (q_call (CanCall.mk Tryz.call33) rfl (.cons rfl inferInstance (.cons rfl inferInstance (.cons rfl inferInstance (.nil)))) (fun _ w hw => callq hw (sets_spec n sv vs ls 8 w (stb_arg hw hm)))) ?_
  refine sw_step rfl rfl rfl (OpR.q (q_not rfl rfl)) ?_
  refine sw_step rfl rfl rfl (OpR.q (q_move rfl rfl)) ?_
  refine sw_step rfl rfl rfl (OpR.q (q_move rfl rfl)) ?_
  refine sw_step rfl rfl rfl (OpR.q (q_len rfl (.cons rfl inferInstance (.nil)) (by exact fun w hw => Stb.cl (by assumption) hw))) ?_
  refine sw_step rfl rfl rfl (OpR.q (q_gtr rfl rfl rfl)) ?_
  refine sw_step rfl rfl rfl (OpR.q (q_or2 rfl rfl rfl)) ?_
  refine sw_step rfl rfl rfl (OpR.q (q_move rfl rfl)) ?_
  refine sw_step rfl rfl rfl (OpR.q (q_move rfl rfl)) ?_
  refine sw_step rfl rfl rfl (OpR.q (q_move rfl rfl)) ?_
  -- STOP at: t34  := call {callee=(value F35), args=[t32, t33], argTypes=[3, 31]} :32 ?<9, false>
  have hg : (!setsOk n ls 8 || decide (8 < (vs.length : Int))) = true := by
    rw [n1]
    cases h2 : setsOk n ls 8
    · rfl
    · have : ¬ ls.length ≤ 8 := fun h => hout ⟨h2, h⟩
      simp; omega
  rw [hg]
  refine sw_step rfl rfl rfl (OpR.q (q_off (v := .int .i64 0) (by simp [AllT]))) ?_
  refine sw_step rfl rfl rfl (OpR.q (q_neq rfl rfl rfl)) ?_
  refine sw_step rfl rfl rfl (OpR.q (q_or2 rfl rfl rfl)) ?_
  refine sw_nil ?_
  refine post_then ?_
  -- STOP at: cond
  refine cw_cond rfl (fun h => ?_) (fun h => ?_)
  · skip
    refine cw_seq ?_
    -- region 2
    refine cw_region ?_
    refine sw_step rfl rfl rfl (q_call (CanCall.mk Tryz.call18) rfl (.nil) (fun _ w hw => callq hw (known_spec w))) ?_
    refine sw_step rfl rfl rfl (OpR.q (q_assign rfl rfl)) ?_
    refine sw_nil ?_
    refine post_then ?_
    refine cw_ret ?_
    refine post_then_r ?_
    refine post_ret1 rfl (resOk_tmp rfl) ?_
    exact fun w' hw => ⟨rfl, hw⟩
  · skip
    simp at h
theorem lawBounds_wide (n : Nat) (hn : n ≤ 30) (sv : SlV) (vs : List SlV) (ls : List (List Int)) (sp : SlV) (prices : List Int) (scale : Int) (w : World) (hm : Stb w [] (fun w' => Mt w' sv.v vs ls)) (hp : Stb w [] (RdL sp.v prices)) (hso : setsOk n ls 8 = true) (h8 : ls.length ≤ 8) (hE : covE n ls 1000 = 0) (hP : possN n (msOf ls) = true) (h12 : 12 < wid (msOf ls)) :
    Calls Tryz.prog 9 #[.int .i64 n, sv.v, sp.v, .int .i64 scale] w fun e w' => e = .returned (.bool true) ∧ Cl w [] [] w' := by
  have h1 := stb_map hm fun _ h => h.l
  have n1 := hm.here.n
  obtain ⟨q1, q2, q3, q4⟩ := covE_ok hE
  have hmo := msOf_ok q4
  have hml : (msOf ls).length = ls.length := by simp [msOf]
  obtain ⟨c, hc1, hc2, hc3⟩ := least_some (by omega) hP
  have hg : greedyE n ls = 0 := by rw [greedyE_ok hE, hP]; rfl
  refine calls_cw (vs := [_, _, _, _]) Tryz.func9 rfl Tryz.ntmps9 rfl (Cl.start0 w) ?_
  refine cw_seq ?_
  -- region 0
  refine cw_region ?_
  refine sw_step rfl rfl rfl (OpR.q (q_assign rfl rfl)) ?_
  refine sw_nil ?_
  refine post_then ?_
  refine cw_seq ?_
  refine cw_seq ?_
  -- region 1
  refine cw_region ?_
  refine sw_step rfl rfl rfl (OpR.q (q_move rfl rfl)) ?_
  refine sw_step rfl rfl rfl (OpR.q (q_move rfl rfl)) ?_
  refine sw_step rfl rfl rfl (q_call (CanCall.mk Tryz.call33) rfl (.cons rfl inferInstance (.cons rfl inferInstance (.cons rfl inferInstance (.nil)))) (fun _ w hw => callq hw (sets_spec n sv vs ls 8 w (stb_arg hw hm)))) ?_
  refine sw_step rfl rfl rfl (OpR.q (q_not rfl rfl)) ?_
  refine sw_step rfl rfl rfl (OpR.q (q_move rfl rfl)) ?_
  refine sw_step rfl rfl rfl (OpR.q (q_move rfl rfl)) ?_
  refine sw_step rfl rfl rfl (OpR.q (q_len rfl (.cons rfl inferInstance (.nil)) (by exact fun w hw => Stb.cl (by assumption) hw))) ?_
  refine sw_step rfl rfl rfl (OpR.q (q_gtr rfl rfl rfl)) ?_
  refine sw_step rfl rfl rfl (OpR.q (q_or2 rfl rfl rfl)) ?_
  refine sw_step rfl rfl rfl (OpR.q (q_move rfl rfl)) ?_
  refine sw_step rfl rfl rfl (OpR.q (q_move rfl rfl)) ?_
  refine sw_step rfl rfl rfl (OpR.q (q_move rfl rfl)) ?_
  refine sw_step rfl rfl rfl (q_call (CanCall.mk Tryz.call35) rfl (.cons rfl inferInstance (.cons rfl inferInstance (.nil))) (fun _ w hw => callq hw (needed_spec n (.inl (by omega)) sv vs ls (.inl h8) w (stb_arg hw hm)))) ?_
  refine sw_step rfl rfl rfl (OpR.q (q_neq rfl rfl rfl)) ?_
  refine sw_step rfl rfl rfl (OpR.q (q_or2 rfl rfl rfl)) ?_
  refine sw_nil ?_
  refine post_then ?_
  -- STOP at: cond
  refine cw_cond rfl (fun h => ?_) (fun h => ?_)
  · skip
    exfalso
    rw [hso, hg] at h
    simp at h; omega
  · skip
    clear h
    refine cw_skip ?_
    refine post_then ?_
    refine cw_seq ?_
    -- region 3
    refine cw_region ?_
    refine sw_step rfl rfl rfl (OpR.q (q_move rfl rfl)) ?_
    refine sw_step rfl rfl rfl (OpR.q (q_move rfl rfl)) ?_
    -- STOP at: t41  := call {callee=(value F41), args=[t39, t40], argTypes=[3, 31]} :72
    refine sw_x rfl rfl rfl (e_call (CanCall.mk Tryz.call41) rfl (.cons rfl inferInstance (.cons rfl inferInstance (.nil))) (fun w hw => refLeast_spec n hn sv vs ls (by omega) q4 w (stb_arg hw hm))) (fun r => ?_)
    refine sw_imp fun _ => ?_
    rw [hc1]
    refine sw_le (C' := Cl w [] [ownL 3 r.v c]) (fun w' hw => hw) ?_
    refine sw_step rfl rfl rfl (OpR.q (q_move rfl rfl)) ?_
    refine sw_step rfl rfl rfl (OpR.q (q_extract rfl rfl rfl)) ?_
    refine sw_step rfl rfl rfl (OpR.q (q_extract rfl rfl rfl)) ?_
    refine sw_step rfl rfl rfl (OpR.q (q_assign rfl rfl)) ?_
    refine sw_step rfl rfl rfl (OpR.q (q_assign rfl rfl)) ?_
    refine sw_nil ?_
    refine post_then ?_
    refine cw_seq ?_
    refine cw_seq ?_
    -- region 4
    refine cw_region ?_
    refine sw_step rfl rfl rfl (OpR.q (q_move rfl rfl)) ?_
    refine sw_step rfl rfl rfl (OpR.q (q_move rfl rfl)) ?_
    refine sw_step rfl rfl rfl (OpR.q (q_move rfl rfl)) ?_
    refine sw_step rfl rfl rfl (OpR.q (q_move rfl rfl)) ?_
    refine sw_step rfl rfl rfl (q_call (CanCall.mk Tryz.call39) rfl (.cons rfl inferInstance (.cons rfl inferInstance (.cons rfl inferInstance (.cons rfl inferInstance (.nil))))) (fun _ w hw => callq hw (proves_yes n hn sv vs ls sp prices scale w (stb_arg hw hm) (stb_arg hw hp) hE))) ?_
    refine sw_step rfl rfl rfl (OpR.q (q_move rfl rfl)) ?_
    refine sw_step rfl rfl rfl (OpR.q (q_extract rfl rfl rfl)) ?_
    refine sw_step rfl rfl rfl (OpR.q (q_extract rfl rfl rfl)) ?_
    refine sw_step rfl rfl rfl (OpR.q (q_assign rfl rfl)) ?_
    refine sw_step rfl rfl rfl (OpR.q (q_assign rfl rfl)) ?_
    refine sw_nil ?_
    refine post_then ?_
    refine cw_seq ?_
    -- region 5
    refine cw_region ?_
    refine sw_step rfl rfl rfl (OpR.q (q_move rfl rfl)) ?_
    refine sw_step rfl rfl rfl (OpR.q (q_move rfl rfl)) ?_
    refine sw_step rfl rfl rfl (OpR.q (q_move rfl rfl)) ?_
    refine sw_step rfl rfl rfl (OpR.q (q_move rfl rfl)) ?_
    refine sw_step rfl rfl rfl (OpR.q (q_len rfl (.cons rfl inferInstance (.nil)) (by exact fun w hw => rd_own hw (by exact .head _)))) ?_
    refine sw_step rfl rfl rfl (OpR.q (q_gtr rfl rfl rfl)) ?_
    refine sw_step rfl rfl rfl (OpR.q (q_and2 rfl rfl rfl)) ?_
    refine sw_nil ?_
    refine post_then ?_
    -- STOP at: cond
    refine cw_cond rfl (fun h => ?_) (fun h => ?_)
    · skip
      exfalso
      simp only [Bool.and_eq_true, decide_eq_true_eq] at h
      have := (prov_bound h.1 hc2).1
      omega
    · skip
      clear h
      refine cw_skip ?_
      refine post_then ?_
      refine cw_seq ?_
      -- region 7
      refine cw_region ?_
      refine sw_step rfl rfl rfl (OpR.q (q_move rfl rfl)) ?_
      refine sw_step rfl rfl rfl (OpR.q (q_move rfl rfl)) ?_
      -- STOP at: t62  := call {callee=(value F42), args=[t60, t61], argTypes=[3, 31]} :74
      refine sw_x rfl rfl rfl (e_call (CanCall.mk Tryz.call42) rfl (.cons rfl inferInstance (.cons rfl inferInstance (.nil))) (fun w hw => greedy_yes n hn sv vs ls h8 w (stb_arg hw hm) hE hP)) (fun z => ?_)
      refine sw_imp fun hz => ?_
      obtain ⟨sa, ⟨la, ka⟩⟩ := z
      dsimp only at hz ⊢
      have hidx : ∀ i ∈ la, 0 ≤ i ∧ i < ls.length := fun i hi => by
        have := giter_idx hz.ok i (hz.perm.mem_iff.1 hi)
        omega
      have hcov : cvrB n (msOf ls) la = true := cvrB_iff.2 fun x hx => by
        rw [unL_perm hz.perm]
        exact greedy_covers hz.ok x (fr_zero.1 hz.full x (by omega) (by rw [fullN_bit]; simpa using hx))
      have hlen : la.length = ka := by rw [hz.perm.length_eq, giter_out]
      have hkn := giter_bd (by omega) hmo hz.ok
      refine sw_step rfl rfl rfl (OpR.q (q_move rfl rfl)) ?_
      refine sw_step rfl rfl rfl (OpR.q (q_extract rfl rfl rfl)) ?_
      refine sw_step rfl rfl rfl (OpR.q (q_extract rfl rfl rfl)) ?_
      refine sw_step rfl rfl rfl (OpR.q (q_assign rfl rfl)) ?_
      refine sw_step rfl rfl rfl (OpR.q (q_assign rfl rfl)) ?_
      refine sw_nil ?_
      refine post_then ?_
      refine cw_seq ?_
      refine cw_seq ?_
      -- region 8
      refine cw_region ?_
      refine sw_step rfl rfl rfl (OpR.q (q_move rfl rfl)) ?_
      refine sw_step rfl rfl rfl (OpR.q (q_neq rfl rfl rfl)) ?_
      refine sw_step rfl rfl rfl (OpR.q (q_move rfl rfl)) ?_
      refine sw_step rfl rfl rfl (OpR.q (q_move rfl rfl)) ?_
      refine sw_step rfl rfl rfl (OpR.q (q_move rfl rfl)) ?_
      refine sw_step rfl rfl rfl (OpR.q (q_move rfl rfl)) ?_
      refine sw_step rfl rfl rfl (q_call (CanCall.mk Tryz.call43) rfl (.cons rfl inferInstance (.cons rfl inferInstance (.cons rfl inferInstance (.nil)))) (fun _ w hw => callq hw (refCovers_spec n hn sv vs ls q4 sa.v la hidx w (stb_arg hw hm) (stb_own (e := 3) hw (.head _))))) ?_
      refine sw_step rfl rfl rfl (OpR.q (q_not rfl rfl)) ?_
      refine sw_step rfl rfl rfl (OpR.q (q_or2 rfl rfl rfl)) ?_
      refine sw_nil ?_
      refine post_then ?_
      -- STOP at: cond
      refine cw_cond rfl (fun h => ?_) (fun h => ?_)
      · skip
        exfalso
        rw [hcov] at h
        simp at h
      · skip
        clear h
        refine cw_skip ?_
        refine post_then ?_
        refine cw_seq ?_
        -- region 10
        refine cw_region ?_
        refine sw_step rfl rfl rfl (OpR.q (q_move rfl rfl)) ?_
        refine sw_step rfl rfl rfl (OpR.q (q_move rfl rfl)) ?_
        refine sw_step rfl rfl rfl (q_call (CanCall.mk Tryz.call34) rfl (.cons rfl inferInstance (.cons rfl inferInstance (.nil))) (fun _ w hw => callq hw (price_wide n hn sv vs ls w (stb_arg hw hm) hE h12))) ?_
        refine sw_step rfl rfl rfl (OpR.q (q_move rfl rfl)) ?_
        refine sw_step rfl rfl rfl (OpR.q (q_extract rfl rfl rfl)) ?_
        refine sw_step rfl rfl rfl (OpR.q (q_extract rfl rfl rfl)) ?_
        refine sw_step rfl rfl rfl (OpR.q (q_extract rfl rfl rfl)) ?_
        refine sw_step rfl rfl rfl (OpR.q (q_assign rfl rfl)) ?_
        refine sw_step rfl rfl rfl (OpR.q (q_assign rfl rfl)) ?_
        refine sw_step rfl rfl rfl (OpR.q (q_assign rfl rfl)) ?_
        refine sw_nil ?_
        refine post_then ?_
        refine cw_seq ?_
        refine cw_seq ?_
        -- region 11
        refine cw_region ?_
        refine sw_step rfl rfl rfl (OpR.q (q_move rfl rfl)) ?_
        refine sw_step rfl rfl rfl (OpR.q (q_neq rfl rfl rfl)) ?_
        refine sw_nil ?_
        refine post_then ?_
        -- STOP at: cond
        refine cw_cond rfl (fun h => ?_) (fun h => ?_)
        · skip
          refine cw_seq ?_
          -- region 12
          refine cw_region ?_
          refine sw_step rfl rfl rfl (OpR.q (q_move rfl rfl)) ?_
          refine sw_step rfl rfl rfl (OpR.q (q_eql rfl rfl rfl)) ?_
          refine sw_step rfl rfl rfl (OpR.q (q_move rfl rfl)) ?_
          refine sw_step rfl rfl rfl (q_call (CanCall.mk Tryz.call18) rfl (.nil) (fun _ w hw => callq hw (known_spec w))) ?_
          refine sw_step rfl rfl rfl (OpR.q (q_and2 rfl rfl rfl)) ?_
          refine sw_step rfl rfl rfl (OpR.q (q_assign rfl rfl)) ?_
          refine sw_nil ?_
          refine post_then ?_
          refine cw_ret ?_
          refine post_then_r ?_
          refine post_ret1 rfl (resOk_tmp rfl) ?_
          exact fun w' hw => ⟨rfl, (fun w h => Cl.sel (by exact .nil _) w h) _ hw⟩
        · skip
          simp at h
theorem lawBounds_yes (n : Nat) (hn : n ≤ 30) (sv : SlV) (vs : List SlV) (ls : List (List Int)) (sp : SlV) (prices : List Int) (scale : Int) (w : World) (hm : Stb w [] (fun w' => Mt w' sv.v vs ls)) (hp : Stb w [] (RdL sp.v prices)) (hso : setsOk n ls 8 = true) (h8 : ls.length ≤ 8) (hE : covE n ls 1000 = 0) (hP : possN n (msOf ls) = true) (h12 : wid (msOf ls) ≤ 12) :
    Calls Tryz.prog 9 #[.int .i64 n, sv.v, sp.v, .int .i64 scale] w fun e w' => e = .returned (.bool true) ∧ Cl w [] [] w' := by
  have h1 := stb_map hm fun _ h => h.l
  have n1 := hm.here.n
  obtain ⟨q1, q2, q3, q4⟩ := covE_ok hE
  have hmo := msOf_ok q4
  have hml : (msOf ls).length = ls.length := by simp [msOf]
  obtain ⟨c, hc1, hc2, hc3⟩ := least_some (by omega) hP
  have hg : greedyE n ls = 0 := by rw [greedyE_ok hE, hP]; rfl
  refine calls_cw (vs := [_, _, _, _]) Tryz.func9 rfl Tryz.ntmps9 rfl (Cl.start0 w) ?_
  refine cw_seq ?_
  -- region 0
  refine cw_region ?_
  refine sw_step rfl rfl rfl (OpR.q (q_assign rfl rfl)) ?_
  refine sw_nil ?_
  refine post_then ?_
  refine cw_seq ?_
  refine cw_seq ?_
  -- region 1
  refine cw_region ?_
  refine sw_step rfl rfl rfl (OpR.q (q_move rfl rfl)) ?_
  refine sw_step rfl rfl rfl (OpR.q (q_move rfl rfl)) ?_
  refine sw_step rfl rfl rfl (q_call (CanCall.mk Tryz.call33) rfl (.cons rfl inferInstance (.cons rfl inferInstance (.cons rfl inferInstance (.nil)))) (fun _ w hw => callq hw (sets_spec n sv vs ls 8 w (stb_arg hw hm)))) ?_
  refine sw_step rfl rfl rfl (OpR.q (q_not rfl rfl)) ?_
  refine sw_step rfl rfl rfl (OpR.q (q_move rfl rfl)) ?_
  refine sw_step rfl rfl rfl (OpR.q (q_move rfl rfl)) ?_
  refine sw_step rfl rfl rfl (OpR.q (q_len rfl (.cons rfl inferInstance (.nil)) (by exact fun w hw => Stb.cl (by assumption) hw))) ?_
  refine sw_step rfl rfl rfl (OpR.q (q_gtr rfl rfl rfl)) ?_
  refine sw_step rfl rfl rfl (OpR.q (q_or2 rfl rfl rfl)) ?_
  refine sw_step rfl rfl rfl (OpR.q (q_move rfl rfl)) ?_
  refine sw_step rfl rfl rfl (OpR.q (q_move rfl rfl)) ?_
  refine sw_step rfl rfl rfl (OpR.q (q_move rfl rfl)) ?_
  refine sw_step rfl rfl rfl (q_call (CanCall.mk Tryz.call35) rfl (.cons rfl inferInstance (.cons rfl inferInstance (.nil))) (fun _ w hw => callq hw (needed_spec n (.inl (by omega)) sv vs ls (.inl h8) w (stb_arg hw hm)))) ?_
  refine sw_step rfl rfl rfl (OpR.q (q_neq rfl rfl rfl)) ?_
  refine sw_step rfl rfl rfl (OpR.q (q_or2 rfl rfl rfl)) ?_
  refine sw_nil ?_
  refine post_then ?_
  -- STOP at: cond
  refine cw_cond rfl (fun h => ?_) (fun h => ?_)
  · skip
    exfalso
    rw [hso, hg] at h
    simp at h; omega
  · skip
    clear h
    refine cw_skip ?_
    refine post_then ?_
    refine cw_seq ?_
    -- region 3
    refine cw_region ?_
    refine sw_step rfl rfl rfl (OpR.q (q_move rfl rfl)) ?_
    refine sw_step rfl rfl rfl (OpR.q (q_move rfl rfl)) ?_
    -- STOP at: t41  := call {callee=(value F41), args=[t39, t40], argTypes=[3, 31]} :72
    refine sw_x rfl rfl rfl (e_call (CanCall.mk Tryz.call41) rfl (.cons rfl inferInstance (.cons rfl inferInstance (.nil))) (fun w hw => refLeast_spec n hn sv vs ls (by omega) q4 w (stb_arg hw hm))) (fun r => ?_)
    refine sw_imp fun _ => ?_
    rw [hc1]
    refine sw_le (C' := Cl w [] [ownL 3 r.v c]) (fun w' hw => hw) ?_
    refine sw_step rfl rfl rfl (OpR.q (q_move rfl rfl)) ?_
    refine sw_step rfl rfl rfl (OpR.q (q_extract rfl rfl rfl)) ?_
    refine sw_step rfl rfl rfl (OpR.q (q_extract rfl rfl rfl)) ?_
    refine sw_step rfl rfl rfl (OpR.q (q_assign rfl rfl)) ?_
    refine sw_step rfl rfl rfl (OpR.q (q_assign rfl rfl)) ?_
    refine sw_nil ?_
    refine post_then ?_
    refine cw_seq ?_
    refine cw_seq ?_
    -- region 4
    refine cw_region ?_
    refine sw_step rfl rfl rfl (OpR.q (q_move rfl rfl)) ?_
    refine sw_step rfl rfl rfl (OpR.q (q_move rfl rfl)) ?_
    refine sw_step rfl rfl rfl (OpR.q (q_move rfl rfl)) ?_
    refine sw_step rfl rfl rfl (OpR.q (q_move rfl rfl)) ?_
    refine sw_step rfl rfl rfl (q_call (CanCall.mk Tryz.call39) rfl (.cons rfl inferInstance (.cons rfl inferInstance (.cons rfl inferInstance (.cons rfl inferInstance (.nil))))) (fun _ w hw => callq hw (proves_yes n hn sv vs ls sp prices scale w (stb_arg hw hm) (stb_arg hw hp) hE))) ?_
    refine sw_step rfl rfl rfl (OpR.q (q_move rfl rfl)) ?_
    refine sw_step rfl rfl rfl (OpR.q (q_extract rfl rfl rfl)) ?_
    refine sw_step rfl rfl rfl (OpR.q (q_extract rfl rfl rfl)) ?_
    refine sw_step rfl rfl rfl (OpR.q (q_assign rfl rfl)) ?_
    refine sw_step rfl rfl rfl (OpR.q (q_assign rfl rfl)) ?_
    refine sw_nil ?_
    refine post_then ?_
    refine cw_seq ?_
    -- region 5
    refine cw_region ?_
    refine sw_step rfl rfl rfl (OpR.q (q_move rfl rfl)) ?_
    refine sw_step rfl rfl rfl (OpR.q (q_move rfl rfl)) ?_
    refine sw_step rfl rfl rfl (OpR.q (q_move rfl rfl)) ?_
    refine sw_step rfl rfl rfl (OpR.q (q_move rfl rfl)) ?_
    refine sw_step rfl rfl rfl (OpR.q (q_len rfl (.cons rfl inferInstance (.nil)) (by exact fun w hw => rd_own hw (by exact .head _)))) ?_
    refine sw_step rfl rfl rfl (OpR.q (q_gtr rfl rfl rfl)) ?_
    refine sw_step rfl rfl rfl (OpR.q (q_and2 rfl rfl rfl)) ?_
    refine sw_nil ?_
    refine post_then ?_
    -- STOP at: cond
    refine cw_cond rfl (fun h => ?_) (fun h => ?_)
    · skip
      exfalso
      simp only [Bool.and_eq_true, decide_eq_true_eq] at h
      have := (prov_bound h.1 hc2).1
      omega
    · skip
      clear h
      refine cw_skip ?_
      refine post_then ?_
      refine cw_seq ?_
      -- region 7
      refine cw_region ?_
      refine sw_step rfl rfl rfl (OpR.q (q_move rfl rfl)) ?_
      refine sw_step rfl rfl rfl (OpR.q (q_move rfl rfl)) ?_
      -- STOP at: t62  := call {callee=(value F42), args=[t60, t61], argTypes=[3, 31]} :74
      refine sw_x rfl rfl rfl (e_call (CanCall.mk Tryz.call42) rfl (.cons rfl inferInstance (.cons rfl inferInstance (.nil))) (fun w hw => greedy_yes n hn sv vs ls h8 w (stb_arg hw hm) hE hP)) (fun z => ?_)
      refine sw_imp fun hz => ?_
      obtain ⟨sa, ⟨la, ka⟩⟩ := z
      dsimp only at hz ⊢
      have hidx : ∀ i ∈ la, 0 ≤ i ∧ i < ls.length := fun i hi => by
        have := giter_idx hz.ok i (hz.perm.mem_iff.1 hi)
        omega
      have hcov : cvrB n (msOf ls) la = true := cvrB_iff.2 fun x hx => by
        rw [unL_perm hz.perm]
        exact greedy_covers hz.ok x (fr_zero.1 hz.full x (by omega) (by rw [fullN_bit]; simpa using hx))
      have hlen : la.length = ka := by rw [hz.perm.length_eq, giter_out]
      have hkn := giter_bd (by omega) hmo hz.ok
      refine sw_step rfl rfl rfl (OpR.q (q_move rfl rfl)) ?_
      refine sw_step rfl rfl rfl (OpR.q (q_extract rfl rfl rfl)) ?_
      refine sw_step rfl rfl rfl (OpR.q (q_extract rfl rfl rfl)) ?_
      refine sw_step rfl rfl rfl (OpR.q (q_assign rfl rfl)) ?_
      refine sw_step rfl rfl rfl (OpR.q (q_assign rfl rfl)) ?_
      refine sw_nil ?_
      refine post_then ?_
      refine cw_seq ?_
      refine cw_seq ?_
      -- region 8
      refine cw_region ?_
      refine sw_step rfl rfl rfl (OpR.q (q_move rfl rfl)) ?_
      refine sw_step rfl rfl rfl (OpR.q (q_neq rfl rfl rfl)) ?_
      refine sw_step rfl rfl rfl (OpR.q (q_move rfl rfl)) ?_
      refine sw_step rfl rfl rfl (OpR.q (q_move rfl rfl)) ?_
      refine sw_step rfl rfl rfl (OpR.q (q_move rfl rfl)) ?_
      refine sw_step rfl rfl rfl (OpR.q (q_move rfl rfl)) ?_
      refine sw_step rfl rfl rfl (q_call (CanCall.mk Tryz.call43) rfl (.cons rfl inferInstance (.cons rfl inferInstance (.cons rfl inferInstance (.nil)))) (fun _ w hw => callq hw (refCovers_spec n hn sv vs ls q4 sa.v la hidx w (stb_arg hw hm) (stb_own (e := 3) hw (.head _))))) ?_
      refine sw_step rfl rfl rfl (OpR.q (q_not rfl rfl)) ?_
      refine sw_step rfl rfl rfl (OpR.q (q_or2 rfl rfl rfl)) ?_
      refine sw_nil ?_
      refine post_then ?_
      -- STOP at: cond
      refine cw_cond rfl (fun h => ?_) (fun h => ?_)
      · skip
        exfalso
        rw [hcov] at h
        simp at h
      · skip
        clear h
        refine cw_skip ?_
        refine post_then ?_
        refine cw_seq ?_
        -- region 10
        refine cw_region ?_
        refine sw_step rfl rfl rfl (OpR.q (q_move rfl rfl)) ?_
        refine sw_step rfl rfl rfl (OpR.q (q_move rfl rfl)) ?_
        -- STOP at: t77  := call {callee=(value F34), args=[t75, t76], argTypes=[3, 31]} :55
        refine sw_x rfl rfl rfl (e_call (CanCall.mk Tryz.call34) rfl (.cons rfl inferInstance (.cons rfl inferInstance (.nil))) (fun w hw => price_yes n hn sv vs ls w (stb_arg hw hm) hE h8 h12 hP)) (fun z => ?_)
        refine sw_imp fun hzp => ?_
        obtain ⟨sr, ⟨lr, ⟨kr, lq⟩⟩⟩ := z
        dsimp only at hzp ⊢
        obtain ⟨hz1, hz2⟩ := hzp
        obtain rfl := done_one hz.ok hz.full hz2.ok hz2.full
        subst hz1
        have hprov := greedy_prov hn hmo hz.ok
        have hpl : ((giter n (msOf ls) ka).sh.map fun k => 27720 / k).length = n := by simpa using giter_sh n (msOf ls) ka
        have hpos : ∀ k, 0 ≤ nth ((giter n (msOf ls) ka).sh.map fun k => 27720 / k) k ∧ nth ((giter n (msOf ls) ka).sh.map fun k => 27720 / k) k ≤ 27720 := fun k => price_nonneg (giter_nonneg hz.ok) k
        have hsum : sumTo ((giter n (msOf ls) ka).sh.map fun k => 27720 / k) n = 27720 * (ka : Int) := greedy_sum (by omega) hmo h12 hz.ok
        have hb := prov_bound hprov hc2
        generalize hlr : ((giter n (msOf ls) ka).sh.map fun k => 27720 / k) = lr at *
        have hsc := scaleTo_bd (wid (msOf ls))
        have hmul : scaleTo (wid (msOf ls)) * (c.length : Int) ≤ 332640 * 8 := Int.mul_le_mul (by omega) (by omega) (by omega) (by omega)
        have hmul0 : 0 ≤ scaleTo (wid (msOf ls)) * (c.length : Int) := Int.mul_nonneg hsc.1 (by omega)
        refine sw_step rfl rfl rfl (OpR.q (q_move rfl rfl)) ?_
        refine sw_step rfl rfl rfl (OpR.q (q_extract rfl rfl rfl)) ?_
        refine sw_step rfl rfl rfl (OpR.q (q_extract rfl rfl rfl)) ?_
        refine sw_step rfl rfl rfl (OpR.q (q_extract rfl rfl rfl)) ?_
        refine sw_step rfl rfl rfl (OpR.q (q_assign rfl rfl)) ?_
        refine sw_step rfl rfl rfl (OpR.q (q_assign rfl rfl)) ?_
        refine sw_step rfl rfl rfl (OpR.q (q_assign rfl rfl)) ?_
        refine sw_nil ?_
        refine post_then ?_
        refine cw_seq ?_
        refine cw_seq ?_
        -- region 11
        refine cw_region ?_
        refine sw_step rfl rfl rfl (OpR.q (q_move rfl rfl)) ?_
        refine sw_step rfl rfl rfl (OpR.q (q_neq rfl rfl rfl)) ?_
        refine sw_nil ?_
        refine post_then ?_
        -- STOP at: cond
        refine cw_cond rfl (fun h => ?_) (fun h => ?_)
        · skip
          simp at h
        · skip
          clear h
          refine cw_skip ?_
          refine post_then ?_
          refine cw_seq ?_
          -- region 13
          refine cw_region ?_
          refine sw_step rfl rfl rfl (OpR.q (q_assign rfl rfl)) ?_
          refine sw_nil ?_
          refine post_then ?_
          refine cw_seq ?_
          refine cw_seq ?_
          -- region 14
          refine cw_region ?_
          refine sw_step rfl rfl rfl (OpR.q (q_assign rfl rfl)) ?_
          refine sw_nil ?_
          refine post_then ?_
          refine cw_block ?_
          -- STOP at: loop
          refine cw_loop (S := Nat) (fun k => [(0, [], .int .i64 n), (1, [], sv.v), (9, [], r.v), (13, [], sa.v), (15, [], sr.v), (16, [], .int .i64 (scaleTo (wid (msOf ls)))), (18, [], .int .i64 (sumTo lr k)), (19, [], .int .i64 k)]) (fun _ => Cl w [] [ownL 3 sr.v lr, ownL 3 sa.v la, ownL 3 r.v c]) (fun k => k ≤ n) (fun k => n - k) 0 (Nat.zero_le _) (by exact .cons rfl (.cons rfl (.cons rfl (.cons rfl (.cons rfl (.cons rfl (.cons rfl (.cons rfl .nil)))))))) (fun w h => Cl.sel (by exact .take 0 rfl (.take 0 rfl (.take 0 rfl (.nil _)))) w h) ?_
          intro k hk
          have hs1 := sumTo_bd hpos k
          have hs2 := hpos k
          refine cw_seq ?_
          refine cw_seq ?_
          -- region 15
          refine cw_region ?_
          refine sw_step rfl rfl rfl (OpR.q (q_move rfl rfl)) ?_
          refine sw_step rfl rfl rfl (OpR.q (q_move rfl rfl)) ?_
          refine sw_step rfl rfl rfl (OpR.q (q_len rfl (.cons rfl inferInstance (.nil)) (by exact fun w hw => rd_own hw (by exact .head _)))) ?_
          refine sw_step rfl rfl rfl (OpR.q (q_lss rfl rfl rfl)) ?_
          refine sw_nil ?_
          refine post_then ?_
          -- STOP at: cond
          refine cw_cond rfl (fun h => ?_) (fun h => ?_)
          · skip
            have hk' : k < n := by simp only [decide_eq_true_eq] at h; omega
            refine cw_skip ?_
            refine post_then ?_
            refine cw_seq ?_
            refine cw_block ?_
            -- region 17
            refine cw_region ?_
            refine sw_step rfl rfl rfl (OpR.q (q_move rfl rfl)) ?_
            refine sw_step rfl rfl rfl (OpR.q (q_move rfl rfl)) ?_
            refine sw_step rfl rfl rfl (OpR.q (q_move rfl rfl)) ?_
            refine sw_step rfl rfl rfl (OpR.q (q_indexN rfl rfl rfl (by exact fun w hw => rd_own hw (by exact .head _)) (by intro hc; omega))) ?_
            refine sw_step rfl rfl rfl (OpR.q (q_loadEl rfl rfl rfl (by exact fun w hw => rd_own hw (by exact .head _)) (by intro hc; omega))) ?_
            refine sw_step rfl rfl rfl (OpR.q (q_add rfl rfl rfl (by intro hc; omega))) ?_
            refine sw_step rfl rfl rfl (OpR.q (q_assign rfl rfl)) ?_
            refine sw_nil ?_
            refine post_blk ?_
            refine post_then ?_
            -- region 16
            refine cw_region ?_
            refine sw_step rfl rfl rfl (OpR.q (q_move rfl rfl)) ?_
            refine sw_step rfl rfl rfl (OpR.q (q_add rfl rfl rfl (by intro hc; omega))) ?_
            refine sw_step rfl rfl rfl (OpR.q (q_assign rfl rfl)) ?_
            refine sw_nil ?_
            exact post_next (k + 1) (by exact .cons rfl (.cons rfl (.cons rfl (.cons rfl (.cons rfl (.cons rfl (.cons rfl (.cons rfl .nil)))))))) (fun _ h => h) (by simp only [decide_eq_true_eq] at h; omega) (by simp only [decide_eq_true_eq] at h; omega)
          · skip
            have hk' : k = n := by simp only [decide_eq_false_iff_not] at h; omega
            subst hk'
            rw [hsum]
            refine cw_exit ?_
            refine post_then_x ?_
            refine post_then_x ?_
            refine post_blk_eq ?_
            refine post_then ?_
            refine cw_seq ?_
            -- region 18
            refine cw_region ?_
            refine sw_step rfl rfl rfl (OpR.q (q_move rfl rfl)) ?_
            refine sw_step rfl rfl rfl (OpR.q (q_move rfl rfl)) ?_
            refine sw_step rfl rfl rfl (OpR.q (q_move rfl rfl)) ?_
            refine sw_step rfl rfl rfl (OpR.q (q_move rfl rfl)) ?_
            refine sw_step rfl rfl rfl (q_call (CanCall.mk Tryz.call39) rfl (.cons rfl inferInstance (.cons rfl inferInstance (.cons rfl inferInstance (.cons rfl inferInstance (.nil))))) (fun _ w hw => callq hw (proves_yes k hn sv vs ls sr lr (scaleTo (wid (msOf ls))) w (stb_arg hw hm) (stb_own (e := 3) hw (.head _)) hE))) ?_
            refine sw_step rfl rfl rfl (OpR.q (q_move rfl rfl)) ?_
            refine sw_step rfl rfl rfl (OpR.q (q_extract rfl rfl rfl)) ?_
            refine sw_step rfl rfl rfl (OpR.q (q_extract rfl rfl rfl)) ?_
            refine sw_step rfl rfl rfl (OpR.q (q_assign rfl rfl)) ?_
            refine sw_step rfl rfl rfl (OpR.q (q_assign rfl rfl)) ?_
            refine sw_nil ?_
            refine post_then ?_
            refine cw_seq ?_
            -- region 19
            refine cw_region ?_
            refine sw_step rfl rfl rfl (OpR.q (q_move rfl rfl)) ?_
            refine sw_step rfl rfl rfl (OpR.q (q_move rfl rfl)) ?_
            refine sw_step rfl rfl rfl (OpR.q (q_move rfl rfl)) ?_
            refine sw_step rfl rfl rfl (OpR.q (q_move rfl rfl)) ?_
            refine sw_step rfl rfl rfl (OpR.q (q_len rfl (.cons rfl inferInstance (.nil)) (by exact fun w hw => rd_own hw (by exact .tail _ (.head _))))) ?_
            refine sw_step rfl rfl rfl (OpR.q (q_mul rfl rfl rfl (by intro hc; omega))) ?_
            refine sw_step rfl rfl rfl (OpR.q (q_eql rfl rfl rfl)) ?_
            refine sw_step rfl rfl rfl (OpR.q (q_and2 rfl rfl rfl)) ?_
            refine sw_step rfl rfl rfl (OpR.q (q_move rfl rfl)) ?_
            refine sw_step rfl rfl rfl (OpR.q (q_move rfl rfl)) ?_
            refine sw_step rfl rfl rfl (OpR.q (q_move rfl rfl)) ?_
            refine sw_step rfl rfl rfl (OpR.q (q_len rfl (.cons rfl inferInstance (.nil)) (by exact fun w hw => rd_own hw (by exact .tail _ (.tail _ (.head _)))))) ?_
            refine sw_step rfl rfl rfl (OpR.q (q_leq rfl rfl rfl)) ?_
            refine sw_step rfl rfl rfl (OpR.q (q_and2 rfl rfl rfl)) ?_
            refine sw_step rfl rfl rfl (OpR.q (q_move rfl rfl)) ?_
            refine sw_step rfl rfl rfl (OpR.q (q_move rfl rfl)) ?_
            refine sw_step rfl rfl rfl (OpR.q (q_len rfl (.cons rfl inferInstance (.nil)) (by exact fun w hw => rd_own hw (by exact .tail _ (.head _))))) ?_
            refine sw_step rfl rfl rfl (OpR.q (q_mul rfl rfl rfl (by intro hc; omega))) ?_
            refine sw_step rfl rfl rfl (OpR.q (q_move rfl rfl)) ?_
            refine sw_step rfl rfl rfl (OpR.q (q_move rfl rfl)) ?_
            refine sw_step rfl rfl rfl (OpR.q (q_len rfl (.cons rfl inferInstance (.nil)) (by exact fun w hw => rd_own hw (by exact .tail _ (.tail _ (.head _)))))) ?_
            refine sw_step rfl rfl rfl (OpR.q (q_mul rfl rfl rfl (by intro hc; omega))) ?_
            refine sw_step rfl rfl rfl (OpR.q (q_leq rfl rfl rfl)) ?_
            refine sw_step rfl rfl rfl (OpR.q (q_and2 rfl rfl rfl)) ?_
            refine sw_step rfl rfl rfl (OpR.q (q_move rfl rfl)) ?_
            refine sw_step rfl rfl rfl (q_call (CanCall.mk Tryz.call18) rfl (.nil) (fun _ w hw => callq hw (known_spec w))) ?_
            refine sw_step rfl rfl rfl (OpR.q (q_and2 rfl rfl rfl)) ?_
            refine sw_step rfl rfl rfl (OpR.q (q_assign rfl rfl)) ?_
            refine sw_nil ?_
            refine post_then ?_
            refine cw_ret ?_
            refine post_ret1 rfl (resOk_tmp rfl) ?_
            refine fun w' hw => ⟨?_, (fun w h => Cl.sel (by exact .nil _) w h) _ hw⟩
            have e1 : decide (27720 * (ka : Int) = 27720 * (la.length : Int)) = true := by rw [hlen]; simp
            have e2 : decide (provV k (msOf ls) lr (scaleTo (wid (msOf ls))) ≤ (c.length : Int)) = true := by simpa using hb.1
            have e3 : decide (27720 * (la.length : Int) ≤ scaleTo (wid (msOf ls)) * (c.length : Int)) = true := by rw [hlen]; simp; omega
            rw [hprov, e1, e2, e3]; rfl
theorem lawBounds_some (n : Nat) (hn : n ≤ 30) (sv : SlV) (vs : List SlV) (ls : List (List Int)) (sp : SlV) (prices : List Int) (scale : Int) (w : World) (hm : Stb w [] (fun w' => Mt w' sv.v vs ls)) (hp : Stb w [] (RdL sp.v prices)) (hso : setsOk n ls 8 = true) (h8 : ls.length ≤ 8) (hE : covE n ls 1000 = 0) (hP : possN n (msOf ls) = true) :
    Calls Tryz.prog 9 #[.int .i64 n, sv.v, sp.v, .int .i64 scale] w fun e w' => e = .returned (.bool true) ∧ Cl w [] [] w' := by
  by_cases h12 : 12 < wid (msOf ls)
  · exact lawBounds_wide n hn sv vs ls sp prices scale w hm hp hso h8 hE hP h12
  · exact lawBounds_yes n hn sv vs ls sp prices scale w hm hp hso h8 hE hP (by omega)
theorem lawBounds_no (n : Int) (sv : SlV) (vs : List SlV) (ls : List (List Int)) (sp : SlV) (prices : List Int) (scale : Int) (w : World) (hm : Stb w [] (fun w' => Mt w' sv.v vs ls)) (hso : setsOk n ls 8 = true) (h8 : ls.length ≤ 8) (hG : greedyE n ls ≠ 0) :
    Calls Tryz.prog 9 #[.int .i64 n, sv.v, sp.v, .int .i64 scale] w fun e w' => e = .returned (.bool true) ∧ Cl w [] [] w' := by
  have h1 := stb_map hm fun _ h => h.l
  have n1 := hm.here.n
  obtain ⟨k1, k2⟩ := setsOk_of hso
  refine calls_cw (vs := [_, _, _, _]) Tryz.func9 rfl Tryz.ntmps9 rfl (Cl.start0 w) ?_
  refine cw_seq ?_
  -- region 0
  refine cw_region ?_
  refine sw_step rfl rfl rfl (OpR.q (q_assign rfl rfl)) ?_
  refine sw_nil ?_
  refine post_then ?_
  refine cw_seq ?_
  refine cw_seq ?_
  -- region 1
  refine cw_region ?_
  refine sw_step rfl rfl rfl (OpR.q (q_move rfl rfl)) ?_
  refine sw_step rfl rfl rfl (OpR.q (q_move rfl rfl)) ?_
  refine sw_step rfl rfl rfl (q_call (CanCall.mk Tryz.call33) rfl (.cons rfl inferInstance (.cons rfl inferInstance (.cons rfl inferInstance (.nil)))) (fun _ w hw => callq hw (sets_spec n sv vs ls 8 w (stb_arg hw hm)))) ?_
  refine sw_step rfl rfl rfl (OpR.q (q_not rfl rfl)) ?_
  refine sw_step rfl rfl rfl (OpR.q (q_move rfl rfl)) ?_
  refine sw_step rfl rfl rfl (OpR.q (q_move rfl rfl)) ?_
  refine sw_step rfl rfl rfl (OpR.q (q_len rfl (.cons rfl inferInstance (.nil)) (by exact fun w hw => Stb.cl (by assumption) hw))) ?_
  refine sw_step rfl rfl rfl (OpR.q (q_gtr rfl rfl rfl)) ?_
  refine sw_step rfl rfl rfl (OpR.q (q_or2 rfl rfl rfl)) ?_
  refine sw_step rfl rfl rfl (OpR.q (q_move rfl rfl)) ?_
  refine sw_step rfl rfl rfl (OpR.q (q_move rfl rfl)) ?_
  refine sw_step rfl rfl rfl (OpR.q (q_move rfl rfl)) ?_
  refine sw_step rfl rfl rfl (q_call (CanCall.mk Tryz.call35) rfl (.cons rfl inferInstance (.cons rfl inferInstance (.nil))) (fun _ w hw => callq hw (needed_spec n k2 sv vs ls (.inl h8) w (stb_arg hw hm)))) ?_
  refine sw_step rfl rfl rfl (OpR.q (q_neq rfl rfl rfl)) ?_
  refine sw_step rfl rfl rfl (OpR.q (q_or2 rfl rfl rfl)) ?_
  refine sw_nil ?_
  refine post_then ?_
  -- STOP at: cond
  refine cw_cond rfl (fun h => ?_) (fun h => ?_)
  · skip
    refine cw_seq ?_
    -- region 2
    refine cw_region ?_
    refine sw_step rfl rfl rfl (q_call (CanCall.mk Tryz.call18) rfl (.nil) (fun _ w hw => callq hw (known_spec w))) ?_
    refine sw_step rfl rfl rfl (OpR.q (q_assign rfl rfl)) ?_
    refine sw_nil ?_
    refine post_then ?_
    refine cw_ret ?_
    refine post_then_r ?_
    refine post_ret1 rfl (resOk_tmp rfl) ?_
    exact fun w' hw => ⟨rfl, hw⟩
  · skip
    exfalso
    rw [hso] at h
    simp at h
    exact hG h.2
theorem lawBounds (n : Int) (sv : SlV) (vs : List SlV) (ls : List (List Int)) (sp : SlV) (prices : List Int) (scale : Int) (w : World) (hm : Stb w [] (fun w' => Mt w' sv.v vs ls)) (hp : Stb w [] (RdL sp.v prices)) :
    Calls Tryz.prog 9 #[.int .i64 n, sv.v, sp.v, .int .i64 scale] w fun e w' => e = .returned (.bool true) ∧ Cl w [] [] w' := by
  by_cases hso : setsOk n ls 8 = true ∧ ls.length ≤ 8
  · by_cases hG : greedyE n ls = 0
    · by_cases hE : covE n ls 1000 = 0
      · obtain ⟨m, rfl⟩ : ∃ m : Nat, n = m := ⟨n.toNat, by have := (covE_ok hE).2.2.1; omega⟩
        have hP : possN m (msOf ls) = true := by
          rw [greedyE_ok hE] at hG
          cases h : possN m (msOf ls)
          · rw [h] at hG; cases hG
          · rfl
        have hn : m ≤ 30 := by have := (setsOk_of hso.1).2; have := (covE_ok hE).1; omega
        exact lawBounds_some m hn sv vs ls sp prices scale w hm hp hso.1 hso.2 hE hP
      · rw [(greedyE_bad hE).1] at hG; exact absurd hG hE
    · exact lawBounds_no n sv vs ls sp prices scale w hm hso.1 hso.2 hG
  · exact lawBounds_out n sv vs ls sp prices scale w hm hso
end Go.Proofs.YtomjbfeafodfbaaGreat

/-
  What came in, opened by its type: cells and what they read as, whatever the shape. General lemmas, no program text.
-/
set_option autoImplicit false
set_option linter.unusedSimpArgs false
set_option linter.unusedVariables false
set_option linter.unusedSectionVars false
namespace Go.Sx
open Go.ChangeShapes Go.WideShapes Go.ChangeAt Go.RowKit Go.WideElems

/-- A value of type t that came in: its cells are those of some x; it reads as some y. -/
class Deep (P : Program) (t : TypeId) (α β : outParam Type) [Enc α] where
  rd : α → β → World → Prop
  keep : ∀ {a : α} {b : β} {w w' : World}, rd a b w → Chg [] w w' → rd a b w'
  opens : ∀ {H : Type} {enc : TypeId × Value → H} {w : World} {sp : Nat → Bool} {fuel : Nat} {cs : List Value} {x : DataW H × List MemPlace}, DataW.trod enc P w 0 sp true fuel t cs = some x → ∃ a b, cs = Enc.enc a ∧ rd a b w
  vals : ∀ {w : World} {r : Reach} {b0 : Nat} {v : Value} {a : α}, Value.okWide P w r b0 t v → v.cells = (Enc.enc a).toArray → v = Enc.val a

theorem open_deep {P : Program} {t : TypeId} {α β : Type} [Enc α] [hD : Deep P t α β] {H : Type} {enc : TypeId × Value → H} {W : World} {r : Reach} {b0 : Nat} {v : Value} {d : DataW H} {ps : List MemPlace}
    (hval : Value.okWide P W r b0 t v) (hd : DataW.Trod enc P W 0 (fun _ => true) true t v d ps) : ∃ (a : α) (b : β), v = Enc.val a ∧ Stb W [] (hD.rd a b) := by
  obtain ⟨fuel, hf⟩ := hd
  obtain ⟨a, b, hc, hr⟩ := hD.opens hf
  exact ⟨a, b, hD.vals hval (by rw [← hc]), ⟨fun w' k => hD.keep hr k⟩⟩

/-- int -/
@[reducible] def deepInt {P : Program} {t : TypeId} (ht : P.underlying t = some (.int .i64)) : Deep P t Int Int where
  rd a b _ := a = b ∧ -9223372036854775808 ≤ b ∧ b ≤ 9223372036854775807
  keep h _ := h
  opens h := by
    obtain ⟨n, h1, _, hw⟩ := DataW.trod_int ht h
    refine ⟨n, n, h1, rfl, ?_⟩
    have e1 : IntKind.i64.min = -9223372036854775808 := by decide
    have e2 : IntKind.i64.max = 9223372036854775807 := by decide
    simp [Lit.wf, e1, e2] at hw
    omega
  vals hv hc := by
    obtain ⟨n, rfl⟩ := okWide_int ht hv
    simpa [Value.cells, Enc.enc, Enc.val] using hc
@[reducible] def deepBool {P : Program} {t : TypeId} (ht : P.underlying t = some .bool) : Deep P t Bool Bool where
  rd a b _ := a = b
  keep h _ := h
  opens h := by
    obtain ⟨n, h1, _⟩ := DataW.trod_bool ht h
    exact ⟨n, n, h1, rfl⟩
  vals hv hc := by
    obtain ⟨n, rfl⟩ := okWide_bool ht hv
    simpa [Value.cells, Enc.enc, Enc.val] using hc
@[reducible] def deepString {P : Program} {t : TypeId} (ht : P.underlying t = some .string) : Deep P t ByteArray ByteArray where
  rd a b _ := a = b ∧ b.size ≤ maxLen
  keep h _ := h
  opens h := by
    obtain ⟨n, h1, _, hw⟩ := DataW.trod_string ht h
    exact ⟨n, n, h1, rfl, hw⟩
  vals hv hc := by
    obtain ⟨n, rfl⟩ := okWide_string ht hv
    simpa [Value.cells, Enc.enc, Enc.val] using hc

/-- Slices. -/
def rdSl {α β : Type} [Enc α] (rd : α → β → World → Prop) (s : SlV) (l : List β) (w : World) : Prop :=
  ∃ ls : List α, RdL s.v ls w ∧ ls.length = l.length ∧ ∀ (i : Nat) (a : α) (b : β), ls[i]? = some a → l[i]? = some b → rd a b w
theorem rdSl_flat {α : Type} [Enc α] {rd : α → α → World → Prop} (hf : ∀ a b w, rd a b w → a = b) {s : SlV} {l : List α} {w : World} (h : rdSl rd s l w) : RdL s.v l w := by
  obtain ⟨ls, h1, h2, h3⟩ := h
  have : ls = l := by
    refine List.ext_getElem h2 fun i hi hj => ?_
    exact hf _ _ _ (h3 i _ _ (List.getElem?_eq_getElem hi) (List.getElem?_eq_getElem hj))
  rw [← this]; exact h1
theorem stb_flat {α : Type} [Enc α] {rd : α → α → World → Prop} (hf : ∀ a b w, rd a b w → a = b) {s : SlV} {l : List α} {w : World} {fp : List Nat} (h : Stb w fp (rdSl rd s l)) : Stb w fp (RdL s.v l) := ⟨fun w' k => rdSl_flat hf (h.stb w' k)⟩
theorem rdSl_mem {α β : Type} [Enc α] {rd : α → β → World → Prop} {p : β → Prop} (hf : ∀ a b w, rd a b w → p b) {s : SlV} {l : List β} {w : World} (h : rdSl rd s l w) : ∀ b ∈ l, p b := by
  obtain ⟨ls, h1, h2, h3⟩ := h
  intro b hb
  obtain ⟨i, hi, rfl⟩ := List.getElem_of_mem hb
  exact hf _ _ _ (h3 i _ _ (List.getElem?_eq_getElem (by omega)) (List.getElem?_eq_getElem hi))

theorem pick {α : Type} {n : Nat} {p : Nat → α → Prop} (h : ∀ i, i < n → ∃ a, p i a) : ∃ l : List α, l.length = n ∧ ∀ i a, l[i]? = some a → p i a := by
  induction n with
  | zero => exact ⟨[], rfl, fun i a h => by simp at h⟩
  | succ n ih =>
    obtain ⟨l, hl, hp⟩ := ih fun i hi => h i (by omega)
    obtain ⟨a, ha⟩ := h n (by omega)
    refine ⟨l ++ [a], by simp [hl], fun i b hb => ?_⟩
    by_cases hi : i < n
    · rw [List.getElem?_append_left (by omega)] at hb; exact hp i b hb
    · by_cases hi' : i = n
      · subst hi'
        rw [List.getElem?_append_right (by omega), hl] at hb
        simp at hb; subst hb; exact ha
      · rw [List.getElem?_eq_none (by simp; omega)] at hb; cases hb
/-- A row of cells as the memory holds it. -/
theorem cells_at {w : World} {base : Nat} {a : Addr} {n : Nat} {cs : List Value} (h : w.cells? base a n = some cs) : cs.length = n ∧ ∀ j v, cs[j]? = some v → w.cell? (a.add j) = some v := by
  unfold World.cells? at h
  split at h
  · have hl := mapM_some_length h
    rw [List.length_range] at hl
    refine ⟨hl, fun j v hj => ?_⟩
    have hlt := (List.getElem?_eq_some_iff.1 hj).1
    have := mapM_some_get h j j (List.getElem?_range (by omega))
    rw [this, hj]
  · cases h
@[reducible] def deepSlice {P : Program} {t e : TypeId} {α β : Type} [Enc α] (ht : P.underlying t = some (.slice e)) (hc : P.cellsOf e = Enc.sz α) [hD : Deep P e α β] : Deep P t SlV (List β) where
  rd := rdSl hD.rd
  keep := fun ⟨ls, h1, h2, h3⟩ k => ⟨ls, (rd_stb h1).stb _ k, h2, fun i a b ha hb => hD.keep (h3 i a b ha hb) k⟩
  opens {H enc w sp fuel cs x} h := by
    rcases DataW.trod_slice ht h with ⟨rfl, _⟩ | ⟨a, len, cap, elems, rest, n, _, rfl, _, _, hl, hm, hlen, hel, _, _⟩
    · exact ⟨⟨none, 0, 0⟩, [], rfl, [], ⟨none, 0, 0, rfl, rfl, Nat.le_refl _, by simp [maxLen], fun i x j v hx => by simp at hx⟩, rfl, fun i a b h => by simp at h⟩
    · have key : ∀ i, i < len → ∃ y : α × β, (∀ j v, (Enc.enc y.1)[j]? = some v → w.cell? ((a.add (i * Enc.sz α)).add j) = some v) ∧ hD.rd y.1 y.2 w := by
        intro i hi
        have h1 := hel i hi
        rw [hc] at h1
        have h2 : ∃ z, elems[i]? = some z := ⟨_, List.getElem?_eq_getElem (by omega)⟩
        obtain ⟨z, hz⟩ := h2
        rw [hz, Option.bind_eq_some_iff] at h1
        obtain ⟨cs', hcs, hy⟩ := h1
        obtain ⟨x, y, hx, hr⟩ := hD.opens hy
        refine ⟨(x, y), fun j v hj => ?_, hr⟩
        rw [← hx] at hj
        exact (cells_at hcs).2 j v hj
      obtain ⟨l, hl2, hp⟩ := pick key
      refine ⟨⟨some a, len, cap⟩, l.map (·.2), rfl, l.map (·.1), ⟨some a, len, cap, rfl, by simpa using hl2, hl, hm, fun i x j v hx hv => ⟨a, rfl, ?_⟩⟩, by simp, fun i x y hx hy => ?_⟩
      · rw [List.getElem?_map, Option.map_eq_some_iff] at hx
        obtain ⟨z, hz, rfl⟩ := hx
        have := (hp i z hz).1 j v hv
        rw [addr_add_assoc] at this
        exact this
      · rw [List.getElem?_map, Option.map_eq_some_iff] at hx hy
        obtain ⟨z, hz, rfl⟩ := hx
        obtain ⟨z', hz', rfl⟩ := hy
        rw [hz] at hz'; cases hz'
        exact (hp i z hz).2
  vals hv hc' := by
    obtain ⟨a0, len, cap, rfl⟩ := okWide_slice ht hv
    rename_i a
    simpa [Value.cells, Enc.enc, Enc.val] using hc'

/-- A field of a struct. -/
theorem trod_fld {P : Program} {t : TypeId} {fs : Array Field} {H : Type} {enc : TypeId × Value → H} {w : World} {sp : Nat → Bool} {fuel : Nat} {cs : List Value} {x : DataW H × List MemPlace} (ht : P.underlying t = some (.struct fs))
    (h : DataW.trod enc P w 0 sp true fuel t cs = some x) (i : Nat) {f : Field} (hf : fs[i]? = some f) {ty off c : Nat} (e1 : f.type = ty) (e2 : f.offset = off) (e3 : P.cellsOf ty = c) : ∃ n y, DataW.trod enc P w 0 sp true n ty ((cs.drop off).take c) = some y := by
  subst e1 e2 e3
  obtain ⟨xs, n, _, _, _, hl, hx⟩ := DataW.trod_struct ht h
  have := hx i f hf
  have hi := (Array.getElem?_eq_some_iff.1 hf).1
  rw [List.getElem?_eq_getElem (by omega)] at this
  exact ⟨n, _, this⟩
theorem trod_len {P : Program} {t : TypeId} {fs : Array Field} {H : Type} {enc : TypeId × Value → H} {w : World} {sp : Nat → Bool} {fuel : Nat} {cs : List Value} {x : DataW H × List MemPlace} (ht : P.underlying t = some (.struct fs))
    (h : DataW.trod enc P w 0 sp true fuel t cs = some x) : cs.length = P.cellsOf t := by
  obtain ⟨xs, n, _, _, h1, _⟩ := DataW.trod_struct ht h
  exact h1
theorem vals_struct {P : Program} {t : TypeId} {fs : Array Field} {α : Type} [Enc α] (ht : P.underlying t = some (.struct fs)) (hv : ∀ a : α, Enc.val a = .agg (Enc.enc a).toArray) {w : World} {r : Reach} {b0 : Nat} {v : Value} {a : α} (hok : Value.okWide P w r b0 t v) (hc : v.cells = (Enc.enc a).toArray) : v = Enc.val a := by
  obtain ⟨cs, rfl, _⟩ := okWide_struct ht hok
  rw [hv]
  simp [Value.cells] at hc
  rw [hc]
end Go.Sx

set_option autoImplicit false
set_option linter.unusedSimpArgs false
set_option linter.unusedVariables false
set_option maxRecDepth 100000
namespace Go.Proofs.YtomjbfeafodfbaaGreat
open Go.Sx

/-! ### what comes in -/
instance : Deep Tryz.prog 3 Int Int := deepInt Tryz.underlying3
instance : Deep Tryz.prog 9 ByteArray ByteArray := deepString Tryz.underlying9
theorem cells3 : Tryz.prog.cellsOf 3 = 1 := by kernel_rfl
theorem cells9 : Tryz.prog.cellsOf 9 = 1 := by kernel_rfl
theorem cells28 : Tryz.prog.cellsOf 28 = 1 := by kernel_rfl
instance dL : Deep Tryz.prog 28 SlV (List Int) := deepSlice Tryz.underlying28 (by kernel_rfl)
instance : Deep Tryz.prog 31 SlV (List (List Int)) := deepSlice Tryz.underlying31 (by kernel_rfl)
theorem mt_of {w : World} {s : SlV} {l : List (List Int)} {rd : Int → Int → World → Prop} (hf : ∀ a b w, rd a b w → a = b) (h : Stb w [] (rdSl (rdSl rd) s l)) : ∃ vs, Stb w [] (fun w' => Mt w' s.v vs l) := by
  obtain ⟨vs, h1, h2, h3⟩ := h.here
  have hm : Mt w s.v vs l := ⟨h1, h2, fun i hi => rdSl_flat hf (h3 i _ _ (nth_some (by omega)) (nth_some hi))⟩
  exact ⟨vs, hm.stb⟩
structure UnIn (u : Un) (w : World) : Prop where
  s1 : u.phone.size ≤ maxLen
  s2 : u.before.size ≤ maxLen
  s3 : u.after.size ≤ maxLen
  b : RdL u.bs.v u.bl w
  e : RdL u.es.v u.el w
instance dUn : Deep Tryz.prog 49 Un Un where
  rd a b w := a = b ∧ UnIn b w
  keep := fun ⟨h1, h2⟩ k => ⟨h1, h2.s1, h2.s2, h2.s3, (rd_stb h2.b).stb _ k, (rd_stb h2.e).stb _ k⟩
  opens {H enc w sp fuel cs x} h := by
    have hl := trod_len Tryz.underlying49 h
    obtain ⟨_, _, h0⟩ := trod_fld Tryz.underlying49 h 0 rfl rfl rfl cells9
    obtain ⟨_, _, h1⟩ := trod_fld Tryz.underlying49 h 1 rfl rfl rfl cells9
    obtain ⟨_, _, h2⟩ := trod_fld Tryz.underlying49 h 2 rfl rfl rfl cells9
    obtain ⟨_, _, h3⟩ := trod_fld Tryz.underlying49 h 3 rfl rfl rfl cells3
    obtain ⟨_, _, h4⟩ := trod_fld Tryz.underlying49 h 4 rfl rfl rfl cells3
    obtain ⟨_, _, h5⟩ := trod_fld Tryz.underlying49 h 5 rfl rfl rfl cells3
    obtain ⟨_, _, h6⟩ := trod_fld Tryz.underlying49 h 6 rfl rfl rfl cells3
    obtain ⟨_, _, h7⟩ := trod_fld Tryz.underlying49 h 7 rfl rfl rfl cells3
    obtain ⟨_, _, h8⟩ := trod_fld Tryz.underlying49 h 8 rfl rfl rfl cells28
    obtain ⟨_, _, h9⟩ := trod_fld Tryz.underlying49 h 9 rfl rfl rfl cells28
    obtain ⟨x0, _, e0, rfl, z0⟩ := (deepString Tryz.underlying9).opens h0
    obtain ⟨x1, _, e1, rfl, z1⟩ := (deepString Tryz.underlying9).opens h1
    obtain ⟨x2, _, e2, rfl, z2⟩ := (deepString Tryz.underlying9).opens h2
    obtain ⟨x3, _, e3, _⟩ := (deepInt Tryz.underlying3).opens h3
    obtain ⟨x4, _, e4, _⟩ := (deepInt Tryz.underlying3).opens h4
    obtain ⟨x5, _, e5, _⟩ := (deepInt Tryz.underlying3).opens h5
    obtain ⟨x6, _, e6, _⟩ := (deepInt Tryz.underlying3).opens h6
    obtain ⟨x7, _, e7, _⟩ := (deepInt Tryz.underlying3).opens h7
    obtain ⟨x8, l8, e8, r8⟩ := dL.opens h8
    obtain ⟨x9, l9, e9, r9⟩ := dL.opens h9
    rw [show Tryz.prog.cellsOf 49 = 10 by kernel_rfl] at hl
    match cs, hl with
    | [c0, c1, c2, c3, c4, c5, c6, c7, c8, c9], _ =>
    simp [Enc.enc] at e0 e1 e2 e3 e4 e5 e6 e7 e8 e9
    subst e0 e1 e2 e3 e4 e5 e6 e7 e8 e9
    exact ⟨⟨x0, x1, x2, x3, x4, x5, x6, x7, x8, x9, l8, l9⟩, _, rfl, rfl, z0, z1, z2, rdSl_flat (fun a b w h => h.1) r8, rdSl_flat (fun a b w h => h.1) r9⟩
  vals := vals_struct Tryz.underlying49 fun _ => rfl
structure WaIn (t : Wan) : Prop where
  s1 : t.phone.size ≤ maxLen
  s2 : t.before.size ≤ maxLen
  s3 : t.after.size ≤ maxLen
instance dWan : Deep Tryz.prog 51 Wan Wan where
  rd a b _ := a = b ∧ WaIn b
  keep h _ := h
  opens {H enc w sp fuel cs x} h := by
    have hl := trod_len Tryz.underlying51 h
    obtain ⟨_, _, h0⟩ := trod_fld Tryz.underlying51 h 0 rfl rfl rfl cells9
    obtain ⟨_, _, h1⟩ := trod_fld Tryz.underlying51 h 1 rfl rfl rfl cells9
    obtain ⟨_, _, h2⟩ := trod_fld Tryz.underlying51 h 2 rfl rfl rfl cells9
    obtain ⟨_, _, h3⟩ := trod_fld Tryz.underlying51 h 3 rfl rfl rfl cells3
    obtain ⟨_, _, h4⟩ := trod_fld Tryz.underlying51 h 4 rfl rfl rfl cells3
    obtain ⟨x0, _, e0, rfl, z0⟩ := (deepString Tryz.underlying9).opens h0
    obtain ⟨x1, _, e1, rfl, z1⟩ := (deepString Tryz.underlying9).opens h1
    obtain ⟨x2, _, e2, rfl, z2⟩ := (deepString Tryz.underlying9).opens h2
    obtain ⟨x3, _, e3, _⟩ := (deepInt Tryz.underlying3).opens h3
    obtain ⟨x4, _, e4, _⟩ := (deepInt Tryz.underlying3).opens h4
    rw [show Tryz.prog.cellsOf 51 = 5 by kernel_rfl] at hl
    match cs, hl with
    | [c0, c1, c2, c3, c4], _ =>
    simp [Enc.enc] at e0 e1 e2 e3 e4
    subst e0 e1 e2 e3 e4
    exact ⟨⟨x0, x1, x2, x3, x4⟩, _, rfl, rfl, z0, z1, z2⟩
  vals := vals_struct Tryz.underlying51 fun _ => rfl
instance dWts : Deep Tryz.prog 25 Wts Wts where
  rd a b _ := a = b
  keep h _ := h
  opens {H enc w sp fuel cs x} h := by
    have hl := trod_len Tryz.underlying25 h
    obtain ⟨_, _, h0⟩ := trod_fld Tryz.underlying25 h 0 rfl rfl rfl cells3
    obtain ⟨_, _, h1⟩ := trod_fld Tryz.underlying25 h 1 rfl rfl rfl cells3
    obtain ⟨_, _, h2⟩ := trod_fld Tryz.underlying25 h 2 rfl rfl rfl cells3
    obtain ⟨_, _, h3⟩ := trod_fld Tryz.underlying25 h 3 rfl rfl rfl cells3
    obtain ⟨x0, _, e0, _⟩ := (deepInt Tryz.underlying3).opens h0
    obtain ⟨x1, _, e1, _⟩ := (deepInt Tryz.underlying3).opens h1
    obtain ⟨x2, _, e2, _⟩ := (deepInt Tryz.underlying3).opens h2
    obtain ⟨x3, _, e3, _⟩ := (deepInt Tryz.underlying3).opens h3
    rw [show Tryz.prog.cellsOf 25 = 4 by kernel_rfl] at hl
    match cs, hl with
    | [c0, c1, c2, c3], _ =>
    simp [Enc.enc] at e0 e1 e2 e3
    subst e0 e1 e2 e3
    exact ⟨⟨x0, x1, x2, x3⟩, _, rfl, rfl⟩
  vals := vals_struct Tryz.underlying25 fun _ => rfl
instance : Deep Tryz.prog 22 SlV (List Un) := deepSlice Tryz.underlying22 (by kernel_rfl)
instance : Deep Tryz.prog 23 SlV (List Wan) := deepSlice Tryz.underlying23 (by kernel_rfl)
/-- A unit, units, targets that came in. -/
theorem un_in {w : World} {u : Un} (h : UnIn u w) : ∃ x : Unit, Stb w [] (fun w' => UnIn u w') := ⟨(), ⟨fun w' k => ⟨h.s1, h.s2, h.s3, (rd_stb h.b).stb w' k, (rd_stb h.e).stb w' k⟩⟩⟩
end Go.Proofs.YtomjbfeafodfbaaGreat
