import Derived.Test.YtomjbfeafodfbaaGreatWCosts5

set_option autoImplicit false
set_option linter.unusedSimpArgs false
set_option linter.unusedVariables false
set_option maxRecDepth 100000
namespace Go.Proofs.YtomjbfeafodfbaaGreat
open Go.Sx
open Enc (enc val)
theorem prov_bound {n : Nat} {ms : List Nat} {prices : List Int} {scale : Int} (h : provB n ms prices scale = true) {c : List Int} (hc : Cvr n ms c) : provV n ms prices scale ≤ c.length ∧ sumTo prices n ≤ scale * c.length := by
  have h0 := h
  rw [provB, Bool.and_eq_true] at h
  obtain ⟨h1, h2⟩ := h
  simp only [prcB, Bool.and_eq_true, inB, decide_eq_true_eq] at h1
  obtain ⟨⟨h3, h4⟩, h5⟩ := h1
  have hp : ∀ k, 0 ≤ nth prices k := fun k => (nth_bd (lo := 0) (hi := 1000000000) (by omega) (fun v hv => by have := List.all_eq_true.1 h5 v hv; simpa using this) k).1
  have hs : ∀ i, i < ms.length → psum prices (nth ms i) n ≤ scale := fun i hi => by
    have := List.all_eq_true.1 h2 _ (nth_mem hi)
    simpa using this
  have hb := cover_bound hp (by omega) hs hc
  refine ⟨?_, hb⟩
  rw [provV, h0, if_pos rfl]
  exact ceil_le (by omega) hb
theorem greedy_prov {n : Nat} {ms : List Nat} (hn : n ≤ 30) (hm : MsOk n ms) {k : Nat} (hk : GOk n ms k) : provB n ms ((giter n ms k).sh.map fun k => 27720 / k) (scaleTo (wid ms)) = true := by
  have hl := giter_sh n ms k
  have hw := widTo_bd ms ms.length
  have hw2 : 1 ≤ wid ms ∧ wid ms ≤ 32 := hw
  have hs := scaleTo_bd (wid ms)
  have hs1 : 27720 ≤ scaleTo (wid ms) := by
    have := scaleTo_mono hw2.1
    have e : scaleTo 1 = 27720 := by decide
    omega
  rw [provB, Bool.and_eq_true]
  constructor
  · simp only [prcB, Bool.and_eq_true, inB, decide_eq_true_eq]
    refine ⟨⟨by simpa using hl, by omega, by omega⟩, List.all_eq_true.2 fun v hv => ?_⟩
    obtain ⟨j, hj, rfl⟩ := List.getElem_of_mem hv
    have h1 := price_nonneg (giter_nonneg hk) j
    have e : nth (prcL (giter n ms k).sh) j = nth ((giter n ms k).sh.map fun k => 27720 / k) j := rfl
    rw [e, nth_get hj] at h1
    simp only [Bool.and_eq_true, decide_eq_true_eq]; omega
  · refine List.all_eq_true.2 fun m hmm => ?_
    obtain ⟨j, hj, rfl⟩ := List.getElem_of_mem hmm
    have := greedy_proves (by omega) hm hk hj
    rw [nth_get hj] at this
    simp only [decide_eq_true_eq]; exact this
theorem lawBounds_out (n : Int) (sv : SlV) (vs : List SlV) (ls : List (List Int)) (sp : SlV) (prices : List Int) (scale : Int) (w : World) (hm : Stb w [] (fun w' => Mt w' sv.v vs ls)) (hout : ¬ (setsOk n ls 8 = true ∧ ls.length ≤ 8)) :
    Calls Tryz.prog 9 #[.int .i64 n, sv.v, sp.v, .int .i64 scale] w fun e w' => e = .returned (.bool true) ∧ Cl w [] [] w' := by
  have h1 := stb_map hm fun _ h => h.l
  have n1 := hm.here.n
  refine calls_cw (vs := [_, _, _, _]) Tryz.func9 rfl Tryz.ntmps9 rfl (Cl.start0 w) (cw_seq (cw_region (sr rfl rfl rfl ((q_assign rfl rfl)) (sw_nil (post_then (cw_seq (cw_seq (cw_region (sr rfl rfl rfl ((q_move rfl rfl)) (sr rfl rfl rfl ((q_move rfl rfl)) (sw_step rfl rfl rfl (q_call (CanCall.mk Tryz.call33) rfl (.cons rfl inferInstance (.cons rfl inferInstance (.cons rfl inferInstance (.nil)))) (fun _ w hw => callq hw (sets_spec n sv vs ls 8 w (stb_arg hw hm)))) (sr rfl rfl rfl ((q_not rfl rfl)) (sr rfl rfl rfl ((q_move rfl rfl)) (sr rfl rfl rfl ((q_move rfl rfl)) ?_))))))))))))))
  refine sr rfl rfl rfl ((q_len rfl (.cons rfl inferInstance (.nil)) (by exact fun w hw => Stb.cl (by assumption) hw))) ?_
  refine sr rfl rfl rfl ((q_gtr rfl rfl rfl)) (sr rfl rfl rfl ((q_or2 rfl rfl rfl)) (sr rfl rfl rfl ((q_move rfl rfl)) (sr rfl rfl rfl ((q_move rfl rfl)) (sr rfl rfl rfl ((q_move rfl rfl)) ?_))))
  have hg : (!setsOk n ls 8 || decide (8 < (vs.length : Int))) = true := by
    rw [n1]
    cases h2 : setsOk n ls 8
    · rfl
    · have : ¬ ls.length ≤ 8 := fun h => hout ⟨h2, h⟩
      simp; omega
  rw [hg]
  refine sr rfl rfl rfl ((q_off (v := .int .i64 0) (by simp [AllT]))) ?_
  refine sr rfl rfl rfl ((q_neq rfl rfl rfl)) (sr rfl rfl rfl ((q_or2 rfl rfl rfl)) (sw_nil (post_then ?_)))
  refine cw_cond rfl (fun h => ?_) (fun h => ?_)
  · skip
    refine cw_seq (cw_region (sw_step rfl rfl rfl (q_call (CanCall.mk Tryz.call18) rfl (.nil) (fun _ w hw => callq hw (known_spec w))) (sr rfl rfl rfl ((q_assign rfl rfl)) (sw_nil (post_then (cw_ret (post_then_r (post_ret1 rfl (resOk_tmp rfl) ?_))))))))
    exact fun w' hw => ⟨rfl, hw⟩
  · skip
    simp at h
theorem lawBounds_wide (n : Nat) (hn : n ≤ 30) (sv : SlV) (vs : List SlV) (ls : List (List Int)) (sp : SlV) (prices : List Int) (scale : Int) (w : World) (hm : Stb w [] (fun w' => Mt w' sv.v vs ls)) (hp : Stb w [] (RdL sp.v prices)) (hso : setsOk n ls 8 = true) (h8 : ls.length ≤ 8) (hE : covE n ls 1000 = 0) (hP : possN n (msOf ls) = true) (h12 : 12 < wid (msOf ls)) :
    Calls Tryz.prog 9 #[.int .i64 n, sv.v, sp.v, .int .i64 scale] w fun e w' => e = .returned (.bool true) ∧ Cl w [] [] w' := by
  have h1 := stb_map hm fun _ h => h.l
  have n1 := hm.here.n
  obtain ⟨q1, q2, q3, q4⟩ := covE_ok hE
  have hmo := msOf_ok q4
  have hml : (msOf ls).length = ls.length := by simp [msOf]
  obtain ⟨c, hc1, hc2, hc3⟩ := least_some (by omega) hP
  have hg : greedyE n ls = 0 := by rw [greedyE_ok hE, hP]; rfl
  refine calls_cw (vs := [_, _, _, _]) Tryz.func9 rfl Tryz.ntmps9 rfl (Cl.start0 w) (cw_seq (cw_region (sr rfl rfl rfl ((q_assign rfl rfl)) (sw_nil (post_then (cw_seq (cw_seq (cw_region (sr rfl rfl rfl ((q_move rfl rfl)) (sr rfl rfl rfl ((q_move rfl rfl)) (sw_step rfl rfl rfl (q_call (CanCall.mk Tryz.call33) rfl (.cons rfl inferInstance (.cons rfl inferInstance (.cons rfl inferInstance (.nil)))) (fun _ w hw => callq hw (sets_spec n sv vs ls 8 w (stb_arg hw hm)))) (sr rfl rfl rfl ((q_not rfl rfl)) (sr rfl rfl rfl ((q_move rfl rfl)) (sr rfl rfl rfl ((q_move rfl rfl)) ?_))))))))))))))
  refine sr rfl rfl rfl ((q_len rfl (.cons rfl inferInstance (.nil)) (by exact fun w hw => Stb.cl (by assumption) hw))) ?_
  refine sr rfl rfl rfl ((q_gtr rfl rfl rfl)) (sr rfl rfl rfl ((q_or2 rfl rfl rfl)) (sr rfl rfl rfl ((q_move rfl rfl)) (sr rfl rfl rfl ((q_move rfl rfl)) (sr rfl rfl rfl ((q_move rfl rfl)) ?_))))
  refine sw_step rfl rfl rfl (q_call (CanCall.mk Tryz.call35) rfl (.cons rfl inferInstance (.cons rfl inferInstance (.nil))) (fun _ w hw => callq hw (needed_spec n (.inl (by omega)) sv vs ls (.inl h8) w (stb_arg hw hm)))) ?_
  refine sr rfl rfl rfl ((q_neq rfl rfl rfl)) (sr rfl rfl rfl ((q_or2 rfl rfl rfl)) (sw_nil (post_then ?_)))
  refine cw_cond rfl (fun h => ?_) (fun h => ?_)
  · skip
    exfalso
    rw [hso, hg] at h
    simp at h; omega
  · skip
    clear h
    refine cw_skip (post_then (cw_seq (cw_region (sr rfl rfl rfl ((q_move rfl rfl)) (sr rfl rfl rfl ((q_move rfl rfl)) ?_)))))
    refine sw_x rfl rfl rfl (e_call (CanCall.mk Tryz.call41) rfl (.cons rfl inferInstance (.cons rfl inferInstance (.nil))) (fun w hw => refLeast_spec n hn sv vs ls (by omega) q4 w (stb_arg hw hm))) (fun r => ?_)
    refine sw_imp fun _ => ?_
    rw [hc1]
    refine sw_le (C' := Cl w [] [ownL 3 r.v c]) (fun w' hw => hw) (sr rfl rfl rfl ((q_move rfl rfl)) (sr rfl rfl rfl ((q_extract rfl rfl rfl)) (sr rfl rfl rfl ((q_extract rfl rfl rfl)) (sr rfl rfl rfl ((q_assign rfl rfl)) (sr rfl rfl rfl ((q_assign rfl rfl)) (sw_nil (post_then (cw_seq (cw_seq (cw_region (sr rfl rfl rfl ((q_move rfl rfl)) (sr rfl rfl rfl ((q_move rfl rfl)) (sr rfl rfl rfl ((q_move rfl rfl)) (sr rfl rfl rfl ((q_move rfl rfl)) (sw_step rfl rfl rfl (q_call (CanCall.mk Tryz.call39) rfl (.cons rfl inferInstance (.cons rfl inferInstance (.cons rfl inferInstance (.cons rfl inferInstance (.nil))))) (fun _ w hw => callq hw (proves_yes n hn sv vs ls sp prices scale w (stb_arg hw hm) (stb_arg hw hp) hE))) (sr rfl rfl rfl ((q_move rfl rfl)) (sr rfl rfl rfl ((q_extract rfl rfl rfl)) (sr rfl rfl rfl ((q_extract rfl rfl rfl)) (sr rfl rfl rfl ((q_assign rfl rfl)) (sr rfl rfl rfl ((q_assign rfl rfl)) (sw_nil (post_then (cw_seq (cw_region (sr rfl rfl rfl ((q_move rfl rfl)) (sr rfl rfl rfl ((q_move rfl rfl)) (sr rfl rfl rfl ((q_move rfl rfl)) (sr rfl rfl rfl ((q_move rfl rfl)) ?_))))))))))))))))))))))))))))
    refine sr rfl rfl rfl ((q_len rfl (.cons rfl inferInstance (.nil)) (by exact fun w hw => rd_own hw (by exact .head _)))) ?_
    refine sr rfl rfl rfl ((q_gtr rfl rfl rfl)) (sr rfl rfl rfl ((q_and2 rfl rfl rfl)) (sw_nil (post_then ?_)))
    refine cw_cond rfl (fun h => ?_) (fun h => ?_)
    · skip
      exfalso
      simp only [Bool.and_eq_true, decide_eq_true_eq] at h
      have := (prov_bound h.1 hc2).1
      omega
    · skip
      clear h
      refine cw_skip (post_then (cw_seq (cw_region (sr rfl rfl rfl ((q_move rfl rfl)) (sr rfl rfl rfl ((q_move rfl rfl)) ?_)))))
      refine sw_x rfl rfl rfl (e_call (CanCall.mk Tryz.call42) rfl (.cons rfl inferInstance (.cons rfl inferInstance (.nil))) (fun w hw => greedy_yes n hn sv vs ls h8 w (stb_arg hw hm) hE hP)) (fun z => ?_)
      refine sw_imp fun hz => ?_
      obtain ⟨sa, ⟨la, ka⟩⟩ := z
      dsimp only at hz ⊢
      have hidx : ∀ i ∈ la, 0 ≤ i ∧ i < ls.length := fun i hi => by
        have := giter_idx hz.ok i (hz.perm.mem_iff.1 hi)
        omega
      have hcov : cvrB n (msOf ls) la = true := cvrB_iff.2 fun x hx => by
        rw [unL_perm hz.perm]
        exact greedy_covers hz.ok x (fr_zero.1 hz.full x (by omega) (by rw [fullN_bit]; simpa using hx))
      have hlen : la.length = ka := by rw [hz.perm.length_eq, giter_out]
      have hkn := giter_bd (by omega) hmo hz.ok
      refine sr rfl rfl rfl ((q_move rfl rfl)) (sr rfl rfl rfl ((q_extract rfl rfl rfl)) (sr rfl rfl rfl ((q_extract rfl rfl rfl)) (sr rfl rfl rfl ((q_assign rfl rfl)) (sr rfl rfl rfl ((q_assign rfl rfl)) (sw_nil (post_then (cw_seq (cw_seq (cw_region (sr rfl rfl rfl ((q_move rfl rfl)) (sr rfl rfl rfl ((q_neq rfl rfl rfl)) (sr rfl rfl rfl ((q_move rfl rfl)) (sr rfl rfl rfl ((q_move rfl rfl)) (sr rfl rfl rfl ((q_move rfl rfl)) (sr rfl rfl rfl ((q_move rfl rfl)) (sw_step rfl rfl rfl (q_call (CanCall.mk Tryz.call43) rfl (.cons rfl inferInstance (.cons rfl inferInstance (.cons rfl inferInstance (.nil)))) (fun _ w hw => callq hw (refCovers_spec n hn sv vs ls q4 sa.v la hidx w (stb_arg hw hm) (stb_own (e := 3) hw (.head _))))) (sr rfl rfl rfl ((q_not rfl rfl)) (sr rfl rfl rfl ((q_or2 rfl rfl rfl)) (sw_nil (post_then ?_))))))))))))))))))))
      refine cw_cond rfl (fun h => ?_) (fun h => ?_)
      · skip
        exfalso
        rw [hcov] at h
        simp at h
      · skip
        clear h
        refine cw_skip (post_then (cw_seq (cw_region (sr rfl rfl rfl ((q_move rfl rfl)) (sr rfl rfl rfl ((q_move rfl rfl)) (sw_step rfl rfl rfl (q_call (CanCall.mk Tryz.call34) rfl (.cons rfl inferInstance (.cons rfl inferInstance (.nil))) (fun _ w hw => callq hw (price_wide n hn sv vs ls w (stb_arg hw hm) hE h12))) (sr rfl rfl rfl ((q_move rfl rfl)) (sr rfl rfl rfl ((q_extract rfl rfl rfl)) (sr rfl rfl rfl ((q_extract rfl rfl rfl)) (sr rfl rfl rfl ((q_extract rfl rfl rfl)) (sr rfl rfl rfl ((q_assign rfl rfl)) (sr rfl rfl rfl ((q_assign rfl rfl)) (sr rfl rfl rfl ((q_assign rfl rfl)) (sw_nil (post_then (cw_seq (cw_seq (cw_region (sr rfl rfl rfl ((q_move rfl rfl)) (sr rfl rfl rfl ((q_neq rfl rfl rfl)) (sw_nil (post_then ?_))))))))))))))))))))))
        refine cw_cond rfl (fun h => ?_) (fun h => ?_)
        · skip
          refine cw_seq (cw_region (sr rfl rfl rfl ((q_move rfl rfl)) (sr rfl rfl rfl ((q_eql rfl rfl rfl)) (sr rfl rfl rfl ((q_move rfl rfl)) (sw_step rfl rfl rfl (q_call (CanCall.mk Tryz.call18) rfl (.nil) (fun _ w hw => callq hw (known_spec w))) (sr rfl rfl rfl ((q_and2 rfl rfl rfl)) (sr rfl rfl rfl ((q_assign rfl rfl)) (sw_nil (post_then (cw_ret (post_then_r (post_ret1 rfl (resOk_tmp rfl) ?_))))))))))))
          exact fun w' hw => ⟨rfl, (fun w h => Cl.sel (by exact .nil _) w h) _ hw⟩
        · skip
          simp at h
theorem lawBounds_yes (n : Nat) (hn : n ≤ 30) (sv : SlV) (vs : List SlV) (ls : List (List Int)) (sp : SlV) (prices : List Int) (scale : Int) (w : World) (hm : Stb w [] (fun w' => Mt w' sv.v vs ls)) (hp : Stb w [] (RdL sp.v prices)) (hso : setsOk n ls 8 = true) (h8 : ls.length ≤ 8) (hE : covE n ls 1000 = 0) (hP : possN n (msOf ls) = true) (h12 : wid (msOf ls) ≤ 12) :
    Calls Tryz.prog 9 #[.int .i64 n, sv.v, sp.v, .int .i64 scale] w fun e w' => e = .returned (.bool true) ∧ Cl w [] [] w' := by
  have h1 := stb_map hm fun _ h => h.l
  have n1 := hm.here.n
  obtain ⟨q1, q2, q3, q4⟩ := covE_ok hE
  have hmo := msOf_ok q4
  have hml : (msOf ls).length = ls.length := by simp [msOf]
  obtain ⟨c, hc1, hc2, hc3⟩ := least_some (by omega) hP
  have hg : greedyE n ls = 0 := by rw [greedyE_ok hE, hP]; rfl
  refine calls_cw (vs := [_, _, _, _]) Tryz.func9 rfl Tryz.ntmps9 rfl (Cl.start0 w) (cw_seq (cw_region (sr rfl rfl rfl ((q_assign rfl rfl)) (sw_nil (post_then (cw_seq (cw_seq (cw_region (sr rfl rfl rfl ((q_move rfl rfl)) (sr rfl rfl rfl ((q_move rfl rfl)) (sw_step rfl rfl rfl (q_call (CanCall.mk Tryz.call33) rfl (.cons rfl inferInstance (.cons rfl inferInstance (.cons rfl inferInstance (.nil)))) (fun _ w hw => callq hw (sets_spec n sv vs ls 8 w (stb_arg hw hm)))) (sr rfl rfl rfl ((q_not rfl rfl)) (sr rfl rfl rfl ((q_move rfl rfl)) (sr rfl rfl rfl ((q_move rfl rfl)) ?_))))))))))))))
  refine sr rfl rfl rfl ((q_len rfl (.cons rfl inferInstance (.nil)) (by exact fun w hw => Stb.cl (by assumption) hw))) ?_
  refine sr rfl rfl rfl ((q_gtr rfl rfl rfl)) (sr rfl rfl rfl ((q_or2 rfl rfl rfl)) (sr rfl rfl rfl ((q_move rfl rfl)) (sr rfl rfl rfl ((q_move rfl rfl)) (sr rfl rfl rfl ((q_move rfl rfl)) ?_))))
  refine sw_step rfl rfl rfl (q_call (CanCall.mk Tryz.call35) rfl (.cons rfl inferInstance (.cons rfl inferInstance (.nil))) (fun _ w hw => callq hw (needed_spec n (.inl (by omega)) sv vs ls (.inl h8) w (stb_arg hw hm)))) ?_
  refine sr rfl rfl rfl ((q_neq rfl rfl rfl)) (sr rfl rfl rfl ((q_or2 rfl rfl rfl)) (sw_nil (post_then ?_)))
  refine cw_cond rfl (fun h => ?_) (fun h => ?_)
  · skip
    exfalso
    rw [hso, hg] at h
    simp at h; omega
  · skip
    clear h
    refine cw_skip (post_then (cw_seq (cw_region (sr rfl rfl rfl ((q_move rfl rfl)) (sr rfl rfl rfl ((q_move rfl rfl)) ?_)))))
    refine sw_x rfl rfl rfl (e_call (CanCall.mk Tryz.call41) rfl (.cons rfl inferInstance (.cons rfl inferInstance (.nil))) (fun w hw => refLeast_spec n hn sv vs ls (by omega) q4 w (stb_arg hw hm))) (fun r => ?_)
    refine sw_imp fun _ => ?_
    rw [hc1]
    refine sw_le (C' := Cl w [] [ownL 3 r.v c]) (fun w' hw => hw) (sr rfl rfl rfl ((q_move rfl rfl)) (sr rfl rfl rfl ((q_extract rfl rfl rfl)) (sr rfl rfl rfl ((q_extract rfl rfl rfl)) (sr rfl rfl rfl ((q_assign rfl rfl)) (sr rfl rfl rfl ((q_assign rfl rfl)) (sw_nil (post_then (cw_seq (cw_seq (cw_region (sr rfl rfl rfl ((q_move rfl rfl)) (sr rfl rfl rfl ((q_move rfl rfl)) (sr rfl rfl rfl ((q_move rfl rfl)) (sr rfl rfl rfl ((q_move rfl rfl)) (sw_step rfl rfl rfl (q_call (CanCall.mk Tryz.call39) rfl (.cons rfl inferInstance (.cons rfl inferInstance (.cons rfl inferInstance (.cons rfl inferInstance (.nil))))) (fun _ w hw => callq hw (proves_yes n hn sv vs ls sp prices scale w (stb_arg hw hm) (stb_arg hw hp) hE))) (sr rfl rfl rfl ((q_move rfl rfl)) (sr rfl rfl rfl ((q_extract rfl rfl rfl)) (sr rfl rfl rfl ((q_extract rfl rfl rfl)) (sr rfl rfl rfl ((q_assign rfl rfl)) (sr rfl rfl rfl ((q_assign rfl rfl)) (sw_nil (post_then (cw_seq (cw_region (sr rfl rfl rfl ((q_move rfl rfl)) (sr rfl rfl rfl ((q_move rfl rfl)) (sr rfl rfl rfl ((q_move rfl rfl)) (sr rfl rfl rfl ((q_move rfl rfl)) ?_))))))))))))))))))))))))))))
    refine sr rfl rfl rfl ((q_len rfl (.cons rfl inferInstance (.nil)) (by exact fun w hw => rd_own hw (by exact .head _)))) ?_
    refine sr rfl rfl rfl ((q_gtr rfl rfl rfl)) (sr rfl rfl rfl ((q_and2 rfl rfl rfl)) (sw_nil (post_then ?_)))
    refine cw_cond rfl (fun h => ?_) (fun h => ?_)
    · skip
      exfalso
      simp only [Bool.and_eq_true, decide_eq_true_eq] at h
      have := (prov_bound h.1 hc2).1
      omega
    · skip
      clear h
      refine cw_skip (post_then (cw_seq (cw_region (sr rfl rfl rfl ((q_move rfl rfl)) (sr rfl rfl rfl ((q_move rfl rfl)) ?_)))))
      refine sw_x rfl rfl rfl (e_call (CanCall.mk Tryz.call42) rfl (.cons rfl inferInstance (.cons rfl inferInstance (.nil))) (fun w hw => greedy_yes n hn sv vs ls h8 w (stb_arg hw hm) hE hP)) (fun z => ?_)
      refine sw_imp fun hz => ?_
      obtain ⟨sa, ⟨la, ka⟩⟩ := z
      dsimp only at hz ⊢
      have hidx : ∀ i ∈ la, 0 ≤ i ∧ i < ls.length := fun i hi => by
        have := giter_idx hz.ok i (hz.perm.mem_iff.1 hi)
        omega
      have hcov : cvrB n (msOf ls) la = true := cvrB_iff.2 fun x hx => by
        rw [unL_perm hz.perm]
        exact greedy_covers hz.ok x (fr_zero.1 hz.full x (by omega) (by rw [fullN_bit]; simpa using hx))
      have hlen : la.length = ka := by rw [hz.perm.length_eq, giter_out]
      have hkn := giter_bd (by omega) hmo hz.ok
      refine sr rfl rfl rfl ((q_move rfl rfl)) (sr rfl rfl rfl ((q_extract rfl rfl rfl)) (sr rfl rfl rfl ((q_extract rfl rfl rfl)) (sr rfl rfl rfl ((q_assign rfl rfl)) (sr rfl rfl rfl ((q_assign rfl rfl)) (sw_nil (post_then (cw_seq (cw_seq (cw_region (sr rfl rfl rfl ((q_move rfl rfl)) (sr rfl rfl rfl ((q_neq rfl rfl rfl)) (sr rfl rfl rfl ((q_move rfl rfl)) (sr rfl rfl rfl ((q_move rfl rfl)) (sr rfl rfl rfl ((q_move rfl rfl)) (sr rfl rfl rfl ((q_move rfl rfl)) (sw_step rfl rfl rfl (q_call (CanCall.mk Tryz.call43) rfl (.cons rfl inferInstance (.cons rfl inferInstance (.cons rfl inferInstance (.nil)))) (fun _ w hw => callq hw (refCovers_spec n hn sv vs ls q4 sa.v la hidx w (stb_arg hw hm) (stb_own (e := 3) hw (.head _))))) (sr rfl rfl rfl ((q_not rfl rfl)) (sr rfl rfl rfl ((q_or2 rfl rfl rfl)) (sw_nil (post_then ?_))))))))))))))))))))
      refine cw_cond rfl (fun h => ?_) (fun h => ?_)
      · skip
        exfalso
        rw [hcov] at h
        simp at h
      · skip
        clear h
        refine cw_skip (post_then (cw_seq (cw_region (sr rfl rfl rfl ((q_move rfl rfl)) (sr rfl rfl rfl ((q_move rfl rfl)) ?_)))))
        refine sw_x rfl rfl rfl (e_call (CanCall.mk Tryz.call34) rfl (.cons rfl inferInstance (.cons rfl inferInstance (.nil))) (fun w hw => price_yes n hn sv vs ls w (stb_arg hw hm) hE h8 h12 hP)) (fun z => ?_)
        refine sw_imp fun hzp => ?_
        obtain ⟨sr, ⟨lr, ⟨kr, lq⟩⟩⟩ := z
        dsimp only at hzp ⊢
        obtain ⟨hz1, hz2⟩ := hzp
        obtain rfl := done_one hz.ok hz.full hz2.ok hz2.full
        subst hz1
        have hprov := greedy_prov hn hmo hz.ok
        have hpl : ((giter n (msOf ls) ka).sh.map fun k => 27720 / k).length = n := by simpa using giter_sh n (msOf ls) ka
        have hpos : ∀ k, 0 ≤ nth ((giter n (msOf ls) ka).sh.map fun k => 27720 / k) k ∧ nth ((giter n (msOf ls) ka).sh.map fun k => 27720 / k) k ≤ 27720 := fun k => price_nonneg (giter_nonneg hz.ok) k
        have hsum : sumTo ((giter n (msOf ls) ka).sh.map fun k => 27720 / k) n = 27720 * (ka : Int) := greedy_sum (by omega) hmo h12 hz.ok
        have hb := prov_bound hprov hc2
        generalize hlr : ((giter n (msOf ls) ka).sh.map fun k => 27720 / k) = lr at *
        have hsc := scaleTo_bd (wid (msOf ls))
        have hmul : scaleTo (wid (msOf ls)) * (c.length : Int) ≤ 332640 * 8 := Int.mul_le_mul (by omega) (by omega) (by omega) (by omega)
        have hmul0 : 0 ≤ scaleTo (wid (msOf ls)) * (c.length : Int) := Int.mul_nonneg hsc.1 (by omega)
        refine sr rfl rfl rfl ((q_move rfl rfl)) (sr rfl rfl rfl ((q_extract rfl rfl rfl)) (sr rfl rfl rfl ((q_extract rfl rfl rfl)) (sr rfl rfl rfl ((q_extract rfl rfl rfl)) (sr rfl rfl rfl ((q_assign rfl rfl)) (sr rfl rfl rfl ((q_assign rfl rfl)) (sr rfl rfl rfl ((q_assign rfl rfl)) (sw_nil (post_then (cw_seq (cw_seq (cw_region (sr rfl rfl rfl ((q_move rfl rfl)) (sr rfl rfl rfl ((q_neq rfl rfl rfl)) (sw_nil (post_then ?_)))))))))))))))
        refine cw_cond rfl (fun h => ?_) (fun h => ?_)
        · skip
          simp at h
        · skip
          clear h
          refine cw_skip (post_then (cw_seq (cw_region (sr rfl rfl rfl ((q_assign rfl rfl)) (sw_nil (post_then (cw_seq (cw_seq (cw_region (sr rfl rfl rfl ((q_assign rfl rfl)) (sw_nil (post_then (cw_block ?_)))))))))))))
          refine cw_loop (S := Nat) (fun k => [(0, [], .int .i64 n), (1, [], sv.v), (9, [], r.v), (13, [], sa.v), (15, [], sr.v), (16, [], .int .i64 (scaleTo (wid (msOf ls)))), (18, [], .int .i64 (sumTo lr k)), (19, [], .int .i64 k)]) (fun _ => Cl w [] [ownL 3 sr.v lr, ownL 3 sa.v la, ownL 3 r.v c]) (fun k => k ≤ n) (fun k => n - k) 0 (Nat.zero_le _) (by exact .cons rfl (.cons rfl (.cons rfl (.cons rfl (.cons rfl (.cons rfl (.cons rfl (.cons rfl .nil)))))))) (fun w h => Cl.sel (by exact .take 0 rfl (.take 0 rfl (.take 0 rfl (.nil _)))) w h) ?_
          intro k hk
          have hs1 := sumTo_bd hpos k
          have hs2 := hpos k
          refine cw_seq (cw_seq (cw_region (sr rfl rfl rfl ((q_move rfl rfl)) (sr rfl rfl rfl ((q_move rfl rfl)) ?_))))
          refine sr rfl rfl rfl ((q_len rfl (.cons rfl inferInstance (.nil)) (by exact fun w hw => rd_own hw (by exact .head _)))) ?_
          refine sr rfl rfl rfl ((q_lss rfl rfl rfl)) (sw_nil (post_then ?_))
          refine cw_cond rfl (fun h => ?_) (fun h => ?_)
          · skip
            have hk' : k < n := by simp only [decide_eq_true_eq] at h; omega
            refine cw_skip (post_then (cw_seq (cw_block (cw_region (sr rfl rfl rfl ((q_move rfl rfl)) (sr rfl rfl rfl ((q_move rfl rfl)) (sr rfl rfl rfl ((q_move rfl rfl)) ?_)))))))
            refine sr rfl rfl rfl ((q_indexN rfl rfl rfl (by exact fun w hw => rd_own hw (by exact .head _)) (by intro hc; omega))) ?_
            refine sr rfl rfl rfl ((q_loadEl rfl rfl rfl (by exact fun w hw => rd_own hw (by exact .head _)) (by intro hc; omega))) ?_
            refine sr rfl rfl rfl ((q_add rfl rfl rfl (by intro hc; omega))) ?_
            refine sr rfl rfl rfl ((q_assign rfl rfl)) (sw_nil (post_blk (post_then (cw_region (sr rfl rfl rfl ((q_move rfl rfl)) ?_)))))
            refine sr rfl rfl rfl ((q_add rfl rfl rfl (by intro hc; omega))) ?_
            refine sr rfl rfl rfl ((q_assign rfl rfl)) (sw_nil ?_)
            exact post_next (k + 1) (by exact .cons rfl (.cons rfl (.cons rfl (.cons rfl (.cons rfl (.cons rfl (.cons rfl (.cons rfl .nil)))))))) (fun _ h => h) (by simp only [decide_eq_true_eq] at h; omega) (by simp only [decide_eq_true_eq] at h; omega)
          · skip
            have hk' : k = n := by simp only [decide_eq_false_iff_not] at h; omega
            subst hk'
            rw [hsum]
            refine cw_exit (post_then_x (post_then_x (post_blk_eq (post_then (cw_seq (cw_region (sr rfl rfl rfl ((q_move rfl rfl)) (sr rfl rfl rfl ((q_move rfl rfl)) (sr rfl rfl rfl ((q_move rfl rfl)) (sr rfl rfl rfl ((q_move rfl rfl)) (sw_step rfl rfl rfl (q_call (CanCall.mk Tryz.call39) rfl (.cons rfl inferInstance (.cons rfl inferInstance (.cons rfl inferInstance (.cons rfl inferInstance (.nil))))) (fun _ w hw => callq hw (proves_yes k hn sv vs ls sr lr (scaleTo (wid (msOf ls))) w (stb_arg hw hm) (stb_own (e := 3) hw (.head _)) hE))) (sr rfl rfl rfl ((q_move rfl rfl)) (sr rfl rfl rfl ((q_extract rfl rfl rfl)) (sr rfl rfl rfl ((q_extract rfl rfl rfl)) (sr rfl rfl rfl ((q_assign rfl rfl)) (sr rfl rfl rfl ((q_assign rfl rfl)) (sw_nil (post_then (cw_seq (cw_region (sr rfl rfl rfl ((q_move rfl rfl)) (sr rfl rfl rfl ((q_move rfl rfl)) (sr rfl rfl rfl ((q_move rfl rfl)) (sr rfl rfl rfl ((q_move rfl rfl)) ?_))))))))))))))))))))))))
            refine sr rfl rfl rfl ((q_len rfl (.cons rfl inferInstance (.nil)) (by exact fun w hw => rd_own hw (by exact .tail _ (.head _))))) ?_
            refine sr rfl rfl rfl ((q_mul rfl rfl rfl (by intro hc; omega))) ?_
            refine sr rfl rfl rfl ((q_eql rfl rfl rfl)) (sr rfl rfl rfl ((q_and2 rfl rfl rfl)) (sr rfl rfl rfl ((q_move rfl rfl)) (sr rfl rfl rfl ((q_move rfl rfl)) (sr rfl rfl rfl ((q_move rfl rfl)) ?_))))
            refine sr rfl rfl rfl ((q_len rfl (.cons rfl inferInstance (.nil)) (by exact fun w hw => rd_own hw (by exact .tail _ (.tail _ (.head _)))))) ?_
            refine sr rfl rfl rfl ((q_leq rfl rfl rfl)) (sr rfl rfl rfl ((q_and2 rfl rfl rfl)) (sr rfl rfl rfl ((q_move rfl rfl)) (sr rfl rfl rfl ((q_move rfl rfl)) ?_)))
            refine sr rfl rfl rfl ((q_len rfl (.cons rfl inferInstance (.nil)) (by exact fun w hw => rd_own hw (by exact .tail _ (.head _))))) ?_
            refine sr rfl rfl rfl ((q_mul rfl rfl rfl (by intro hc; omega))) ?_
            refine sr rfl rfl rfl ((q_move rfl rfl)) (sr rfl rfl rfl ((q_move rfl rfl)) ?_)
            refine sr rfl rfl rfl ((q_len rfl (.cons rfl inferInstance (.nil)) (by exact fun w hw => rd_own hw (by exact .tail _ (.tail _ (.head _)))))) ?_
            refine sr rfl rfl rfl ((q_mul rfl rfl rfl (by intro hc; omega))) ?_
            refine sr rfl rfl rfl ((q_leq rfl rfl rfl)) (sr rfl rfl rfl ((q_and2 rfl rfl rfl)) (sr rfl rfl rfl ((q_move rfl rfl)) (sw_step rfl rfl rfl (q_call (CanCall.mk Tryz.call18) rfl (.nil) (fun _ w hw => callq hw (known_spec w))) (sr rfl rfl rfl ((q_and2 rfl rfl rfl)) (sr rfl rfl rfl ((q_assign rfl rfl)) (sw_nil (post_then (cw_ret (post_ret1 rfl (resOk_tmp rfl) ?_)))))))))
            refine fun w' hw => ⟨?_, (fun w h => Cl.sel (by exact .nil _) w h) _ hw⟩
            have e1 : decide (27720 * (ka : Int) = 27720 * (la.length : Int)) = true := by rw [hlen]; simp
            have e2 : decide (provV k (msOf ls) lr (scaleTo (wid (msOf ls))) ≤ (c.length : Int)) = true := by simpa using hb.1
            have e3 : decide (27720 * (la.length : Int) ≤ scaleTo (wid (msOf ls)) * (c.length : Int)) = true := by rw [hlen]; simp; omega
            rw [hprov, e1, e2, e3]; rfl
theorem lawBounds_some (n : Nat) (hn : n ≤ 30) (sv : SlV) (vs : List SlV) (ls : List (List Int)) (sp : SlV) (prices : List Int) (scale : Int) (w : World) (hm : Stb w [] (fun w' => Mt w' sv.v vs ls)) (hp : Stb w [] (RdL sp.v prices)) (hso : setsOk n ls 8 = true) (h8 : ls.length ≤ 8) (hE : covE n ls 1000 = 0) (hP : possN n (msOf ls) = true) :
    Calls Tryz.prog 9 #[.int .i64 n, sv.v, sp.v, .int .i64 scale] w fun e w' => e = .returned (.bool true) ∧ Cl w [] [] w' := by
  by_cases h12 : 12 < wid (msOf ls)
  · exact lawBounds_wide n hn sv vs ls sp prices scale w hm hp hso h8 hE hP h12
  · exact lawBounds_yes n hn sv vs ls sp prices scale w hm hp hso h8 hE hP (by omega)
theorem lawBounds_no (n : Int) (sv : SlV) (vs : List SlV) (ls : List (List Int)) (sp : SlV) (prices : List Int) (scale : Int) (w : World) (hm : Stb w [] (fun w' => Mt w' sv.v vs ls)) (hso : setsOk n ls 8 = true) (h8 : ls.length ≤ 8) (hG : greedyE n ls ≠ 0) :
    Calls Tryz.prog 9 #[.int .i64 n, sv.v, sp.v, .int .i64 scale] w fun e w' => e = .returned (.bool true) ∧ Cl w [] [] w' := by
  have h1 := stb_map hm fun _ h => h.l
  have n1 := hm.here.n
  obtain ⟨k1, k2⟩ := setsOk_of hso
  refine calls_cw (vs := [_, _, _, _]) Tryz.func9 rfl Tryz.ntmps9 rfl (Cl.start0 w) (cw_seq (cw_region (sr rfl rfl rfl ((q_assign rfl rfl)) (sw_nil (post_then (cw_seq (cw_seq (cw_region (sr rfl rfl rfl ((q_move rfl rfl)) (sr rfl rfl rfl ((q_move rfl rfl)) (sw_step rfl rfl rfl (q_call (CanCall.mk Tryz.call33) rfl (.cons rfl inferInstance (.cons rfl inferInstance (.cons rfl inferInstance (.nil)))) (fun _ w hw => callq hw (sets_spec n sv vs ls 8 w (stb_arg hw hm)))) (sr rfl rfl rfl ((q_not rfl rfl)) (sr rfl rfl rfl ((q_move rfl rfl)) (sr rfl rfl rfl ((q_move rfl rfl)) ?_))))))))))))))
  refine sr rfl rfl rfl ((q_len rfl (.cons rfl inferInstance (.nil)) (by exact fun w hw => Stb.cl (by assumption) hw))) ?_
  refine sr rfl rfl rfl ((q_gtr rfl rfl rfl)) (sr rfl rfl rfl ((q_or2 rfl rfl rfl)) (sr rfl rfl rfl ((q_move rfl rfl)) (sr rfl rfl rfl ((q_move rfl rfl)) (sr rfl rfl rfl ((q_move rfl rfl)) (sw_step rfl rfl rfl (q_call (CanCall.mk Tryz.call35) rfl (.cons rfl inferInstance (.cons rfl inferInstance (.nil))) (fun _ w hw => callq hw (needed_spec n k2 sv vs ls (.inl h8) w (stb_arg hw hm)))) (sr rfl rfl rfl ((q_neq rfl rfl rfl)) (sr rfl rfl rfl ((q_or2 rfl rfl rfl)) (sw_nil (post_then ?_)))))))))
  refine cw_cond rfl (fun h => ?_) (fun h => ?_)
  · skip
    refine cw_seq (cw_region (sw_step rfl rfl rfl (q_call (CanCall.mk Tryz.call18) rfl (.nil) (fun _ w hw => callq hw (known_spec w))) (sr rfl rfl rfl ((q_assign rfl rfl)) (sw_nil (post_then (cw_ret (post_then_r (post_ret1 rfl (resOk_tmp rfl) ?_))))))))
    exact fun w' hw => ⟨rfl, hw⟩
  · skip
    exfalso
    rw [hso] at h
    simp at h
    exact hG h.2
theorem lawBounds (n : Int) (sv : SlV) (vs : List SlV) (ls : List (List Int)) (sp : SlV) (prices : List Int) (scale : Int) (w : World) (hm : Stb w [] (fun w' => Mt w' sv.v vs ls)) (hp : Stb w [] (RdL sp.v prices)) :
    Calls Tryz.prog 9 #[.int .i64 n, sv.v, sp.v, .int .i64 scale] w fun e w' => e = .returned (.bool true) ∧ Cl w [] [] w' := by
  by_cases hso : setsOk n ls 8 = true ∧ ls.length ≤ 8
  · by_cases hG : greedyE n ls = 0
    · by_cases hE : covE n ls 1000 = 0
      · obtain ⟨m, rfl⟩ : ∃ m : Nat, n = m := ⟨n.toNat, by have := (covE_ok hE).2.2.1; omega⟩
        have hP : possN m (msOf ls) = true := by
          rw [greedyE_ok hE] at hG
          cases h : possN m (msOf ls)
          · rw [h] at hG; cases hG
          · rfl
        have hn : m ≤ 30 := by have := (setsOk_of hso.1).2; have := (covE_ok hE).1; omega
        exact lawBounds_some m hn sv vs ls sp prices scale w hm hp hso.1 hso.2 hE hP
      · rw [(greedyE_bad hE).1] at hG; exact absurd hG hE
    · exact lawBounds_no n sv vs ls sp prices scale w hm hso.1 hso.2 hG
  · exact lawBounds_out n sv vs ls sp prices scale w hm hso
end Go.Proofs.YtomjbfeafodfbaaGreat

set_option autoImplicit false
set_option maxRecDepth 100000
namespace Go.Proofs.YtomjbfeafodfbaaGreat
open Go.Sx
open Enc (enc val)
def shortB (s : ByteArray) : Bool := decide ((s.size : Int) ≤ 12)
theorem short_spec (s : ByteArray) (w : World) : Calls Tryz.prog 62 #[.string s] w fun e w' => e = .returned (.bool (shortB s)) ∧ Cl w [] [] w' := by
  refine calls_cw (vs := [_]) Tryz.func62 rfl Tryz.ntmps62 rfl (Cl.start0 w) (cw_seq (cw_region (sr rfl rfl rfl ((q_assign rfl rfl)) (sw_nil (post_then (cw_seq (cw_region (sr rfl rfl rfl ((q_move rfl rfl)) (sr rfl rfl rfl ((q_lenS rfl (.cons rfl inferInstance (.nil)) Tryz.underlying9)) (sr rfl rfl rfl ((q_leq rfl rfl rfl)) (sr rfl rfl rfl ((q_assign rfl rfl)) (sw_nil (post_then (cw_ret (post_ret1 rfl (resOk_tmp rfl) ?_)))))))))))))))
  exact fun w' hw => ⟨rfl, hw⟩
def smallU (u : Un) : Bool := shortB u.phone && shortB u.before && shortB u.after && decide (u.bl.length ≤ 50) && decide (u.el.length ≤ 50)
def smallT (t : Wan) : Bool := shortB t.phone && shortB t.before && shortB t.after
def sizesB (p : List Un) (tgt : List Wan) (mu mt : Int) : Bool := decide (((p.length : Int) ≤ mu ∨ 2000 < p.length) ∧ p.length ≤ 2100 ∧ ((tgt.length : Int) ≤ mt ∨ 500 < tgt.length) ∧ tgt.length ≤ 600)
def smallB (p : List Un) (tgt : List Wan) (mu mt : Int) : Bool := sizesB p tgt mu mt && p.all smallU && tgt.all smallT
structure VoIn (w : World) (sp : SlV) (p : List Un) : Prop where
  l : RdL sp.v p w
  u : ∀ u ∈ p, UnIn u w
theorem VoIn.stb {w : World} {sp : SlV} {p : List Un} (h : VoIn w sp p) : Stb w [] (fun w' => VoIn w' sp p) := ⟨fun w' k => ⟨(rd_stb h.l).stb w' k, fun u hu => ⟨(h.u u hu).s1, (h.u u hu).s2, (h.u u hu).s3, (rd_stb (h.u u hu).b).stb w' k, (rd_stb (h.u u hu).e).stb w' k⟩⟩⟩
theorem small_vo {w : World} {sp : SlV} {p : List Un} {tgt : List Wan} {mu mt : Int} (h : VoIn w sp p) (hs : smallB p tgt mu mt = true) : VoRd w sp p := by
  simp only [smallB, Bool.and_eq_true] at hs
  refine ⟨rd_stb h.l, fun u hu => ?_⟩
  have h1 := List.all_eq_true.1 hs.1.2 u hu
  simp only [smallU, shortB, Bool.and_eq_true, decide_eq_true_eq] at h1
  have h2 := h.u u hu
  exact ⟨by omega, by omega, by omega, rd_stb h2.b, rd_stb h2.e⟩
theorem small_ta {p : List Un} {tgt : List Wan} {mu mt : Int} (hs : smallB p tgt mu mt = true) : ∀ t ∈ tgt, WaRd t := by
  simp only [smallB, Bool.and_eq_true] at hs
  intro t ht
  have h1 := List.all_eq_true.1 hs.2 t ht
  simp only [smallT, shortB, Bool.and_eq_true, decide_eq_true_eq] at h1
  exact ⟨by omega, by omega, by omega⟩
theorem small_n {p : List Un} {tgt : List Wan} {mu mt : Int} (hs : smallB p tgt mu mt = true) : ((p.length : Int) ≤ mu ∨ 2000 < p.length) ∧ ((tgt.length : Int) ≤ mt ∨ 500 < tgt.length) ∧ p.length ≤ 2100 ∧ tgt.length ≤ 600 := by
  simp only [smallB, sizesB, Bool.and_eq_true, decide_eq_true_eq] at hs
  exact ⟨hs.1.1.1, hs.1.1.2.2.1, hs.1.1.2.1, hs.1.1.2.2.2⟩
theorem small_spec (sp tp : SlV) (p : List Un) (tgt : List Wan) (mu mt : Int) (w : World) (hvo : VoIn w sp p) (htp : Stb w [] (RdL tp.v tgt)) : Calls Tryz.prog 17 #[sp.v, tp.v, .int .i64 mu, .int .i64 mt] w fun e w' => e = .returned (.bool (smallB p tgt mu mt)) ∧ Cl w [] [] w' := by
  have h1 : Stb w [] (RdL sp.v p) := rd_stb hvo.l
  have hL := rd_len hvo.l
  have hL2 := rd_len htp.here
  refine calls_cw (vs := [_, _, _, _]) Tryz.func17 rfl Tryz.ntmps17 rfl (Cl.start0 w) (cw_seq (cw_region (sr rfl rfl rfl ((q_assign rfl rfl)) (sw_nil (post_then (cw_seq (cw_seq (cw_region (sr rfl rfl rfl ((q_move rfl rfl)) ?_)))))))))
  refine sr rfl rfl rfl ((q_len rfl (.cons rfl inferInstance (.nil)) (by exact fun w hw => Stb.cl (by assumption) hw))) ?_
  refine sr rfl rfl rfl ((q_move rfl rfl)) (sr rfl rfl rfl ((q_gtr rfl rfl rfl)) (sr rfl rfl rfl ((q_move rfl rfl)) (sr rfl rfl rfl ((q_move rfl rfl)) ?_)))
  refine sr rfl rfl rfl ((q_len rfl (.cons rfl inferInstance (.nil)) (by exact fun w hw => Stb.cl (by assumption) hw))) ?_
  refine sr rfl rfl rfl ((q_leq rfl rfl rfl)) (sr rfl rfl rfl ((q_and2 rfl rfl rfl)) (sr rfl rfl rfl ((q_move rfl rfl)) (sr rfl rfl rfl ((q_move rfl rfl)) ?_)))
  refine sr rfl rfl rfl ((q_len rfl (.cons rfl inferInstance (.nil)) (by exact fun w hw => Stb.cl (by assumption) hw))) ?_
  refine sr rfl rfl rfl ((q_gtr rfl rfl rfl)) (sr rfl rfl rfl ((q_or2 rfl rfl rfl)) (sr rfl rfl rfl ((q_move rfl rfl)) (sr rfl rfl rfl ((q_move rfl rfl)) ?_)))
  refine sr rfl rfl rfl ((q_len rfl (.cons rfl inferInstance (.nil)) (by exact fun w hw => Stb.cl (by assumption) hw))) ?_
  refine sr rfl rfl rfl ((q_move rfl rfl)) (sr rfl rfl rfl ((q_gtr rfl rfl rfl)) (sr rfl rfl rfl ((q_move rfl rfl)) (sr rfl rfl rfl ((q_move rfl rfl)) ?_)))
  refine sr rfl rfl rfl ((q_len rfl (.cons rfl inferInstance (.nil)) (by exact fun w hw => Stb.cl (by assumption) hw))) ?_
  refine sr rfl rfl rfl ((q_leq rfl rfl rfl)) (sr rfl rfl rfl ((q_and2 rfl rfl rfl)) (sr rfl rfl rfl ((q_or2 rfl rfl rfl)) (sr rfl rfl rfl ((q_move rfl rfl)) (sr rfl rfl rfl ((q_move rfl rfl)) ?_))))
  refine sr rfl rfl rfl ((q_len rfl (.cons rfl inferInstance (.nil)) (by exact fun w hw => Stb.cl (by assumption) hw))) ?_
  refine sr rfl rfl rfl ((q_gtr rfl rfl rfl)) (sr rfl rfl rfl ((q_or2 rfl rfl rfl)) (sw_nil (post_then ?_)))
  refine cw_cond rfl (fun h => ?_) (fun h => ?_)
  · skip
    have h2 : sizesB p tgt mu mt = false := by
      simp only [sizesB, decide_eq_false_iff_not]
      simp only [Bool.or_eq_true, Bool.and_eq_true, decide_eq_true_eq] at h
      omega
    refine cw_seq (cw_region (sr rfl rfl rfl ((q_assign rfl rfl)) (sw_nil (post_then (cw_ret (post_then_r (post_ret1 rfl (resOk_tmp rfl) ?_)))))))
    exact fun w' hw => ⟨by rw [smallB, h2]; rfl, hw⟩
  · skip
    have h2 : sizesB p tgt mu mt = true := by
      simp only [sizesB, decide_eq_true_eq]
      simp only [Bool.or_eq_false_iff, Bool.and_eq_false_iff, decide_eq_false_iff_not] at h
      omega
    have hno : ∀ {b : Bool}, b = false → (sizesB p tgt mu mt && p.all smallU && b) = false := fun h => by rw [h, Bool.and_false]
    refine cw_skip (post_then (cw_seq (cw_seq (cw_region (sr rfl rfl rfl ((q_assign rfl rfl)) (sw_nil (post_then (cw_block ?_))))))))
    refine cw_loop (S := Nat) (fun k => [(0, [], sp.v), (1, [], tp.v), (9, [], .int .i64 k)]) (fun _ => Cl w [] []) (fun k => k ≤ p.length ∧ ∀ j, j < k → smallU (nth p j) = true) (fun k => p.length - k) 0 ⟨Nat.zero_le _, fun j hj => by omega⟩ (by exact .cons rfl (.cons rfl (.cons rfl .nil))) (fun _ h => h) ?_
    rintro k ⟨hk, he⟩
    refine cw_seq (cw_seq (cw_region (sr rfl rfl rfl ((q_move rfl rfl)) (sr rfl rfl rfl ((q_move rfl rfl)) ?_))))
    refine sr rfl rfl rfl ((q_len rfl (.cons rfl inferInstance (.nil)) (by exact fun w hw => Stb.cl (by assumption) hw))) ?_
    refine sr rfl rfl rfl ((q_lss rfl rfl rfl)) (sw_nil (post_then ?_))
    refine cw_cond rfl (fun h3 => ?_) (fun h3 => ?_)
    · skip
      have hk' : k < p.length := by simp only [decide_eq_true_eq] at h3; omega
      have hin := hvo.u _ (nth_mem hk')
      have l1 : (nth p k).bs.len = (nth p k).bl.length := (rd_lens hin.b).1
      have l2 : (nth p k).es.len = (nth p k).el.length := (rd_lens hin.e).1
      refine cw_skip (post_then (cw_seq (cw_block (cw_seq (cw_region (sr rfl rfl rfl ((q_move rfl rfl)) (sr rfl rfl rfl ((q_move rfl rfl)) ?_)))))))
      refine sr rfl rfl rfl ((q_indexN rfl rfl rfl (by exact fun w hw => Stb.cl (by assumption) hw) (by intro hc; omega))) ?_
      refine sr rfl rfl rfl ((q_loadEl rfl rfl rfl (by exact fun w hw => Stb.cl (by assumption) hw) (by intro hc; omega))) ?_
      refine sw_x rfl rfl rfl (e_alloc rfl) (fun b10 => ?_)
      refine sw_eff0 rfl rfl (e_store (i := 0) rfl rfl rfl rfl rfl rfl rfl rfl) (sw_nil (post_then (cw_seq (cw_region (sr rfl rfl rfl ((q_fieldAddr rfl rfl)) ?_)))))
      refine sr rfl rfl rfl ((q_loadC rfl rfl (by exact .head _) rfl)) ?_
      refine sw_step rfl rfl rfl (q_call (CanCall.mk Tryz.call62) rfl (.cons rfl inferInstance (.nil)) (fun _ w hw => callq hw (short_spec _ w))) (sr rfl rfl rfl ((q_not rfl rfl)) (sr rfl rfl rfl ((q_move rfl rfl)) (sr rfl rfl rfl ((q_fieldAddr rfl rfl)) ?_)))
      refine sr rfl rfl rfl ((q_loadC rfl rfl (by exact .head _) rfl)) ?_
      refine sw_step rfl rfl rfl (q_call (CanCall.mk Tryz.call62) rfl (.cons rfl inferInstance (.nil)) (fun _ w hw => callq hw (short_spec _ w))) (sr rfl rfl rfl ((q_not rfl rfl)) (sr rfl rfl rfl ((q_or2 rfl rfl rfl)) (sr rfl rfl rfl ((q_move rfl rfl)) (sr rfl rfl rfl ((q_fieldAddr rfl rfl)) ?_))))
      refine sr rfl rfl rfl ((q_loadC rfl rfl (by exact .head _) rfl)) ?_
      refine sw_step rfl rfl rfl (q_call (CanCall.mk Tryz.call62) rfl (.cons rfl inferInstance (.nil)) (fun _ w hw => callq hw (short_spec _ w))) (sr rfl rfl rfl ((q_not rfl rfl)) (sr rfl rfl rfl ((q_or2 rfl rfl rfl)) (sr rfl rfl rfl ((q_move rfl rfl)) (sr rfl rfl rfl ((q_fieldAddr rfl rfl)) ?_))))
      refine sr rfl rfl rfl ((q_loadC rfl rfl (by exact .head _) rfl)) ?_
      refine sr rfl rfl rfl ((q_lenV rfl (.cons rfl inferInstance (.nil)))) (sr rfl rfl rfl ((q_gtr rfl rfl rfl)) (sr rfl rfl rfl ((q_or2 rfl rfl rfl)) (sr rfl rfl rfl ((q_move rfl rfl)) (sr rfl rfl rfl ((q_fieldAddr rfl rfl)) ?_))))
      refine sr rfl rfl rfl ((q_loadC rfl rfl (by exact .head _) rfl)) ?_
      refine sr rfl rfl rfl ((q_lenV rfl (.cons rfl inferInstance (.nil)))) (sr rfl rfl rfl ((q_gtr rfl rfl rfl)) (sr rfl rfl rfl ((q_or2 rfl rfl rfl)) (sw_nil (post_then ?_))))
      rw [l1, l2]
      refine cw_cond rfl (fun h4 => ?_) (fun h4 => ?_)
      · skip
        have h5 : smallU (nth p k) = false := by
          simp only [Bool.or_eq_true, Bool.not_eq_true', decide_eq_true_eq] at h4
          simp only [smallU, Bool.and_eq_false_iff, decide_eq_false_iff_not]
          rcases h4 with (((h4 | h4) | h4) | h4) | h4
          · exact .inl (.inl (.inl (.inl h4)))
          · exact .inl (.inl (.inl (.inr h4)))
          · exact .inl (.inl (.inr h4))
          · exact .inl (.inr (by omega))
          · exact .inr (by omega)
        have h6 : p.all smallU = false := List.all_eq_false.2 ⟨nth p k, nth_mem hk', by rw [h5]; decide⟩
        refine cw_seq (cw_region (sr rfl rfl rfl ((q_assign rfl rfl)) (sw_nil (post_then (cw_ret (post_blk_r (post_then_r (post_then_r (post_blk_r (post_then_r (post_ret1 rfl (resOk_tmp rfl) ?_)))))))))))
        exact fun w' hw => ⟨by rw [smallB, h6, Bool.and_false]; rfl, (fun w h => Cl.sel (by exact .nil _) w h) _ hw⟩
      · skip
        have h5 : smallU (nth p k) = true := by
          simp only [Bool.or_eq_false_iff, Bool.not_eq_false', decide_eq_false_iff_not] at h4
          obtain ⟨⟨⟨⟨a1, a2⟩, a3⟩, a4⟩, a5⟩ := h4
          simp only [smallU, a1, a2, a3, Bool.and_eq_true, decide_eq_true_eq, true_and]
          omega
        refine cw_skip (post_blk (post_then (cw_region (sr rfl rfl rfl ((q_move rfl rfl)) ?_))))
        refine sr rfl rfl rfl ((q_add rfl rfl rfl (by intro hc; omega))) ?_
        refine sr rfl rfl rfl ((q_assign rfl rfl)) (sw_nil ?_)
        refine post_next (k + 1) (by exact .cons rfl (.cons rfl (.cons rfl .nil))) (fun w h => Cl.sel (by exact .nil _) w h) ⟨by omega, fun j hj => ?_⟩ (by omega)
        by_cases e : j = k
        · subst e; exact h5
        · exact he j (by omega)
    · skip
      have hk' : k = p.length := by simp only [decide_eq_false_iff_not] at h3; omega
      subst hk'
      have h6 : p.all smallU = true := List.all_eq_true.2 fun u hu => by
        obtain ⟨j, hj, rfl⟩ := List.getElem_of_mem hu
        have := he j hj
        rwa [nth_get hj] at this
      refine cw_exit (post_then_x (post_then_x (post_blk_eq (post_then (cw_seq (cw_seq (cw_region (sr rfl rfl rfl ((q_assign rfl rfl)) (sw_nil (post_then (cw_block ?_)))))))))))
      refine cw_loop (S := Nat) (fun k => [(1, [], tp.v), (11, [], .int .i64 k)]) (fun _ => Cl w [] []) (fun k => k ≤ tgt.length ∧ ∀ j, j < k → smallT (nth tgt j) = true) (fun k => tgt.length - k) 0 ⟨Nat.zero_le _, fun j hj => by omega⟩ (by exact .cons rfl (.cons rfl .nil)) (fun _ h => h) ?_
      rintro k ⟨hk, he2⟩
      refine cw_seq (cw_seq (cw_region (sr rfl rfl rfl ((q_move rfl rfl)) (sr rfl rfl rfl ((q_move rfl rfl)) ?_))))
      refine sr rfl rfl rfl ((q_len rfl (.cons rfl inferInstance (.nil)) (by exact fun w hw => Stb.cl (by assumption) hw))) ?_
      refine sr rfl rfl rfl ((q_lss rfl rfl rfl)) (sw_nil (post_then ?_))
      refine cw_cond rfl (fun h4 => ?_) (fun h4 => ?_)
      · skip
        have hk' : k < tgt.length := by simp only [decide_eq_true_eq] at h4; omega
        refine cw_skip (post_then (cw_seq (cw_block (cw_seq (cw_region (sr rfl rfl rfl ((q_move rfl rfl)) (sr rfl rfl rfl ((q_move rfl rfl)) ?_)))))))
        refine sr rfl rfl rfl ((q_indexN rfl rfl rfl (by exact fun w hw => Stb.cl (by assumption) hw) (by intro hc; omega))) ?_
        refine sr rfl rfl rfl ((q_fieldEl rfl rfl (by exact fun w hw => Stb.cl (by assumption) hw) (by intro hc; omega))) ?_
        refine sr rfl rfl rfl ((q_loadF rfl rfl rfl (by exact fun w hw => Stb.cl (by assumption) hw) (by intro hc; omega) rfl)) ?_
        refine sw_step rfl rfl rfl (q_call (CanCall.mk Tryz.call62) rfl (.cons rfl inferInstance (.nil)) (fun _ w hw => callq hw (short_spec _ w))) (sr rfl rfl rfl ((q_not rfl rfl)) (sr rfl rfl rfl ((q_move rfl rfl)) (sr rfl rfl rfl ((q_move rfl rfl)) (sr rfl rfl rfl ((q_move rfl rfl)) ?_))))
        refine sr rfl rfl rfl ((q_indexN rfl rfl rfl (by exact fun w hw => Stb.cl (by assumption) hw) (by intro hc; omega))) ?_
        refine sr rfl rfl rfl ((q_fieldEl rfl rfl (by exact fun w hw => Stb.cl (by assumption) hw) (by intro hc; omega))) ?_
        refine sr rfl rfl rfl ((q_loadF rfl rfl rfl (by exact fun w hw => Stb.cl (by assumption) hw) (by intro hc; omega) rfl)) ?_
        refine sw_step rfl rfl rfl (q_call (CanCall.mk Tryz.call62) rfl (.cons rfl inferInstance (.nil)) (fun _ w hw => callq hw (short_spec _ w))) (sr rfl rfl rfl ((q_not rfl rfl)) (sr rfl rfl rfl ((q_or2 rfl rfl rfl)) (sr rfl rfl rfl ((q_move rfl rfl)) (sr rfl rfl rfl ((q_move rfl rfl)) (sr rfl rfl rfl ((q_move rfl rfl)) ?_)))))
        refine sr rfl rfl rfl ((q_indexN rfl rfl rfl (by exact fun w hw => Stb.cl (by assumption) hw) (by intro hc; omega))) ?_
        refine sr rfl rfl rfl ((q_fieldEl rfl rfl (by exact fun w hw => Stb.cl (by assumption) hw) (by intro hc; omega))) ?_
        refine sr rfl rfl rfl ((q_loadF rfl rfl rfl (by exact fun w hw => Stb.cl (by assumption) hw) (by intro hc; omega) rfl)) ?_
        refine sw_step rfl rfl rfl (q_call (CanCall.mk Tryz.call62) rfl (.cons rfl inferInstance (.nil)) (fun _ w hw => callq hw (short_spec _ w))) (sr rfl rfl rfl ((q_not rfl rfl)) (sr rfl rfl rfl ((q_or2 rfl rfl rfl)) (sw_nil (post_then ?_))))
        refine cw_cond rfl (fun h5 => ?_) (fun h5 => ?_)
        · skip
          have h7 : smallT (nth tgt k) = false := by
            simp only [Bool.or_eq_true, Bool.not_eq_true'] at h5
            simp only [smallT, Bool.and_eq_false_iff]
            exact h5
          have h8 : tgt.all smallT = false := List.all_eq_false.2 ⟨nth tgt k, nth_mem hk', by rw [h7]; decide⟩
          refine cw_seq (cw_region (sr rfl rfl rfl ((q_assign rfl rfl)) (sw_nil (post_then (cw_ret (post_blk_r (post_then_r (post_then_r (post_blk_r (post_then_r (post_ret1 rfl (resOk_tmp rfl) ?_)))))))))))
          exact fun w' hw => ⟨by rw [smallB, h8, Bool.and_false], (fun w h => Cl.sel (by exact .nil _) w h) _ hw⟩
        · skip
          have h7 : smallT (nth tgt k) = true := by
            simp only [Bool.or_eq_false_iff, Bool.not_eq_false'] at h5
            simp only [smallT, Bool.and_eq_true]
            exact h5
          refine cw_skip (post_blk (post_then (cw_region (sr rfl rfl rfl ((q_move rfl rfl)) ?_))))
          refine sr rfl rfl rfl ((q_add rfl rfl rfl (by intro hc; omega))) ?_
          refine sr rfl rfl rfl ((q_assign rfl rfl)) (sw_nil ?_)
          refine post_next (k + 1) (by exact .cons rfl (.cons rfl .nil)) (fun w h => Cl.sel (by exact .nil _) w h) ⟨by omega, fun j hj => ?_⟩ (by omega)
          by_cases e : j = k
          · subst e; exact h7
          · exact he2 j (by omega)
      · skip
        have hk' : k = tgt.length := by simp only [decide_eq_false_iff_not] at h4; omega
        subst hk'
        have h8 : tgt.all smallT = true := List.all_eq_true.2 fun u hu => by
          obtain ⟨j, hj, rfl⟩ := List.getElem_of_mem hu
          have := he2 j hj
          rwa [nth_get hj] at this
        refine cw_exit (post_then_x (post_then_x (post_blk_eq (post_then (cw_seq (cw_region (sr rfl rfl rfl ((q_assign rfl rfl)) (sw_nil (post_then (cw_ret (post_ret1 rfl (resOk_tmp rfl) ?_)))))))))))
        exact fun w' hw => ⟨by rw [smallB, h2, h6, h8]; rfl, hw⟩
theorem refAll_spec (tp : SlV) (tgt : List Wan) (w : World) (htp : Stb w [] (RdL tp.v tgt)) (hwa : ∀ t ∈ tgt, WaRd t) : Calls Tryz.prog 68 #[tp.v] w fun e w' => e = .returned (.bool (tgt.all waB)) ∧ Cl w [] [] w' := by
  have hL2 := rd_len htp.here
  refine calls_cw (vs := [_]) Tryz.func68 rfl Tryz.ntmps68 rfl (Cl.start0 w) (cw_seq (cw_region (sr rfl rfl rfl ((q_assign rfl rfl)) (sw_nil (post_then (cw_seq (cw_seq (cw_region (sr rfl rfl rfl ((q_assign rfl rfl)) (sw_nil (post_then (cw_block ?_))))))))))))
  refine cw_loop (S := Nat) (fun k => [(0, [], tp.v), (3, [], .int .i64 k)]) (fun _ => Cl w [] []) (fun k => k ≤ tgt.length ∧ ∀ j, j < k → waB (nth tgt j) = true) (fun k => tgt.length - k) 0 ⟨Nat.zero_le _, fun j hj => by omega⟩ (by exact .cons rfl (.cons rfl .nil)) (fun _ h => h) ?_
  rintro k ⟨hk, he⟩
  refine cw_seq (cw_seq (cw_region (sr rfl rfl rfl ((q_move rfl rfl)) (sr rfl rfl rfl ((q_move rfl rfl)) ?_))))
  refine sr rfl rfl rfl ((q_len rfl (.cons rfl inferInstance (.nil)) (by exact fun w hw => Stb.cl (by assumption) hw))) ?_
  refine sr rfl rfl rfl ((q_lss rfl rfl rfl)) (sw_nil (post_then ?_))
  refine cw_cond rfl (fun h => ?_) (fun h => ?_)
  · skip
    have hk' : k < tgt.length := by simp only [decide_eq_true_eq] at h; omega
    have hwk := hwa _ (nth_mem hk')
    refine cw_skip (post_then (cw_seq (cw_block (cw_seq (cw_region (sr rfl rfl rfl ((q_move rfl rfl)) (sr rfl rfl rfl ((q_move rfl rfl)) ?_)))))))
    refine sr rfl rfl rfl ((q_indexN rfl rfl rfl (by exact fun w hw => Stb.cl (by assumption) hw) (by intro hc; omega))) ?_
    refine sr rfl rfl rfl ((q_loadEl rfl rfl rfl (by exact fun w hw => Stb.cl (by assumption) hw) (by intro hc; omega))) ?_
    refine sw_step rfl rfl rfl (q_call (CanCall.mk Tryz.call47) rfl (.cons rfl inferInstance (.nil)) (fun _ w hw => callq hw (refWanted_spec (nth tgt k) w hwk))) (sr rfl rfl rfl ((q_not rfl rfl)) (sw_nil (post_then ?_)))
    refine cw_cond rfl (fun h2 => ?_) (fun h2 => ?_)
    · skip
      have h3 : tgt.all waB = false := List.all_eq_false.2 ⟨nth tgt k, nth_mem hk', by simpa using h2⟩
      refine cw_seq (cw_region (sr rfl rfl rfl ((q_assign rfl rfl)) (sw_nil (post_then (cw_ret (post_blk_r (post_then_r (post_then_r (post_blk_r (post_then_r (post_ret1 rfl (resOk_tmp rfl) ?_)))))))))))
      exact fun w' hw => ⟨by rw [h3], hw⟩
    · skip
      refine cw_skip (post_blk (post_then (cw_region (sr rfl rfl rfl ((q_move rfl rfl)) ?_))))
      refine sr rfl rfl rfl ((q_add rfl rfl rfl (by intro hc; omega))) ?_
      refine sr rfl rfl rfl ((q_assign rfl rfl)) (sw_nil ?_)
      refine post_next (k + 1) (by exact .cons rfl (.cons rfl .nil)) (fun _ h => h) ⟨by omega, fun j hj => ?_⟩ (by omega)
      by_cases e : j = k
      · subst e; simpa using h2
      · exact he j (by omega)
  · skip
    have hk' : k = tgt.length := by simp only [decide_eq_false_iff_not] at h; omega
    subst hk'
    have h3 : tgt.all waB = true := List.all_eq_true.2 fun u hu => by
      obtain ⟨j, hj, rfl⟩ := List.getElem_of_mem hu
      have := he j hj
      rwa [nth_get hj] at this
    refine cw_exit (post_then_x (post_then_x (post_blk_eq (post_then (cw_seq (cw_region (sr rfl rfl rfl ((q_assign rfl rfl)) (sw_nil (post_then (cw_ret (post_ret1 rfl (resOk_tmp rfl) ?_)))))))))))
    exact fun w' hw => ⟨by rw [h3], hw⟩
theorem wrong_spec (sp tp : SlV) (p : List Un) (tgt : List Wan) (x : Wts) (w : World) (hvo : VoRd w sp p) (htp : Stb w [] (RdL tp.v tgt)) (hwa : ∀ t ∈ tgt, WaRd t) : Calls Tryz.prog 20 #[sp.v, tp.v, val x] w fun e w' => e = .returned (.int .i64 (beginE p tgt x)) ∧ Cl w [] [] w' := by
  have h1 := hvo.l
  refine calls_cw (vs := [_, _, _]) Tryz.func20 rfl Tryz.ntmps20 rfl (Cl.start0 w) (cw_seq (cw_region ?_))
  refine sw_x rfl rfl rfl (e_box rfl rfl rfl) (fun b5 => ?_)
  refine sr rfl rfl rfl ((q_assign rfl rfl)) (sw_nil (post_then (cw_seq (cw_seq (cw_region (sr rfl rfl rfl ((q_move rfl rfl)) ?_))))))
  refine sr rfl rfl rfl ((q_len rfl (.cons rfl inferInstance (.nil)) (by exact fun w hw => Stb.cl (by assumption) hw))) ?_
  refine sr rfl rfl rfl ((q_gtr rfl rfl rfl)) (sr rfl rfl rfl ((q_move rfl rfl)) (sr rfl rfl rfl ((q_move rfl rfl)) ?_))
  refine sr rfl rfl rfl ((q_len rfl (.cons rfl inferInstance (.nil)) (by exact fun w hw => Stb.cl (by assumption) hw))) ?_
  refine sr rfl rfl rfl ((q_gtr rfl rfl rfl)) (sr rfl rfl rfl ((q_or2 rfl rfl rfl)) (sw_nil (post_then ?_)))
  refine cw_cond rfl (fun h => ?_) (fun h => ?_)
  · skip
    have h2 : 2000 < p.length ∨ 500 < tgt.length := by
      simp only [Bool.or_eq_true, decide_eq_true_eq] at h; omega
    refine cw_seq (cw_region (sr rfl rfl rfl ((q_assign rfl rfl)) (sw_nil (post_then (cw_ret (post_then_r (post_ret1 rfl (resOk_tmp rfl) ?_)))))))
    exact fun w' hw => ⟨by rw [beginE, if_pos h2], (fun w h => Cl.sel (by exact .nil _) w h) _ hw⟩
  · skip
    have h2 : ¬ (2000 < p.length ∨ 500 < tgt.length) := by
      simp only [Bool.or_eq_false_iff, decide_eq_false_iff_not] at h; omega
    refine cw_skip (post_then (cw_seq (cw_seq (cw_region (sr rfl rfl rfl ((q_move rfl rfl)) (sw_step rfl rfl rfl (q_call (CanCall.mk Tryz.call28) rfl (.cons rfl inferInstance (.nil)) (fun _ w hw => callq hw (refVoice_spec sp p w (hvo.arg hw)))) (sr rfl rfl rfl ((q_not rfl rfl)) (sr rfl rfl rfl ((q_move rfl rfl)) (sr rfl rfl rfl ((q_move rfl rfl)) (sw_step rfl rfl rfl (q_call (CanCall.mk Tryz.call68) rfl (.cons rfl inferInstance (.nil)) (fun _ w hw => callq hw (refAll_spec tp tgt w (stb_arg hw htp) hwa))) (sr rfl rfl rfl ((q_not rfl rfl)) (sr rfl rfl rfl ((q_or2 rfl rfl rfl)) (sr rfl rfl rfl ((q_move rfl rfl)) ?_)))))))))))))
    refine sr rfl rfl rfl ((q_loadA rfl rfl (by exact .head _) rfl)) ?_
    refine sw_step rfl rfl rfl (q_call (CanCall.mk Tryz.call48) rfl (.cons rfl inferInstance (.nil)) (fun _ w hw => callq hw (refWeights_spec x w))) (sr rfl rfl rfl ((q_not rfl rfl)) (sr rfl rfl rfl ((q_or2 rfl rfl rfl)) (sw_nil (post_then ?_))))
    refine cw_cond rfl (fun h3 => ?_) (fun h3 => ?_)
    · skip
      have h4 : (voiceB p && tgt.all waB && wtB x) = false := by
        simp only [Bool.or_eq_true, Bool.not_eq_true'] at h3
        simp only [Bool.and_eq_false_iff]; exact h3
      refine cw_seq (cw_region (sr rfl rfl rfl ((q_assign rfl rfl)) (sw_nil (post_then (cw_ret (post_then_r (post_ret1 rfl (resOk_tmp rfl) ?_)))))))
      exact fun w' hw => ⟨by rw [beginE, if_neg h2, h4]; rfl, (fun w h => Cl.sel (by exact .nil _) w h) _ hw⟩
    · skip
      have h4 : (voiceB p && tgt.all waB && wtB x) = true := by
        simp only [Bool.or_eq_false_iff, Bool.not_eq_false'] at h3
        simp only [Bool.and_eq_true]; exact h3
      refine cw_skip (post_then (cw_seq (cw_region (sr rfl rfl rfl ((q_assign rfl rfl)) (sw_nil (post_then (cw_ret (post_ret1 rfl (resOk_tmp rfl) ?_))))))))
      exact fun w' hw => ⟨by rw [beginE, if_neg h2, h4]; rfl, (fun w h => Cl.sel (by exact .nil _) w h) _ hw⟩
end Go.Proofs.YtomjbfeafodfbaaGreat

set_option autoImplicit false
set_option maxRecDepth 100000
namespace Go.Proofs.YtomjbfeafodfbaaGreat
open Go.Sx
open Enc (enc val)
def tgtOk (u : Un) (t : Wan) (x : Wts) : Bool := unB u && waB t && wtB x
def tgtN (u : Un) (t : Wan) (x : Wts) : Int := if tgtOk u t x = true ∧ u.phone = t.phone then fitC x u t else 0
def tgtE (u : Un) (t : Wan) (x : Wts) : Int := if tgtOk u t x = true then (if u.phone = t.phone then 0 else 5) else 2
theorem tgtOk_of {u : Un} {t : Wan} {x : Wts} (h : tgtOk u t x = true) : UnOk u ∧ WaOk t ∧ WtOk x := by
  simp only [tgtOk, Bool.and_eq_true] at h
  exact ⟨un_ok h.1.1, wa_ok h.1.2, wt_ok h.2⟩
theorem target_spec (u : Un) (t : Wan) (x : Wts) (w : World) (hu : UnRd w u) (ht : WaRd t) : Calls Tryz.prog 45 #[val u, val t, val x] w fun e w' => e = .returned (.tuple #[.int .i64 (tgtN u t x), .int .i64 (tgtE u t x)]) ∧ Cl w [] [] w' := by
  refine calls_cw (vs := [_, _, _]) Tryz.func45 rfl Tryz.ntmps45 rfl (Cl.start0 w) (cw_seq (cw_region ?_))
  refine sw_x rfl rfl rfl (e_box rfl rfl rfl) (fun b3 => ?_)
  refine sw_x rfl rfl rfl (e_box rfl rfl rfl) (fun b4 => ?_)
  refine sw_x rfl rfl rfl (e_box rfl rfl rfl) (fun b5 => ?_)
  refine sr rfl rfl rfl ((q_assign rfl rfl)) (sr rfl rfl rfl ((q_assign rfl rfl)) (sw_nil (post_then (cw_seq (cw_seq (cw_region ?_))))))
  refine sr rfl rfl rfl ((q_loadA rfl rfl (by exact .tail _ (.tail _ (.head _))) rfl)) ?_
  refine sw_step rfl rfl rfl (q_call (CanCall.mk Tryz.call87) rfl (.cons rfl inferInstance (.nil)) (fun _ w hw => callq hw (right_spec u w (UnRd.arg hw hu)))) (sr rfl rfl rfl ((q_not rfl rfl)) (sr rfl rfl rfl ((q_move rfl rfl)) ?_))
  refine sr rfl rfl rfl ((q_loadA rfl rfl (by exact .tail _ (.head _)) rfl)) ?_
  refine sw_step rfl rfl rfl (q_call (CanCall.mk Tryz.call88) rfl (.cons rfl inferInstance (.nil)) (fun _ w hw => callq hw (wanted_spec t w ht))) (sr rfl rfl rfl ((q_not rfl rfl)) (sr rfl rfl rfl ((q_or2 rfl rfl rfl)) (sr rfl rfl rfl ((q_move rfl rfl)) ?_)))
  refine sr rfl rfl rfl ((q_loadA rfl rfl (by exact .head _) rfl)) ?_
  refine sw_step rfl rfl rfl (q_call (CanCall.mk Tryz.call89) rfl (.cons rfl inferInstance (.nil)) (fun _ w hw => callq hw (weights_spec x w))) (sr rfl rfl rfl ((q_not rfl rfl)) (sr rfl rfl rfl ((q_or2 rfl rfl rfl)) (sw_nil (post_then ?_))))
  refine cw_cond rfl (fun h => ?_) (fun h => ?_)
  · skip
    have h1 : ¬ tgtOk u t x = true := by
      simp only [tgtOk, Bool.and_eq_true]
      simp only [Bool.or_eq_true, Bool.not_eq_true'] at h
      rintro ⟨⟨a1, a2⟩, a3⟩
      rw [a1, a2, a3] at h; simp at h
    refine cw_seq (cw_region (sr rfl rfl rfl ((q_assign rfl rfl)) (sr rfl rfl rfl ((q_assign rfl rfl)) (sw_nil (post_then (cw_ret (post_then_r (post_ret2 rfl (resOk_tmp rfl) (resOk_tmp rfl) ?_))))))))
    refine fun w' hw => ⟨?_, (fun w h => Cl.sel (by exact .nil _) w h) _ hw⟩
    rw [tgtN, tgtE, if_neg (fun h => h1 h.1), if_neg h1]
  · skip
    have h1 : tgtOk u t x = true := by
      simp only [tgtOk, Bool.and_eq_true]
      simp only [Bool.or_eq_false_iff, Bool.not_eq_false'] at h
      exact h
    obtain ⟨o1, o2, o3⟩ := tgtOk_of h1
    refine cw_skip (post_then (cw_seq (cw_seq (cw_region (sr rfl rfl rfl ((q_fieldAddr rfl rfl)) ?_)))))
    refine sr rfl rfl rfl ((q_loadC rfl rfl (by exact .tail _ (.tail _ (.head _))) rfl)) ?_
    refine sr rfl rfl rfl ((q_fieldAddr rfl rfl)) ?_
    refine sr rfl rfl rfl ((q_loadC rfl rfl (by exact .tail _ (.head _)) rfl)) ?_
    refine sr rfl rfl rfl ((q_neqStr rfl rfl rfl Tryz.underlying9)) (sw_nil (post_then ?_))
    refine cw_cond rfl (fun h2 => ?_) (fun h2 => ?_)
    · skip
      have h3 : ¬ u.phone = t.phone := by simpa using h2
      refine cw_seq (cw_region (sr rfl rfl rfl ((q_assign rfl rfl)) (sr rfl rfl rfl ((q_assign rfl rfl)) (sw_nil (post_then (cw_ret (post_then_r (post_ret2 rfl (resOk_tmp rfl) (resOk_tmp rfl) ?_))))))))
      refine fun w' hw => ⟨?_, (fun w h => Cl.sel (by exact .nil _) w h) _ hw⟩
      rw [tgtN, tgtE, if_neg (fun h => h3 h.2), if_pos h1, if_neg h3]
    · skip
      have h3 : u.phone = t.phone := by simpa using h2
      refine cw_skip (post_then (cw_seq (cw_region ?_)))
      refine sr rfl rfl rfl ((q_loadA rfl rfl (by exact .tail _ (.tail _ (.head _))) rfl)) ?_
      refine sr rfl rfl rfl ((q_loadA rfl rfl (by exact .tail _ (.head _)) rfl)) ?_
      refine sr rfl rfl rfl ((q_loadA rfl rfl (by exact .head _) rfl)) ?_
      refine sw_step rfl rfl rfl (q_call (CanCall.mk Tryz.call90) rfl (.cons rfl inferInstance (.cons rfl inferInstance (.cons rfl inferInstance (.nil)))) (fun _ w hw => callq hw (fitting_spec u t x w o1 o2 o3))) (sr rfl rfl rfl ((q_assign rfl rfl)) (sr rfl rfl rfl ((q_assign rfl rfl)) (sw_nil (post_then (cw_ret (post_ret2 rfl (resOk_tmp rfl) (resOk_tmp rfl) ?_))))))
      refine fun w' hw => ⟨?_, (fun w h => Cl.sel (by exact .nil _) w h) _ hw⟩
      rw [tgtN, tgtE, if_pos ⟨h1, h3⟩, if_pos h1, if_pos h3]
def joinOk (a b : Un) (x : Wts) : Bool := unB a && unB b && wtB x
def joinE (a b : Un) (x : Wts) : Int := if joinOk a b x = true ∧ eqB [a, b] = true then 0 else 2
def joinN (a b : Un) (x : Wts) : Int := if joinOk a b x = true ∧ eqB [a, b] = true then joinC x a b else 0
theorem two_vo {w0 w : World} {H : List Asn} {s : SlV} {a b : Un} {e : TypeId} (hw : Cl w0 [] H w) (hm : ownL e s.v [a, b] ∈ H) (ha : UnRd w0 a) (hb : UnRd w0 b) : VoRd w s [a, b] := by
  refine ⟨stb_own hw hm, fun u hu => ?_⟩
  simp only [List.mem_cons, List.not_mem_nil, or_false] at hu
  rcases hu with rfl | rfl
  · exact ha.arg hw
  · exact hb.arg hw
theorem join_bad (a b : Un) (x : Wts) (w : World) (ha : UnRd w a) (hb : UnRd w b) (hno : joinOk a b x = false) : Calls Tryz.prog 50 #[val a, val b, val x] w fun e w' => e = .returned (.tuple #[.int .i64 (joinN a b x), .int .i64 (joinE a b x)]) ∧ Cl w [] [] w' := by
  have h0 : ¬ (joinOk a b x = true ∧ eqB [a, b] = true) := by rw [hno]; simp
  refine calls_cw (vs := [_, _, _]) Tryz.func50 rfl Tryz.ntmps50 rfl (Cl.start0 w) (cw_seq (cw_region ?_))
  refine sw_x rfl rfl rfl (e_box rfl rfl rfl) (fun b3 => ?_)
  refine sw_x rfl rfl rfl (e_box rfl rfl rfl) (fun b4 => ?_)
  refine sw_x rfl rfl rfl (e_box rfl rfl rfl) (fun b5 => ?_)
  refine sr rfl rfl rfl ((q_assign rfl rfl)) (sr rfl rfl rfl ((q_assign rfl rfl)) (sw_nil (post_then (cw_seq (cw_seq (cw_region ?_))))))
  refine sr rfl rfl rfl ((q_loadA rfl rfl (by exact .tail _ (.tail _ (.head _))) rfl)) ?_
  refine sw_step rfl rfl rfl (q_call (CanCall.mk Tryz.call87) rfl (.cons rfl inferInstance (.nil)) (fun _ w hw => callq hw (right_spec a w (UnRd.arg hw ha)))) (sr rfl rfl rfl ((q_not rfl rfl)) (sr rfl rfl rfl ((q_move rfl rfl)) ?_))
  refine sr rfl rfl rfl ((q_loadA rfl rfl (by exact .tail _ (.head _)) rfl)) ?_
  refine sw_step rfl rfl rfl (q_call (CanCall.mk Tryz.call87) rfl (.cons rfl inferInstance (.nil)) (fun _ w hw => callq hw (right_spec b w (UnRd.arg hw hb)))) (sr rfl rfl rfl ((q_not rfl rfl)) (sr rfl rfl rfl ((q_or2 rfl rfl rfl)) (sr rfl rfl rfl ((q_move rfl rfl)) ?_)))
  refine sr rfl rfl rfl ((q_loadA rfl rfl (by exact .head _) rfl)) ?_
  refine sw_step rfl rfl rfl (q_call (CanCall.mk Tryz.call89) rfl (.cons rfl inferInstance (.nil)) (fun _ w hw => callq hw (weights_spec x w))) (sr rfl rfl rfl ((q_not rfl rfl)) (sr rfl rfl rfl ((q_or2 rfl rfl rfl)) (sr rfl rfl rfl ((q_move rfl rfl)) ?_)))
  refine sr rfl rfl rfl ((q_loadA rfl rfl (by exact .tail _ (.tail _ (.head _))) rfl)) ?_
  refine sr rfl rfl rfl ((q_loadA rfl rfl (by exact .tail _ (.head _)) rfl)) ?_
  have hg : (!unB a || !unB b || !wtB x) = true := by
    simp only [joinOk, Bool.and_eq_false_iff] at hno
    simp only [Bool.or_eq_true, Bool.not_eq_true']; exact hno
  rw [hg]
  refine sr rfl rfl rfl ((q_off (v := .slice none 0 0) (by simp [AllT]))) ?_
  refine sr rfl rfl rfl ((q_off (v := .bool false) (by simp [AllT]))) ?_
  refine sr rfl rfl rfl ((q_not rfl rfl)) (sr rfl rfl rfl ((q_or2 rfl rfl rfl)) (sw_nil (post_then ?_)))
  refine cw_cond rfl (fun h => ?_) (fun h => ?_)
  · skip
    refine cw_seq (cw_region (sr rfl rfl rfl ((q_assign rfl rfl)) (sr rfl rfl rfl ((q_assign rfl rfl)) (sw_nil (post_then (cw_ret (post_then_r (post_ret2 rfl (resOk_tmp rfl) (resOk_tmp rfl) ?_))))))))
    refine fun w' hw => ⟨?_, (fun w h => Cl.sel (by exact .nil _) w h) _ hw⟩
    rw [joinN, joinE, if_neg h0, if_neg h0]
  · skip
    simp at h
theorem join_ok (a b : Un) (x : Wts) (w : World) (ha : UnRd w a) (hb : UnRd w b) (hyes : joinOk a b x = true) : Calls Tryz.prog 50 #[val a, val b, val x] w fun e w' => e = .returned (.tuple #[.int .i64 (joinN a b x), .int .i64 (joinE a b x)]) ∧ Cl w [] [] w' := by
  simp only [joinOk, Bool.and_eq_true] at hyes
  have hyes2 : joinOk a b x = true := by simp only [joinOk, Bool.and_eq_true]; exact hyes
  obtain ⟨⟨y1, y2⟩, y3⟩ := hyes
  refine calls_cw (vs := [_, _, _]) Tryz.func50 rfl Tryz.ntmps50 rfl (Cl.start0 w) (cw_seq (cw_region ?_))
  refine sw_x rfl rfl rfl (e_box rfl rfl rfl) (fun b3 => ?_)
  refine sw_x rfl rfl rfl (e_box rfl rfl rfl) (fun b4 => ?_)
  refine sw_x rfl rfl rfl (e_box rfl rfl rfl) (fun b5 => ?_)
  refine sr rfl rfl rfl ((q_assign rfl rfl)) (sr rfl rfl rfl ((q_assign rfl rfl)) (sw_nil (post_then (cw_seq (cw_seq (cw_region ?_))))))
  refine sr rfl rfl rfl ((q_loadA rfl rfl (by exact .tail _ (.tail _ (.head _))) rfl)) ?_
  refine sw_step rfl rfl rfl (q_call (v := .bool true) (CanCall.mk Tryz.call87) rfl (.cons rfl inferInstance (.nil)) (fun _ w hw => callq hw (by have := right_spec a w (UnRd.arg hw ha); rwa [y1] at this))) ?_
  refine sr rfl rfl rfl ((q_not rfl rfl)) (sr rfl rfl rfl ((q_move rfl rfl)) ?_)
  refine sr rfl rfl rfl ((q_loadA rfl rfl (by exact .tail _ (.head _)) rfl)) ?_
  refine sw_step rfl rfl rfl (q_call (v := .bool true) (CanCall.mk Tryz.call87) rfl (.cons rfl inferInstance (.nil)) (fun _ w hw => callq hw (by have := right_spec b w (UnRd.arg hw hb); rwa [y2] at this))) ?_
  refine sr rfl rfl rfl ((q_not rfl rfl)) (sr rfl rfl rfl ((q_or2 rfl rfl rfl)) (sr rfl rfl rfl ((q_move rfl rfl)) ?_))
  refine sr rfl rfl rfl ((q_loadA rfl rfl (by exact .head _) rfl)) ?_
  refine sw_step rfl rfl rfl (q_call (v := .bool true) (CanCall.mk Tryz.call89) rfl (.cons rfl inferInstance (.nil)) (fun _ w hw => callq hw (by have := weights_spec x w; rwa [y3] at this))) ?_
  refine sr rfl rfl rfl ((q_not rfl rfl)) (sr rfl rfl rfl ((q_or2 rfl rfl rfl)) (sr rfl rfl rfl ((q_move rfl rfl)) ?_))
  refine sr rfl rfl rfl ((q_loadA rfl rfl (by exact .tail _ (.tail _ (.head _))) rfl)) ?_
  refine sr rfl rfl rfl ((q_loadA rfl rfl (by exact .tail _ (.head _)) rfl)) ?_
  refine sw_xc rfl (by first | (simp [AllT]; done) | simp [AllT, *]) rfl rfl (e_buildLc (α := Un) (l := [a, b]) rfl (.cons rfl inferInstance (.cons rfl inferInstance (.nil))) rfl rfl rfl rfl) (fun s24 => ?_)
  refine sw_step rfl rfl rfl (q_call (CanCall.mk Tryz.call93) rfl (.cons rfl inferInstance (.nil)) (fun _ w hw => callq hw (equal_spec s24 [a, b] w (two_vo hw (.head _) ha hb)))) (sr rfl rfl rfl ((q_not rfl rfl)) (sr rfl rfl rfl ((q_or2 rfl rfl rfl)) (sw_nil (post_then ?_))))
  refine cw_cond rfl (fun h => ?_) (fun h => ?_)
  · skip
    have h0 : ¬ (joinOk a b x = true ∧ eqB [a, b] = true) := by
      rintro ⟨_, h2⟩
      rw [h2] at h; simp at h
    refine cw_seq (cw_region (sr rfl rfl rfl ((q_assign rfl rfl)) (sr rfl rfl rfl ((q_assign rfl rfl)) (sw_nil (post_then (cw_ret (post_then_r (post_ret2 rfl (resOk_tmp rfl) (resOk_tmp rfl) ?_))))))))
    refine fun w' hw => ⟨?_, (fun w h => Cl.sel (by exact .nil _) w h) _ hw⟩
    rw [joinN, joinE, if_neg h0, if_neg h0]
  · skip
    have h1 : eqB [a, b] = true := by
      cases h2 : eqB [a, b]
      · rw [h2] at h; simp at h
      · rfl
    have h0 : joinOk a b x = true ∧ eqB [a, b] = true := ⟨hyes2, h1⟩
    have hab : a.el.length = b.bl.length := by
      simp only [eqB, Bool.and_eq_true, List.all_eq_true, decide_eq_true_eq] at h1
      have e1 := h1 a (by simp)
      have e2 := h1 b (by simp)
      have e0 : nth [a, b] 0 = a := rfl
      rw [e0] at e1 e2
      omega
    refine cw_skip (post_then (cw_seq (cw_region ?_)))
    refine sr rfl rfl rfl ((q_loadA rfl rfl (by exact .tail _ (.tail _ (.tail _ (.head _)))) rfl)) ?_
    refine sr rfl rfl rfl ((q_loadA rfl rfl (by exact .tail _ (.tail _ (.head _))) rfl)) ?_
    refine sr rfl rfl rfl ((q_loadA rfl rfl (by exact .tail _ (.head _)) rfl)) ?_
    refine sw_step rfl rfl rfl (q_call (CanCall.mk Tryz.call94) rfl (.cons rfl inferInstance (.cons rfl inferInstance (.cons rfl inferInstance (.nil)))) (fun _ w hw => callq hw (joining_spec a b x w (UnRd.arg hw ha) (UnRd.arg hw hb) (un_ok y1) (un_ok y2) hab (wt_ok y3)))) (sr rfl rfl rfl ((q_assign rfl rfl)) (sr rfl rfl rfl ((q_assign rfl rfl)) (sw_nil (post_then (cw_ret (post_ret2 rfl (resOk_tmp rfl) (resOk_tmp rfl) ?_))))))
    refine fun w' hw => ⟨?_, (fun w h => Cl.sel (by exact .nil _) w h) _ hw⟩
    rw [joinN, joinE, if_pos h0, if_pos h0]
theorem joinCost_spec (a b : Un) (x : Wts) (w : World) (ha : UnRd w a) (hb : UnRd w b) : Calls Tryz.prog 50 #[val a, val b, val x] w fun e w' => e = .returned (.tuple #[.int .i64 (joinN a b x), .int .i64 (joinE a b x)]) ∧ Cl w [] [] w' := by
  cases h : joinOk a b x
  · exact join_bad a b x w ha hb h
  · exact join_ok a b x w ha hb h
end Go.Proofs.YtomjbfeafodfbaaGreat

set_option autoImplicit false
set_option maxRecDepth 100000
namespace Go.Proofs.YtomjbfeafodfbaaGreat
open Go.Sx
open Enc (enc val)
theorem valid_eq (p : List Un) : decide (voiceE p = 0) = (decide ((p.length : Int) ≤ 2000) && voiceB p) := by
  unfold voiceE
  by_cases h : 2000 < p.length
  · rw [if_pos h, show decide ((p.length : Int) ≤ 2000) = false by simp; omega]; rfl
  · rw [if_neg h, show decide ((p.length : Int) ≤ 2000) = true by simp; omega]
    cases voiceB p <;> rfl
theorem unIn_arg {w0 w : World} {H : List Asn} {u : Un} (hw : Cl w0 [] H w) (h : UnIn u w0) : UnIn u w := ⟨h.s1, h.s2, h.s3, (stb_arg hw (rd_stb h.b)).here, (stb_arg hw (rd_stb h.e)).here⟩
theorem voIn_arg {w0 w : World} {H : List Asn} {sp : SlV} {p : List Un} (hw : Cl w0 [] H w) (h : VoIn w0 sp p) : VoIn w sp p := h.stb.cl hw |> fun x => x
theorem lawCosts_out (sp : SlV) (p : List Un) (a b : Un) (t : Wan) (x : Wts) (w : World) (hvo : VoIn w sp p) (ha : UnIn a w) (hb : UnIn b w) (hs : smallB p [] 10 0 = false) :
    Calls Tryz.prog 10 #[sp.v, val a, val b, val t, val x] w fun e w' => e = .returned (.bool true) ∧ Cl w [] [] w' := by
  refine calls_cw (vs := [_, _, _, _, _]) Tryz.func10 rfl Tryz.ntmps10 rfl (Cl.start0 w) (cw_seq (cw_region ?_))
  refine sw_x rfl rfl rfl (e_box rfl rfl rfl) (fun b6 => ?_)
  refine sw_x rfl rfl rfl (e_box rfl rfl rfl) (fun b7 => ?_)
  refine sw_x rfl rfl rfl (e_box rfl rfl rfl) (fun b8 => ?_)
  refine sw_x rfl rfl rfl (e_box rfl rfl rfl) (fun b9 => ?_)
  refine sr rfl rfl rfl ((q_assign rfl rfl)) (sw_nil (post_then (cw_seq (cw_seq (cw_region (sr rfl rfl rfl ((q_move rfl rfl)) ?_))))))
  refine sw_step rfl rfl rfl (q_call (v := .bool false) (CanCall.mk Tryz.call17) rfl (.cons rfl inferInstance (.cons rfl inferInstance (.cons rfl inferInstance (.cons rfl inferInstance (.nil))))) (fun _ w1 hw => callq hw (by have := small_spec sp ⟨none, 0, 0⟩ p [] 10 0 w1 (voIn_arg hw hvo) (rd_stb ⟨none, 0, 0, rfl, rfl, Nat.le_refl _, by simp [maxLen], fun i x j v hx => by simp at hx⟩); rwa [hs] at this))) ?_
  refine sr rfl rfl rfl ((q_not rfl rfl)) (sr rfl rfl rfl ((q_move rfl rfl)) ?_)
  refine sr rfl rfl rfl ((q_loadA rfl rfl (by exact .tail _ (.tail _ (.tail _ (.head _)))) rfl)) ?_
  refine sr rfl rfl rfl ((q_loadA rfl rfl (by exact .tail _ (.tail _ (.head _))) rfl)) ?_
  refine sr rfl rfl rfl ((q_off (v := .slice none 0 0) (by simp [AllT]))) ?_
  refine sr rfl rfl rfl ((q_loadA rfl rfl (by exact .tail _ (.head _)) rfl)) ?_
  refine sr rfl rfl rfl ((q_off (v := .slice none 0 0) (by simp [AllT]))) ?_
  refine sr rfl rfl rfl ((q_off (v := .bool false) (by simp [AllT]))) ?_
  refine sr rfl rfl rfl ((q_not rfl rfl)) (sr rfl rfl rfl ((q_or2 rfl rfl rfl)) (sw_nil (post_then ?_)))
  refine cw_cond rfl (fun h => ?_) (fun h => ?_)
  · skip
    refine cw_seq (cw_region (sw_step rfl rfl rfl (q_call (CanCall.mk Tryz.call18) rfl (.nil) (fun _ w hw => callq hw (known_spec w))) (sr rfl rfl rfl ((q_assign rfl rfl)) (sw_nil (post_then (cw_ret (post_then_r (post_ret1 rfl (resOk_tmp rfl) ?_))))))))
    exact fun w' hw => ⟨rfl, (fun w h => Cl.sel (by exact .nil _) w h) _ hw⟩
  · skip
    simp at h
theorem lawCosts_far (sp : SlV) (p : List Un) (a b : Un) (t : Wan) (x : Wts) (w : World) (hvo : VoIn w sp p) (ha : UnIn a w) (hb : UnIn b w) (hs : smallB p [] 10 0 = true) (hs2 : smallB [a, b] [t] 2 1 = false) :
    Calls Tryz.prog 10 #[sp.v, val a, val b, val t, val x] w fun e w' => e = .returned (.bool true) ∧ Cl w [] [] w' := by
  refine calls_cw (vs := [_, _, _, _, _]) Tryz.func10 rfl Tryz.ntmps10 rfl (Cl.start0 w) (cw_seq (cw_region ?_))
  refine sw_x rfl rfl rfl (e_box rfl rfl rfl) (fun b6 => ?_)
  refine sw_x rfl rfl rfl (e_box rfl rfl rfl) (fun b7 => ?_)
  refine sw_x rfl rfl rfl (e_box rfl rfl rfl) (fun b8 => ?_)
  refine sw_x rfl rfl rfl (e_box rfl rfl rfl) (fun b9 => ?_)
  refine sr rfl rfl rfl ((q_assign rfl rfl)) (sw_nil (post_then (cw_seq (cw_seq (cw_region (sr rfl rfl rfl ((q_move rfl rfl)) ?_))))))
  refine sw_step rfl rfl rfl (q_call (v := .bool true) (CanCall.mk Tryz.call17) rfl (.cons rfl inferInstance (.cons rfl inferInstance (.cons rfl inferInstance (.cons rfl inferInstance (.nil))))) (fun _ w1 hw => callq hw (by have := small_spec sp ⟨none, 0, 0⟩ p [] 10 0 w1 (voIn_arg hw hvo) (rd_stb ⟨none, 0, 0, rfl, rfl, Nat.le_refl _, by simp [maxLen], fun i x j v hx => by simp at hx⟩); rwa [hs] at this))) ?_
  refine sr rfl rfl rfl ((q_not rfl rfl)) (sr rfl rfl rfl ((q_move rfl rfl)) ?_)
  refine sr rfl rfl rfl ((q_loadA rfl rfl (by exact .tail _ (.tail _ (.tail _ (.head _)))) rfl)) ?_
  refine sr rfl rfl rfl ((q_loadA rfl rfl (by exact .tail _ (.tail _ (.head _))) rfl)) ?_
  refine sw_xc rfl (by first | (simp [AllT]; done) | simp [AllT, *]) rfl rfl (e_buildLc (α := Un) (l := [a, b]) rfl (.cons rfl inferInstance (.cons rfl inferInstance (.nil))) rfl rfl rfl rfl) (fun s21 => ?_)
  refine sr rfl rfl rfl ((q_loadA rfl rfl (by exact .tail _ (.tail _ (.head _))) rfl)) ?_
  refine sw_xc rfl (by first | (simp [AllT]; done) | simp [AllT, *]) rfl rfl (e_buildLc (α := Wan) (l := [t]) rfl (.cons rfl inferInstance (.nil)) rfl rfl rfl rfl) (fun s23 => ?_)
  refine sw_step rfl rfl rfl (q_call (v := .bool false) (CanCall.mk Tryz.call17) rfl (.cons rfl inferInstance (.cons rfl inferInstance (.cons rfl inferInstance (.cons rfl inferInstance (.nil))))) (fun _ w1 hw => callq hw (by have := small_spec s21 s23 [a, b] [t] 2 1 w1 ⟨rd_own (e := 49) hw (by exact .tail _ (.head _)), fun u hu => by simp only [List.mem_cons, List.not_mem_nil, or_false] at hu; rcases hu with rfl | rfl; exact unIn_arg hw ha; exact unIn_arg hw hb⟩ (stb_own (e := 51) hw (by exact .head _)); rwa [hs2] at this))) ?_
  refine sr rfl rfl rfl ((q_not rfl rfl)) (sr rfl rfl rfl ((q_or2 rfl rfl rfl)) (sw_nil (post_then ?_)))
  refine cw_cond rfl (fun h => ?_) (fun h => ?_)
  · skip
    refine cw_seq (cw_region (sw_step rfl rfl rfl (q_call (CanCall.mk Tryz.call18) rfl (.nil) (fun _ w hw => callq hw (known_spec w))) (sr rfl rfl rfl ((q_assign rfl rfl)) (sw_nil (post_then (cw_ret (post_then_r (post_ret1 rfl (resOk_tmp rfl) ?_))))))))
    exact fun w' hw => ⟨rfl, (fun w h => Cl.sel (by exact .nil _) w h) _ hw⟩
  · skip
    simp at h
theorem lawCosts_in (sp : SlV) (p : List Un) (a b : Un) (t : Wan) (x : Wts) (w : World) (hvo : VoIn w sp p) (ha : UnIn a w) (hb : UnIn b w) (hs : smallB p [] 10 0 = true) (hs2 : smallB [a, b] [t] 2 1 = true) :
    Calls Tryz.prog 10 #[sp.v, val a, val b, val t, val x] w fun e w' => e = .returned (.bool true) ∧ Cl w [] [] w' := by
  have hvr : VoRd w sp p := small_vo hvo hs
  have hp1 := hvr.l
  have hL := rd_len hvo.l
  have hu2 : UnRd w a ∧ UnRd w b := by
    simp only [smallB, Bool.and_eq_true] at hs2
    have h1 := List.all_eq_true.1 hs2.1.2 a (by simp)
    have h2 := List.all_eq_true.1 hs2.1.2 b (by simp)
    simp only [smallU, shortB, Bool.and_eq_true, decide_eq_true_eq] at h1 h2
    exact ⟨⟨by omega, by omega, by omega, rd_stb ha.b, rd_stb ha.e⟩, ⟨by omega, by omega, by omega, rd_stb hb.b, rd_stb hb.e⟩⟩
  obtain ⟨hra, hrb⟩ := hu2
  have hrt : WaRd t := small_ta hs2 t (by simp)
  refine calls_cw (vs := [_, _, _, _, _]) Tryz.func10 rfl Tryz.ntmps10 rfl (Cl.start0 w) (cw_seq (cw_region ?_))
  refine sw_x rfl rfl rfl (e_box rfl rfl rfl) (fun b6 => ?_)
  refine sw_x rfl rfl rfl (e_box rfl rfl rfl) (fun b7 => ?_)
  refine sw_x rfl rfl rfl (e_box rfl rfl rfl) (fun b8 => ?_)
  refine sw_x rfl rfl rfl (e_box rfl rfl rfl) (fun b9 => ?_)
  refine sr rfl rfl rfl ((q_assign rfl rfl)) (sw_nil (post_then (cw_seq (cw_seq (cw_region (sr rfl rfl rfl ((q_move rfl rfl)) ?_))))))
  refine sw_step rfl rfl rfl (q_call (v := .bool true) (CanCall.mk Tryz.call17) rfl (.cons rfl inferInstance (.cons rfl inferInstance (.cons rfl inferInstance (.cons rfl inferInstance (.nil))))) (fun _ w1 hw => callq hw (by have := small_spec sp ⟨none, 0, 0⟩ p [] 10 0 w1 (voIn_arg hw hvo) (rd_stb ⟨none, 0, 0, rfl, rfl, Nat.le_refl _, by simp [maxLen], fun i x j v hx => by simp at hx⟩); rwa [hs] at this))) ?_
  refine sr rfl rfl rfl ((q_not rfl rfl)) (sr rfl rfl rfl ((q_move rfl rfl)) ?_)
  refine sr rfl rfl rfl ((q_loadA rfl rfl (by exact .tail _ (.tail _ (.tail _ (.head _)))) rfl)) ?_
  refine sr rfl rfl rfl ((q_loadA rfl rfl (by exact .tail _ (.tail _ (.head _))) rfl)) ?_
  refine sw_xc rfl (by first | (simp [AllT]; done) | simp [AllT, *]) rfl rfl (e_buildLc (α := Un) (l := [a, b]) rfl (.cons rfl inferInstance (.cons rfl inferInstance (.nil))) rfl rfl rfl rfl) (fun s21 => ?_)
  refine sr rfl rfl rfl ((q_loadA rfl rfl (by exact .tail _ (.tail _ (.head _))) rfl)) ?_
  refine sw_xc rfl (by first | (simp [AllT]; done) | simp [AllT, *]) rfl rfl (e_buildLc (α := Wan) (l := [t]) rfl (.cons rfl inferInstance (.nil)) rfl rfl rfl rfl) (fun s23 => ?_)
  refine sw_step rfl rfl rfl (q_call (v := .bool true) (CanCall.mk Tryz.call17) rfl (.cons rfl inferInstance (.cons rfl inferInstance (.cons rfl inferInstance (.cons rfl inferInstance (.nil))))) (fun _ w1 hw => callq hw (by have := small_spec s21 s23 [a, b] [t] 2 1 w1 ⟨rd_own (e := 49) hw (by exact .tail _ (.head _)), fun u hu => by simp only [List.mem_cons, List.not_mem_nil, or_false] at hu; rcases hu with rfl | rfl; exact unIn_arg hw ha; exact unIn_arg hw hb⟩ (stb_own (e := 51) hw (by exact .head _)); rwa [hs2] at this))) ?_
  refine sr rfl rfl rfl ((q_not rfl rfl)) (sr rfl rfl rfl ((q_or2 rfl rfl rfl)) (sw_nil (post_then ?_)))
  refine cw_cond rfl (fun h => ?_) (fun h => ?_)
  · skip
    simp at h
  · skip
    clear h
    refine cw_skip (post_then (cw_seq (cw_seq (cw_region (sr rfl rfl rfl ((q_move rfl rfl)) (sw_step rfl rfl rfl (q_call (CanCall.mk Tryz.call44) rfl (.cons rfl inferInstance (.nil)) (fun _ w hw => callq hw (valid_spec sp p w (hvr.arg hw)))) (sr rfl rfl rfl ((q_move rfl rfl)) ?_)))))))
    refine sr rfl rfl rfl ((q_len rfl (.cons rfl inferInstance (.nil)) (by exact fun w hw => Stb.cl (by assumption) hw))) ?_
    refine sr rfl rfl rfl ((q_leq rfl rfl rfl)) (sr rfl rfl rfl ((q_move rfl rfl)) (sr rfl rfl rfl ((q_move rfl rfl)) (sw_step rfl rfl rfl (q_call (CanCall.mk Tryz.call28) rfl (.cons rfl inferInstance (.nil)) (fun _ w hw => callq hw (refVoice_spec sp p w (hvr.arg hw)))) (sr rfl rfl rfl ((q_and2 rfl rfl rfl)) (sr rfl rfl rfl ((q_neq_b rfl rfl rfl Tryz.underlying4)) (sw_nil (post_then ?_)))))))
    rw [← valid_eq]
    refine cw_cond rfl (fun h => ?_) (fun h => ?_)
    · skip
      simp at h
    · skip
      clear h
      refine cw_skip (post_then (cw_seq (cw_region ?_)))
      refine sr rfl rfl rfl ((q_loadA rfl rfl (by exact .tail _ (.tail _ (.tail _ (.tail _ (.tail _ (.head _)))))) rfl)) ?_
      refine sr rfl rfl rfl ((q_loadA rfl rfl (by exact .tail _ (.tail _ (.tail _ (.head _)))) rfl)) ?_
      refine sr rfl rfl rfl ((q_loadA rfl rfl (by exact .tail _ (.tail _ (.head _))) rfl)) ?_
      refine sw_step rfl rfl rfl (q_call (CanCall.mk Tryz.call45) rfl (.cons rfl inferInstance (.cons rfl inferInstance (.cons rfl inferInstance (.nil)))) (fun _ w hw => callq hw (target_spec a t x w (hra.arg hw) hrt))) (sr rfl rfl rfl ((q_move rfl rfl)) (sr rfl rfl rfl ((q_extract rfl rfl rfl)) (sr rfl rfl rfl ((q_extract rfl rfl rfl)) (sr rfl rfl rfl ((q_assign rfl rfl)) (sr rfl rfl rfl ((q_assign rfl rfl)) (sw_nil (post_then (cw_seq (cw_block (cw_seq (cw_region ?_)))))))))))
      refine sr rfl rfl rfl ((q_loadA rfl rfl (by exact .tail _ (.tail _ (.tail _ (.tail _ (.tail _ (.head _)))))) rfl)) ?_
      refine sw_step rfl rfl rfl (q_call (CanCall.mk Tryz.call46) rfl (.cons rfl inferInstance (.nil)) (fun _ w hw => callq hw (refUnit_spec a w (hra.arg hw)))) (sr rfl rfl rfl ((q_not rfl rfl)) (sr rfl rfl rfl ((q_move rfl rfl)) ?_))
      refine sr rfl rfl rfl ((q_loadA rfl rfl (by exact .tail _ (.tail _ (.tail _ (.head _)))) rfl)) ?_
      refine sw_step rfl rfl rfl (q_call (CanCall.mk Tryz.call47) rfl (.cons rfl inferInstance (.nil)) (fun _ w hw => callq hw (refWanted_spec t w hrt))) (sr rfl rfl rfl ((q_not rfl rfl)) (sr rfl rfl rfl ((q_or2 rfl rfl rfl)) (sr rfl rfl rfl ((q_move rfl rfl)) ?_)))
      refine sr rfl rfl rfl ((q_loadA rfl rfl (by exact .tail _ (.tail _ (.head _))) rfl)) ?_
      refine sw_step rfl rfl rfl (q_call (CanCall.mk Tryz.call48) rfl (.cons rfl inferInstance (.nil)) (fun _ w hw => callq hw (refWeights_spec x w))) (sr rfl rfl rfl ((q_not rfl rfl)) (sr rfl rfl rfl ((q_or2 rfl rfl rfl)) (sr rfl rfl rfl ((q_assign rfl rfl)) (sw_nil (post_then ?_)))))
      have htk : (!unB a || !waB t || !wtB x) = !tgtOk a t x := by simp only [tgtOk, Bool.not_and]
      rw [htk]
      refine cw_cut (S := Unit) (fun _ => [(6, [], .pointer (some ⟨b6, 0, none⟩)), (7, [], .pointer (some ⟨b7, 0, none⟩)), (9, [], .pointer (some ⟨b9, 0, none⟩))]) (fun _ => Cl w [] [blk b9 (enc x) 25, blk b7 (enc b) 49, blk b6 (enc a) 49]) (fun _ => True) ?_ ?_
      · refine cw_cond rfl (fun h => ?_) (fun h => ?_)
        · skip
          have h1 : ¬ tgtOk a t x = true := by rw [Bool.not_eq_true'] at h; rw [h]; simp
          have e1 : tgtN a t x = 0 := by rw [tgtN, if_neg (fun h => h1 h.1)]
          have e2 : tgtE a t x = 2 := by rw [tgtE, if_neg h1]
          rw [e1, e2]
          refine cw_seq (cw_region (sr rfl rfl rfl ((q_move rfl rfl)) (sr rfl rfl rfl ((q_neq rfl rfl rfl)) (sr rfl rfl rfl ((q_move rfl rfl)) (sr rfl rfl rfl ((q_move rfl rfl)) (sr rfl rfl rfl ((q_neq rfl rfl rfl)) (sr rfl rfl rfl ((q_or2 rfl rfl rfl)) (sw_nil (post_then ?_)))))))))
          refine cw_cond rfl (fun h2 => ?_) (fun h2 => ?_)
          · skip
            simp at h2
          · skip
            refine cw_skip ?_
            exact post_meet () (by exact .cons rfl (.cons rfl (.cons rfl .nil))) (fun w h => Cl.sel (by exact .take 2 rfl (.take 3 rfl (.take 3 rfl (.nil _)))) w h) trivial
        · skip
          have h1 : tgtOk a t x = true := by rw [Bool.not_eq_false'] at h; exact h
          obtain ⟨o1, o2, o3⟩ := tgtOk_of h1
          refine cw_seq (cw_region (sr rfl rfl rfl ((q_fieldAddr rfl rfl)) ?_))
          refine sr rfl rfl rfl ((q_loadC rfl rfl (by exact .tail _ (.tail _ (.tail _ (.tail _ (.tail _ (.head _)))))) rfl)) ?_
          refine sr rfl rfl rfl ((q_fieldAddr rfl rfl)) ?_
          refine sr rfl rfl rfl ((q_loadC rfl rfl (by exact .tail _ (.tail _ (.tail _ (.head _)))) rfl)) ?_
          refine sr rfl rfl rfl ((q_neqStr rfl rfl rfl Tryz.underlying9)) (sr rfl rfl rfl ((q_assign rfl rfl)) (sw_nil (post_then ?_)))
          refine cw_cond rfl (fun h2 => ?_) (fun h2 => ?_)
          · skip
            have h3 : ¬ a.phone = t.phone := by simpa using h2
            have e1 : tgtN a t x = 0 := by rw [tgtN, if_neg (fun h => h3 h.2)]
            have e2 : tgtE a t x = 5 := by rw [tgtE, if_pos h1, if_neg h3]
            rw [e1, e2]
            refine cw_seq (cw_region (sr rfl rfl rfl ((q_move rfl rfl)) (sr rfl rfl rfl ((q_neq rfl rfl rfl)) (sr rfl rfl rfl ((q_move rfl rfl)) (sr rfl rfl rfl ((q_move rfl rfl)) (sr rfl rfl rfl ((q_neq rfl rfl rfl)) (sr rfl rfl rfl ((q_or2 rfl rfl rfl)) (sw_nil (post_then ?_)))))))))
            refine cw_cond rfl (fun h4 => ?_) (fun h4 => ?_)
            · skip
              simp at h4
            · skip
              refine cw_skip ?_
              exact post_meet () (by exact .cons rfl (.cons rfl (.cons rfl .nil))) (fun w h => Cl.sel (by exact .take 2 rfl (.take 3 rfl (.take 3 rfl (.nil _)))) w h) trivial
          · skip
            have h3 : a.phone = t.phone := by simpa using h2
            have e1 : tgtN a t x = fitC x a t := by rw [tgtN, if_pos ⟨h1, h3⟩]
            have e2 : tgtE a t x = 0 := by rw [tgtE, if_pos h1, if_pos h3]
            rw [e1, e2]
            refine cw_seq (cw_region (sr rfl rfl rfl ((q_move rfl rfl)) (sr rfl rfl rfl ((q_neq rfl rfl rfl)) (sr rfl rfl rfl ((q_move rfl rfl)) (sr rfl rfl rfl ((q_move rfl rfl)) ?_)))))
            refine sr rfl rfl rfl ((q_loadA rfl rfl (by exact .tail _ (.tail _ (.tail _ (.tail _ (.tail _ (.head _)))))) rfl)) ?_
            refine sr rfl rfl rfl ((q_loadA rfl rfl (by exact .tail _ (.tail _ (.tail _ (.head _)))) rfl)) ?_
            refine sr rfl rfl rfl ((q_loadA rfl rfl (by exact .tail _ (.tail _ (.head _))) rfl)) ?_
            refine sw_step rfl rfl rfl (q_call (CanCall.mk Tryz.call49) rfl (.cons rfl inferInstance (.cons rfl inferInstance (.cons rfl inferInstance (.nil)))) (fun _ w hw => callq hw (refTarget_spec a t x w o1 o2 o3))) (sr rfl rfl rfl ((q_neq rfl rfl rfl)) (sr rfl rfl rfl ((q_or2 rfl rfl rfl)) (sr rfl rfl rfl ((q_assign rfl rfl)) (sw_nil (post_then ?_)))))
            refine cw_cond rfl (fun h4 => ?_) (fun h4 => ?_)
            · skip
              simp at h4
            · skip
              refine cw_skip ?_
              exact post_meet () (by exact .cons rfl (.cons rfl (.cons rfl .nil))) (fun w h => Cl.sel (by exact .take 2 rfl (.take 3 rfl (.take 3 rfl (.nil _)))) w h) trivial
      · intro _ _
        refine post_blk (post_then (cw_seq (cw_region ?_)))
        refine sr rfl rfl rfl ((q_loadA rfl rfl (by exact .tail _ (.tail _ (.head _))) rfl)) ?_
        refine sr rfl rfl rfl ((q_loadA rfl rfl (by exact .tail _ (.head _)) rfl)) ?_
        refine sr rfl rfl rfl ((q_loadA rfl rfl (by exact .head _) rfl)) ?_
        refine sw_step rfl rfl rfl (q_call (CanCall.mk Tryz.call50) rfl (.cons rfl inferInstance (.cons rfl inferInstance (.cons rfl inferInstance (.nil)))) (fun _ w hw => callq hw (joinCost_spec a b x w (hra.arg hw) (hrb.arg hw)))) (sr rfl rfl rfl ((q_move rfl rfl)) (sr rfl rfl rfl ((q_extract rfl rfl rfl)) (sr rfl rfl rfl ((q_extract rfl rfl rfl)) (sr rfl rfl rfl ((q_assign rfl rfl)) (sr rfl rfl rfl ((q_assign rfl rfl)) (sw_nil (post_then (cw_seq (cw_seq (cw_region ?_))))))))))
        refine sr rfl rfl rfl ((q_loadA rfl rfl (by exact .tail _ (.tail _ (.head _))) rfl)) ?_
        refine sr rfl rfl rfl ((q_loadA rfl rfl (by exact .tail _ (.head _)) rfl)) ?_
        refine sw_x rfl rfl rfl (e_buildL (α := Un) (l := [a, b]) rfl (.cons rfl inferInstance (.cons rfl inferInstance (.nil))) rfl rfl rfl rfl) (fun s97 => ?_)
        refine sw_step rfl rfl rfl (q_call (CanCall.mk Tryz.call28) rfl (.cons rfl inferInstance (.nil)) (fun _ w hw => callq hw (refVoice_spec s97 [a, b] w (two_vo hw (.head _) hra hrb)))) (sr rfl rfl rfl ((q_not rfl rfl)) (sr rfl rfl rfl ((q_move rfl rfl)) ?_))
        refine sr rfl rfl rfl ((q_loadA rfl rfl (by exact .tail _ (.head _)) rfl)) ?_
        refine sw_step rfl rfl rfl (q_call (CanCall.mk Tryz.call48) rfl (.cons rfl inferInstance (.nil)) (fun _ w hw => callq hw (refWeights_spec x w))) (sr rfl rfl rfl ((q_not rfl rfl)) (sr rfl rfl rfl ((q_or2 rfl rfl rfl)) (sw_nil (post_then ?_))))
        have hvb : (!voiceB [a, b] || !wtB x) = !(joinOk a b x && eqB [a, b]) := by
          simp only [voiceB, joinOk, List.all_cons, List.all_nil, Bool.and_true, List.length_cons, List.length_nil]
          cases unB a <;> cases unB b <;> cases wtB x <;> cases eqB [a, b] <;> rfl
        rw [hvb]
        refine cw_cond rfl (fun h => ?_) (fun h => ?_)
        · skip
          have h1 : ¬ (joinOk a b x = true ∧ eqB [a, b] = true) := by
            rw [Bool.not_eq_true', Bool.and_eq_false_iff] at h
            rintro ⟨a1, a2⟩
            rw [a1, a2] at h; simp at h
          have e1 : joinN a b x = 0 := by rw [joinN, if_neg h1]
          have e2 : joinE a b x = 2 := by rw [joinE, if_neg h1]
          rw [e1, e2]
          refine cw_seq (cw_region (sr rfl rfl rfl ((q_move rfl rfl)) (sr rfl rfl rfl ((q_eql rfl rfl rfl)) (sr rfl rfl rfl ((q_move rfl rfl)) (sr rfl rfl rfl ((q_move rfl rfl)) (sr rfl rfl rfl ((q_eql rfl rfl rfl)) (sr rfl rfl rfl ((q_and2 rfl rfl rfl)) (sr rfl rfl rfl ((q_move rfl rfl)) (sw_step rfl rfl rfl (q_call (CanCall.mk Tryz.call18) rfl (.nil) (fun _ w hw => callq hw (known_spec w))) (sr rfl rfl rfl ((q_and2 rfl rfl rfl)) (sr rfl rfl rfl ((q_assign rfl rfl)) (sw_nil (post_then (cw_ret (post_then_r (post_ret1 rfl (resOk_tmp rfl) ?_))))))))))))))))
          exact fun w' hw => ⟨rfl, (fun w h => Cl.sel (by exact .nil _) w h) _ hw⟩
        · skip
          have h1 : joinOk a b x = true ∧ eqB [a, b] = true := by
            rw [Bool.not_eq_false', Bool.and_eq_true] at h; exact h
          have e1 : joinN a b x = joinC x a b := by rw [joinN, if_pos h1]
          have e2 : joinE a b x = 0 := by rw [joinE, if_pos h1]
          rw [e1, e2]
          obtain ⟨h2, h3⟩ := h1
          simp only [joinOk, Bool.and_eq_true] at h2
          obtain ⟨⟨y1, y2⟩, y3⟩ := h2
          have hab : a.el.length = b.bl.length := by
            simp only [eqB, Bool.and_eq_true, List.all_eq_true, decide_eq_true_eq] at h3
            have e1 := h3 a (by simp)
            have e2 := h3 b (by simp)
            have e0 : nth [a, b] 0 = a := rfl
            rw [e0] at e1 e2
            omega
          refine cw_skip (post_then (cw_seq (cw_region (sr rfl rfl rfl ((q_move rfl rfl)) (sr rfl rfl rfl ((q_eql rfl rfl rfl)) (sr rfl rfl rfl ((q_move rfl rfl)) (sr rfl rfl rfl ((q_move rfl rfl)) ?_)))))))
          refine sr rfl rfl rfl ((q_loadA rfl rfl (by exact .tail _ (.tail _ (.tail _ (.head _)))) rfl)) ?_
          refine sr rfl rfl rfl ((q_loadA rfl rfl (by exact .tail _ (.tail _ (.head _))) rfl)) ?_
          refine sr rfl rfl rfl ((q_loadA rfl rfl (by exact .tail _ (.head _)) rfl)) ?_
          refine sw_step rfl rfl rfl (q_call (CanCall.mk Tryz.call51) rfl (.cons rfl inferInstance (.cons rfl inferInstance (.cons rfl inferInstance (.nil)))) (fun _ w hw => callq hw (refJoin_spec a b x w (UnRd.arg hw hra) (UnRd.arg hw hrb) (un_ok y1) (un_ok y2) hab (wt_ok y3)))) (sr rfl rfl rfl ((q_eql rfl rfl rfl)) (sr rfl rfl rfl ((q_and2 rfl rfl rfl)) (sr rfl rfl rfl ((q_move rfl rfl)) (sw_step rfl rfl rfl (q_call (CanCall.mk Tryz.call18) rfl (.nil) (fun _ w hw => callq hw (known_spec w))) (sr rfl rfl rfl ((q_and2 rfl rfl rfl)) (sr rfl rfl rfl ((q_assign rfl rfl)) (sw_nil (post_then (cw_ret (post_ret1 rfl (resOk_tmp rfl) ?_))))))))))
          exact fun w' hw => ⟨by simp, (fun w h => Cl.sel (by exact .nil _) w h) _ hw⟩
theorem lawCosts (sp : SlV) (p : List Un) (a b : Un) (t : Wan) (x : Wts) (w : World) (hvo : VoIn w sp p) (ha : UnIn a w) (hb : UnIn b w) :
    Calls Tryz.prog 10 #[sp.v, val a, val b, val t, val x] w fun e w' => e = .returned (.bool true) ∧ Cl w [] [] w' := by
  cases h1 : smallB p [] 10 0
  · exact lawCosts_out sp p a b t x w hvo ha hb h1
  · cases h2 : smallB [a, b] [t] 2 1
    · exact lawCosts_far sp p a b t x w hvo ha hb h1 h2
    · exact lawCosts_in sp p a b t x w hvo ha hb h1 h2
end Go.Proofs.YtomjbfeafodfbaaGreat

set_option autoImplicit false
namespace Go.Proofs.YtomjbfeafodfbaaGreat
open Go.Sx
theorem vo_in {W : World} {s : SlV} {l : List Un} (h : Stb W [] (rdSl dUn.rd s l)) : VoIn W s l := by
  obtain ⟨ls, h1, h2, h3⟩ := h.here
  have e : ls = l := List.ext_getElem h2 fun i hi hj => (h3 i _ _ (List.getElem?_eq_getElem hi) (List.getElem?_eq_getElem hj)).1
  subst e
  refine ⟨h1, fun u hu => ?_⟩
  obtain ⟨i, hi, rfl⟩ := List.getElem_of_mem hu
  exact (h3 i _ _ (List.getElem?_eq_getElem hi) (List.getElem?_eq_getElem hi)).2
end Go.Proofs.YtomjbfeafodfbaaGreat
