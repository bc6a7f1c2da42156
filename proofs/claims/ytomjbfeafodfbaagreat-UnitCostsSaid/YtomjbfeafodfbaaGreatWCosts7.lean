import Derived.Test.YtomjbfeafodfbaaGreatWCosts6

set_option autoImplicit false
set_option linter.unusedSimpArgs false
set_option linter.unusedVariables false
set_option maxRecDepth 100000
namespace Go.Proofs.YtomjbfeafodfbaaGreat
open Go.Sx
open Enc (enc val)
theorem valid_eq (p : List Un) : decide (voiceE p = 0) = (decide ((p.length : Int) ≤ 2000) && voiceB p) := by
  unfold voiceE
  by_cases h : 2000 < p.length
  · rw [if_pos h, show decide ((p.length : Int) ≤ 2000) = false by simp; omega]; rfl
  · rw [if_neg h, show decide ((p.length : Int) ≤ 2000) = true by simp; omega]
    cases voiceB p <;> rfl
theorem unIn_arg {w0 w : World} {H : List Asn} {u : Un} (hw : Cl w0 [] H w) (h : UnIn u w0) : UnIn u w := ⟨h.s1, h.s2, h.s3, (stb_arg hw (rd_stb h.b)).here, (stb_arg hw (rd_stb h.e)).here⟩
theorem voIn_arg {w0 w : World} {H : List Asn} {sp : SlV} {p : List Un} (hw : Cl w0 [] H w) (h : VoIn w0 sp p) : VoIn w sp p := h.stb.cl hw |> fun x => x
theorem lawCosts_out (sp : SlV) (p : List Un) (a b : Un) (t : Wan) (x : Wts) (w : World) (hvo : VoIn w sp p) (ha : UnIn a w) (hb : UnIn b w) (hs : smallB p [] 10 0 = false) :
    Calls Tryz.prog 10 #[sp.v, val a, val b, val t, val x] w fun e w' => e = .returned (.bool true) ∧ Cl w [] [] w' := by
  refine calls_cw (vs := [_, _, _, _, _]) Tryz.func10 rfl Tryz.ntmps10 rfl (Cl.start0 w) (cw_seq (cw_region ?_))
  refine sw_x rfl rfl rfl (e_box rfl rfl rfl) (fun b6 => ?_)
  refine sw_x rfl rfl rfl (e_box rfl rfl rfl) (fun b7 => ?_)
  refine sw_x rfl rfl rfl (e_box rfl rfl rfl) (fun b8 => ?_)
  refine sw_x rfl rfl rfl (e_box rfl rfl rfl) (fun b9 => ?_)
  refine sr rfl rfl rfl ((q_assign rfl rfl)) (sw_nil (post_then (cw_seq (cw_seq (cw_region (sr rfl rfl rfl ((q_move rfl rfl)) ?_))))))
  refine sw_step rfl rfl rfl (q_call (v := .bool false) (CanCall.mk Tryz.call17) rfl (.cons rfl inferInstance (.cons rfl inferInstance (.cons rfl inferInstance (.cons rfl inferInstance (.nil))))) (fun _ w1 hw => callq hw (by have := small_spec sp ⟨none, 0, 0⟩ p [] 10 0 w1 (voIn_arg hw hvo) (rd_stb ⟨none, 0, 0, rfl, rfl, Nat.le_refl _, by simp [maxLen], fun i x j v hx => by simp at hx⟩); rwa [hs] at this))) ?_
  refine sr rfl rfl rfl ((q_not rfl rfl)) (sr rfl rfl rfl ((q_move rfl rfl)) ?_)
  refine sr rfl rfl rfl ((q_loadA rfl rfl (by exact .tail _ (.tail _ (.tail _ (.head _)))) rfl)) ?_
  refine sr rfl rfl rfl ((q_loadA rfl rfl (by exact .tail _ (.tail _ (.head _))) rfl)) ?_
  refine sr rfl rfl rfl ((q_off (v := .slice none 0 0) (by simp [AllT]))) ?_
  refine sr rfl rfl rfl ((q_loadA rfl rfl (by exact .tail _ (.head _)) rfl)) ?_
  refine sr rfl rfl rfl ((q_off (v := .slice none 0 0) (by simp [AllT]))) ?_
  refine sr rfl rfl rfl ((q_off (v := .bool false) (by simp [AllT]))) ?_
  refine sr rfl rfl rfl ((q_not rfl rfl)) (sr rfl rfl rfl ((q_or2 rfl rfl rfl)) (sw_nil (post_then ?_)))
  refine cw_cond rfl (fun h => ?_) (fun h => ?_)
  · skip
    refine cw_seq (cw_region (sw_step rfl rfl rfl (q_call (CanCall.mk Tryz.call18) rfl (.nil) (fun _ w hw => callq hw (known_spec w))) (sr rfl rfl rfl ((q_assign rfl rfl)) (sw_nil (post_then (cw_ret (post_then_r (post_ret1 rfl (resOk_tmp rfl) ?_))))))))
    exact fun w' hw => ⟨rfl, (fun w h => Cl.sel (by exact .nil _) w h) _ hw⟩
  · skip
    simp at h
theorem lawCosts_far (sp : SlV) (p : List Un) (a b : Un) (t : Wan) (x : Wts) (w : World) (hvo : VoIn w sp p) (ha : UnIn a w) (hb : UnIn b w) (hs : smallB p [] 10 0 = true) (hs2 : smallB [a, b] [t] 2 1 = false) :
    Calls Tryz.prog 10 #[sp.v, val a, val b, val t, val x] w fun e w' => e = .returned (.bool true) ∧ Cl w [] [] w' := by
  refine calls_cw (vs := [_, _, _, _, _]) Tryz.func10 rfl Tryz.ntmps10 rfl (Cl.start0 w) (cw_seq (cw_region ?_))
  refine sw_x rfl rfl rfl (e_box rfl rfl rfl) (fun b6 => ?_)
  refine sw_x rfl rfl rfl (e_box rfl rfl rfl) (fun b7 => ?_)
  refine sw_x rfl rfl rfl (e_box rfl rfl rfl) (fun b8 => ?_)
  refine sw_x rfl rfl rfl (e_box rfl rfl rfl) (fun b9 => ?_)
  refine sr rfl rfl rfl ((q_assign rfl rfl)) (sw_nil (post_then (cw_seq (cw_seq (cw_region (sr rfl rfl rfl ((q_move rfl rfl)) ?_))))))
  refine sw_step rfl rfl rfl (q_call (v := .bool true) (CanCall.mk Tryz.call17) rfl (.cons rfl inferInstance (.cons rfl inferInstance (.cons rfl inferInstance (.cons rfl inferInstance (.nil))))) (fun _ w1 hw => callq hw (by have := small_spec sp ⟨none, 0, 0⟩ p [] 10 0 w1 (voIn_arg hw hvo) (rd_stb ⟨none, 0, 0, rfl, rfl, Nat.le_refl _, by simp [maxLen], fun i x j v hx => by simp at hx⟩); rwa [hs] at this))) ?_
  refine sr rfl rfl rfl ((q_not rfl rfl)) (sr rfl rfl rfl ((q_move rfl rfl)) ?_)
  refine sr rfl rfl rfl ((q_loadA rfl rfl (by exact .tail _ (.tail _ (.tail _ (.head _)))) rfl)) ?_
  refine sr rfl rfl rfl ((q_loadA rfl rfl (by exact .tail _ (.tail _ (.head _))) rfl)) ?_
  refine sw_xc rfl (by first | (simp [AllT]; done) | simp [AllT, *]) rfl rfl (e_buildLc (α := Un) (l := [a, b]) rfl (.cons rfl inferInstance (.cons rfl inferInstance (.nil))) rfl rfl rfl rfl) (fun s21 => ?_)
  refine sr rfl rfl rfl ((q_loadA rfl rfl (by exact .tail _ (.tail _ (.head _))) rfl)) ?_
  refine sw_xc rfl (by first | (simp [AllT]; done) | simp [AllT, *]) rfl rfl (e_buildLc (α := Wan) (l := [t]) rfl (.cons rfl inferInstance (.nil)) rfl rfl rfl rfl) (fun s23 => ?_)
  refine sw_step rfl rfl rfl (q_call (v := .bool false) (CanCall.mk Tryz.call17) rfl (.cons rfl inferInstance (.cons rfl inferInstance (.cons rfl inferInstance (.cons rfl inferInstance (.nil))))) (fun _ w1 hw => callq hw (by have := small_spec s21 s23 [a, b] [t] 2 1 w1 ⟨rd_own (e := 49) hw (by exact .tail _ (.head _)), fun u hu => by simp only [List.mem_cons, List.not_mem_nil, or_false] at hu; rcases hu with rfl | rfl; exact unIn_arg hw ha; exact unIn_arg hw hb⟩ (stb_own (e := 51) hw (by exact .head _)); rwa [hs2] at this))) ?_
  refine sr rfl rfl rfl ((q_not rfl rfl)) (sr rfl rfl rfl ((q_or2 rfl rfl rfl)) (sw_nil (post_then ?_)))
  refine cw_cond rfl (fun h => ?_) (fun h => ?_)
  · skip
    refine cw_seq (cw_region (sw_step rfl rfl rfl (q_call (CanCall.mk Tryz.call18) rfl (.nil) (fun _ w hw => callq hw (known_spec w))) (sr rfl rfl rfl ((q_assign rfl rfl)) (sw_nil (post_then (cw_ret (post_then_r (post_ret1 rfl (resOk_tmp rfl) ?_))))))))
    exact fun w' hw => ⟨rfl, (fun w h => Cl.sel (by exact .nil _) w h) _ hw⟩
  · skip
    simp at h
theorem lawCosts_in (sp : SlV) (p : List Un) (a b : Un) (t : Wan) (x : Wts) (w : World) (hvo : VoIn w sp p) (ha : UnIn a w) (hb : UnIn b w) (hs : smallB p [] 10 0 = true) (hs2 : smallB [a, b] [t] 2 1 = true) :
    Calls Tryz.prog 10 #[sp.v, val a, val b, val t, val x] w fun e w' => e = .returned (.bool true) ∧ Cl w [] [] w' := by
  have hvr : VoRd w sp p := small_vo hvo hs
  have hp1 := hvr.l
  have hL := rd_len hvo.l
  have hu2 : UnRd w a ∧ UnRd w b := by
    simp only [smallB, Bool.and_eq_true] at hs2
    have h1 := List.all_eq_true.1 hs2.1.2 a (by simp)
    have h2 := List.all_eq_true.1 hs2.1.2 b (by simp)
    simp only [smallU, shortB, Bool.and_eq_true, decide_eq_true_eq] at h1 h2
    exact ⟨⟨by omega, by omega, by omega, rd_stb ha.b, rd_stb ha.e⟩, ⟨by omega, by omega, by omega, rd_stb hb.b, rd_stb hb.e⟩⟩
  obtain ⟨hra, hrb⟩ := hu2
  have hrt : WaRd t := small_ta hs2 t (by simp)
  refine calls_cw (vs := [_, _, _, _, _]) Tryz.func10 rfl Tryz.ntmps10 rfl (Cl.start0 w) (cw_seq (cw_region ?_))
  refine sw_x rfl rfl rfl (e_box rfl rfl rfl) (fun b6 => ?_)
  refine sw_x rfl rfl rfl (e_box rfl rfl rfl) (fun b7 => ?_)
  refine sw_x rfl rfl rfl (e_box rfl rfl rfl) (fun b8 => ?_)
  refine sw_x rfl rfl rfl (e_box rfl rfl rfl) (fun b9 => ?_)
  refine sr rfl rfl rfl ((q_assign rfl rfl)) (sw_nil (post_then (cw_seq (cw_seq (cw_region (sr rfl rfl rfl ((q_move rfl rfl)) ?_))))))
  refine sw_step rfl rfl rfl (q_call (v := .bool true) (CanCall.mk Tryz.call17) rfl (.cons rfl inferInstance (.cons rfl inferInstance (.cons rfl inferInstance (.cons rfl inferInstance (.nil))))) (fun _ w1 hw => callq hw (by have := small_spec sp ⟨none, 0, 0⟩ p [] 10 0 w1 (voIn_arg hw hvo) (rd_stb ⟨none, 0, 0, rfl, rfl, Nat.le_refl _, by simp [maxLen], fun i x j v hx => by simp at hx⟩); rwa [hs] at this))) ?_
  refine sr rfl rfl rfl ((q_not rfl rfl)) (sr rfl rfl rfl ((q_move rfl rfl)) ?_)
  refine sr rfl rfl rfl ((q_loadA rfl rfl (by exact .tail _ (.tail _ (.tail _ (.head _)))) rfl)) ?_
  refine sr rfl rfl rfl ((q_loadA rfl rfl (by exact .tail _ (.tail _ (.head _))) rfl)) ?_
  refine sw_xc rfl (by first | (simp [AllT]; done) | simp [AllT, *]) rfl rfl (e_buildLc (α := Un) (l := [a, b]) rfl (.cons rfl inferInstance (.cons rfl inferInstance (.nil))) rfl rfl rfl rfl) (fun s21 => ?_)
  refine sr rfl rfl rfl ((q_loadA rfl rfl (by exact .tail _ (.tail _ (.head _))) rfl)) ?_
  refine sw_xc rfl (by first | (simp [AllT]; done) | simp [AllT, *]) rfl rfl (e_buildLc (α := Wan) (l := [t]) rfl (.cons rfl inferInstance (.nil)) rfl rfl rfl rfl) (fun s23 => ?_)
  refine sw_step rfl rfl rfl (q_call (v := .bool true) (CanCall.mk Tryz.call17) rfl (.cons rfl inferInstance (.cons rfl inferInstance (.cons rfl inferInstance (.cons rfl inferInstance (.nil))))) (fun _ w1 hw => callq hw (by have := small_spec s21 s23 [a, b] [t] 2 1 w1 ⟨rd_own (e := 49) hw (by exact .tail _ (.head _)), fun u hu => by simp only [List.mem_cons, List.not_mem_nil, or_false] at hu; rcases hu with rfl | rfl; exact unIn_arg hw ha; exact unIn_arg hw hb⟩ (stb_own (e := 51) hw (by exact .head _)); rwa [hs2] at this))) ?_
  refine sr rfl rfl rfl ((q_not rfl rfl)) (sr rfl rfl rfl ((q_or2 rfl rfl rfl)) (sw_nil (post_then ?_)))
  refine cw_cond rfl (fun h => ?_) (fun h => ?_)
  · skip
    simp at h
  · skip
    clear h
    refine cw_skip (post_then (cw_seq (cw_seq (cw_region (sr rfl rfl rfl ((q_move rfl rfl)) (sw_step rfl rfl rfl (q_call (CanCall.mk Tryz.call44) rfl (.cons rfl inferInstance (.nil)) (fun _ w hw => callq hw (valid_spec sp p w (hvr.arg hw)))) (sr rfl rfl rfl ((q_move rfl rfl)) ?_)))))))
    refine sr rfl rfl rfl ((q_len rfl (.cons rfl inferInstance (.nil)) (by exact fun w hw => Stb.cl (by assumption) hw))) ?_
    refine sr rfl rfl rfl ((q_leq rfl rfl rfl)) (sr rfl rfl rfl ((q_move rfl rfl)) (sr rfl rfl rfl ((q_move rfl rfl)) (sw_step rfl rfl rfl (q_call (CanCall.mk Tryz.call28) rfl (.cons rfl inferInstance (.nil)) (fun _ w hw => callq hw (refVoice_spec sp p w (hvr.arg hw)))) (sr rfl rfl rfl ((q_and2 rfl rfl rfl)) (sr rfl rfl rfl ((q_neq_b rfl rfl rfl Tryz.underlying4)) (sw_nil (post_then ?_)))))))
    rw [← valid_eq]
    refine cw_cond rfl (fun h => ?_) (fun h => ?_)
    · skip
      simp at h
    · skip
      clear h
      refine cw_skip (post_then (cw_seq (cw_region ?_)))
      refine sr rfl rfl rfl ((q_loadA rfl rfl (by exact .tail _ (.tail _ (.tail _ (.tail _ (.tail _ (.head _)))))) rfl)) ?_
      refine sr rfl rfl rfl ((q_loadA rfl rfl (by exact .tail _ (.tail _ (.tail _ (.head _)))) rfl)) ?_
      refine sr rfl rfl rfl ((q_loadA rfl rfl (by exact .tail _ (.tail _ (.head _))) rfl)) ?_
      refine sw_step rfl rfl rfl (q_call (CanCall.mk Tryz.call45) rfl (.cons rfl inferInstance (.cons rfl inferInstance (.cons rfl inferInstance (.nil)))) (fun _ w hw => callq hw (target_spec a t x w (hra.arg hw) hrt))) (sr rfl rfl rfl ((q_move rfl rfl)) (sr rfl rfl rfl ((q_extract rfl rfl rfl)) (sr rfl rfl rfl ((q_extract rfl rfl rfl)) (sr rfl rfl rfl ((q_assign rfl rfl)) (sr rfl rfl rfl ((q_assign rfl rfl)) (sw_nil (post_then (cw_seq (cw_block (cw_seq (cw_region ?_)))))))))))
      refine sr rfl rfl rfl ((q_loadA rfl rfl (by exact .tail _ (.tail _ (.tail _ (.tail _ (.tail _ (.head _)))))) rfl)) ?_
      refine sw_step rfl rfl rfl (q_call (CanCall.mk Tryz.call46) rfl (.cons rfl inferInstance (.nil)) (fun _ w hw => callq hw (refUnit_spec a w (hra.arg hw)))) (sr rfl rfl rfl ((q_not rfl rfl)) (sr rfl rfl rfl ((q_move rfl rfl)) ?_))
      refine sr rfl rfl rfl ((q_loadA rfl rfl (by exact .tail _ (.tail _ (.tail _ (.head _)))) rfl)) ?_
      refine sw_step rfl rfl rfl (q_call (CanCall.mk Tryz.call47) rfl (.cons rfl inferInstance (.nil)) (fun _ w hw => callq hw (refWanted_spec t w hrt))) (sr rfl rfl rfl ((q_not rfl rfl)) (sr rfl rfl rfl ((q_or2 rfl rfl rfl)) (sr rfl rfl rfl ((q_move rfl rfl)) ?_)))
      refine sr rfl rfl rfl ((q_loadA rfl rfl (by exact .tail _ (.tail _ (.head _))) rfl)) ?_
      refine sw_step rfl rfl rfl (q_call (CanCall.mk Tryz.call48) rfl (.cons rfl inferInstance (.nil)) (fun _ w hw => callq hw (refWeights_spec x w))) (sr rfl rfl rfl ((q_not rfl rfl)) (sr rfl rfl rfl ((q_or2 rfl rfl rfl)) (sr rfl rfl rfl ((q_assign rfl rfl)) (sw_nil (post_then ?_)))))
      have htk : (!unB a || !waB t || !wtB x) = !tgtOk a t x := by simp only [tgtOk, Bool.not_and]
      rw [htk]
      refine cw_cut (S := Unit) (fun _ => [(6, [], .pointer (some ⟨b6, 0, none⟩)), (7, [], .pointer (some ⟨b7, 0, none⟩)), (9, [], .pointer (some ⟨b9, 0, none⟩))]) (fun _ => Cl w [] [blk b9 (enc x) 25, blk b7 (enc b) 49, blk b6 (enc a) 49]) (fun _ => True) ?_ ?_
      · refine cw_cond rfl (fun h => ?_) (fun h => ?_)
        · skip
          have h1 : ¬ tgtOk a t x = true := by rw [Bool.not_eq_true'] at h; rw [h]; simp
          have e1 : tgtN a t x = 0 := by rw [tgtN, if_neg (fun h => h1 h.1)]
          have e2 : tgtE a t x = 2 := by rw [tgtE, if_neg h1]
          rw [e1, e2]
          refine cw_seq (cw_region (sr rfl rfl rfl ((q_move rfl rfl)) (sr rfl rfl rfl ((q_neq rfl rfl rfl)) (sr rfl rfl rfl ((q_move rfl rfl)) (sr rfl rfl rfl ((q_move rfl rfl)) (sr rfl rfl rfl ((q_neq rfl rfl rfl)) (sr rfl rfl rfl ((q_or2 rfl rfl rfl)) (sw_nil (post_then ?_)))))))))
          refine cw_cond rfl (fun h2 => ?_) (fun h2 => ?_)
          · skip
            simp at h2
          · skip
            refine cw_skip ?_
            exact post_meet () (by exact .cons rfl (.cons rfl (.cons rfl .nil))) (fun w h => Cl.sel (by exact .take 2 rfl (.take 3 rfl (.take 3 rfl (.nil _)))) w h) trivial
        · skip
          have h1 : tgtOk a t x = true := by rw [Bool.not_eq_false'] at h; exact h
          obtain ⟨o1, o2, o3⟩ := tgtOk_of h1
          refine cw_seq (cw_region (sr rfl rfl rfl ((q_fieldAddr rfl rfl)) ?_))
          refine sr rfl rfl rfl ((q_loadC rfl rfl (by exact .tail _ (.tail _ (.tail _ (.tail _ (.tail _ (.head _)))))) rfl)) ?_
          refine sr rfl rfl rfl ((q_fieldAddr rfl rfl)) ?_
          refine sr rfl rfl rfl ((q_loadC rfl rfl (by exact .tail _ (.tail _ (.tail _ (.head _)))) rfl)) ?_
          refine sr rfl rfl rfl ((q_neqStr rfl rfl rfl Tryz.underlying9)) (sr rfl rfl rfl ((q_assign rfl rfl)) (sw_nil (post_then ?_)))
          refine cw_cond rfl (fun h2 => ?_) (fun h2 => ?_)
          · skip
            have h3 : ¬ a.phone = t.phone := by simpa using h2
            have e1 : tgtN a t x = 0 := by rw [tgtN, if_neg (fun h => h3 h.2)]
            have e2 : tgtE a t x = 5 := by rw [tgtE, if_pos h1, if_neg h3]
            rw [e1, e2]
            refine cw_seq (cw_region (sr rfl rfl rfl ((q_move rfl rfl)) (sr rfl rfl rfl ((q_neq rfl rfl rfl)) (sr rfl rfl rfl ((q_move rfl rfl)) (sr rfl rfl rfl ((q_move rfl rfl)) (sr rfl rfl rfl ((q_neq rfl rfl rfl)) (sr rfl rfl rfl ((q_or2 rfl rfl rfl)) (sw_nil (post_then ?_)))))))))
            refine cw_cond rfl (fun h4 => ?_) (fun h4 => ?_)
            · skip
              simp at h4
            · skip
              refine cw_skip ?_
              exact post_meet () (by exact .cons rfl (.cons rfl (.cons rfl .nil))) (fun w h => Cl.sel (by exact .take 2 rfl (.take 3 rfl (.take 3 rfl (.nil _)))) w h) trivial
          · skip
            have h3 : a.phone = t.phone := by simpa using h2
            have e1 : tgtN a t x = fitC x a t := by rw [tgtN, if_pos ⟨h1, h3⟩]
            have e2 : tgtE a t x = 0 := by rw [tgtE, if_pos h1, if_pos h3]
            rw [e1, e2]
            refine cw_seq (cw_region (sr rfl rfl rfl ((q_move rfl rfl)) (sr rfl rfl rfl ((q_neq rfl rfl rfl)) (sr rfl rfl rfl ((q_move rfl rfl)) (sr rfl rfl rfl ((q_move rfl rfl)) ?_)))))
            refine sr rfl rfl rfl ((q_loadA rfl rfl (by exact .tail _ (.tail _ (.tail _ (.tail _ (.tail _ (.head _)))))) rfl)) ?_
            refine sr rfl rfl rfl ((q_loadA rfl rfl (by exact .tail _ (.tail _ (.tail _ (.head _)))) rfl)) ?_
            refine sr rfl rfl rfl ((q_loadA rfl rfl (by exact .tail _ (.tail _ (.head _))) rfl)) ?_
            refine sw_step rfl rfl rfl (q_call (CanCall.mk Tryz.call49) rfl (.cons rfl inferInstance (.cons rfl inferInstance (.cons rfl inferInstance (.nil)))) (fun _ w hw => callq hw (refTarget_spec a t x w o1 o2 o3))) (sr rfl rfl rfl ((q_neq rfl rfl rfl)) (sr rfl rfl rfl ((q_or2 rfl rfl rfl)) (sr rfl rfl rfl ((q_assign rfl rfl)) (sw_nil (post_then ?_)))))
            refine cw_cond rfl (fun h4 => ?_) (fun h4 => ?_)
            · skip
              simp at h4
            · skip
              refine cw_skip ?_
              exact post_meet () (by exact .cons rfl (.cons rfl (.cons rfl .nil))) (fun w h => Cl.sel (by exact .take 2 rfl (.take 3 rfl (.take 3 rfl (.nil _)))) w h) trivial
      · intro _ _
        refine post_blk (post_then (cw_seq (cw_region ?_)))
        refine sr rfl rfl rfl ((q_loadA rfl rfl (by exact .tail _ (.tail _ (.head _))) rfl)) ?_
        refine sr rfl rfl rfl ((q_loadA rfl rfl (by exact .tail _ (.head _)) rfl)) ?_
        refine sr rfl rfl rfl ((q_loadA rfl rfl (by exact .head _) rfl)) ?_
        refine sw_step rfl rfl rfl (q_call (CanCall.mk Tryz.call50) rfl (.cons rfl inferInstance (.cons rfl inferInstance (.cons rfl inferInstance (.nil)))) (fun _ w hw => callq hw (joinCost_spec a b x w (hra.arg hw) (hrb.arg hw)))) (sr rfl rfl rfl ((q_move rfl rfl)) (sr rfl rfl rfl ((q_extract rfl rfl rfl)) (sr rfl rfl rfl ((q_extract rfl rfl rfl)) (sr rfl rfl rfl ((q_assign rfl rfl)) (sr rfl rfl rfl ((q_assign rfl rfl)) (sw_nil (post_then (cw_seq (cw_seq (cw_region ?_))))))))))
        refine sr rfl rfl rfl ((q_loadA rfl rfl (by exact .tail _ (.tail _ (.head _))) rfl)) ?_
        refine sr rfl rfl rfl ((q_loadA rfl rfl (by exact .tail _ (.head _)) rfl)) ?_
        refine sw_x rfl rfl rfl (e_buildL (α := Un) (l := [a, b]) rfl (.cons rfl inferInstance (.cons rfl inferInstance (.nil))) rfl rfl rfl rfl) (fun s97 => ?_)
        refine sw_step rfl rfl rfl (q_call (CanCall.mk Tryz.call28) rfl (.cons rfl inferInstance (.nil)) (fun _ w hw => callq hw (refVoice_spec s97 [a, b] w (two_vo hw (.head _) hra hrb)))) (sr rfl rfl rfl ((q_not rfl rfl)) (sr rfl rfl rfl ((q_move rfl rfl)) ?_))
        refine sr rfl rfl rfl ((q_loadA rfl rfl (by exact .tail _ (.head _)) rfl)) ?_
        refine sw_step rfl rfl rfl (q_call (CanCall.mk Tryz.call48) rfl (.cons rfl inferInstance (.nil)) (fun _ w hw => callq hw (refWeights_spec x w))) (sr rfl rfl rfl ((q_not rfl rfl)) (sr rfl rfl rfl ((q_or2 rfl rfl rfl)) (sw_nil (post_then ?_))))
        have hvb : (!voiceB [a, b] || !wtB x) = !(joinOk a b x && eqB [a, b]) := by
          simp only [voiceB, joinOk, List.all_cons, List.all_nil, Bool.and_true, List.length_cons, List.length_nil]
          cases unB a <;> cases unB b <;> cases wtB x <;> cases eqB [a, b] <;> rfl
        rw [hvb]
        refine cw_cond rfl (fun h => ?_) (fun h => ?_)
        · skip
          have h1 : ¬ (joinOk a b x = true ∧ eqB [a, b] = true) := by
            rw [Bool.not_eq_true', Bool.and_eq_false_iff] at h
            rintro ⟨a1, a2⟩
            rw [a1, a2] at h; simp at h
          have e1 : joinN a b x = 0 := by rw [joinN, if_neg h1]
          have e2 : joinE a b x = 2 := by rw [joinE, if_neg h1]
          rw [e1, e2]
          refine cw_seq (cw_region (sr rfl rfl rfl ((q_move rfl rfl)) (sr rfl rfl rfl ((q_eql rfl rfl rfl)) (sr rfl rfl rfl ((q_move rfl rfl)) (sr rfl rfl rfl ((q_move rfl rfl)) (sr rfl rfl rfl ((q_eql rfl rfl rfl)) (sr rfl rfl rfl ((q_and2 rfl rfl rfl)) (sr rfl rfl rfl ((q_move rfl rfl)) (sw_step rfl rfl rfl (q_call (CanCall.mk Tryz.call18) rfl (.nil) (fun _ w hw => callq hw (known_spec w))) (sr rfl rfl rfl ((q_and2 rfl rfl rfl)) (sr rfl rfl rfl ((q_assign rfl rfl)) (sw_nil (post_then (cw_ret (post_then_r (post_ret1 rfl (resOk_tmp rfl) ?_))))))))))))))))
          exact fun w' hw => ⟨rfl, (fun w h => Cl.sel (by exact .nil _) w h) _ hw⟩
        · skip
          have h1 : joinOk a b x = true ∧ eqB [a, b] = true := by
            rw [Bool.not_eq_false', Bool.and_eq_true] at h; exact h
          have e1 : joinN a b x = joinC x a b := by rw [joinN, if_pos h1]
          have e2 : joinE a b x = 0 := by rw [joinE, if_pos h1]
          rw [e1, e2]
          obtain ⟨h2, h3⟩ := h1
          simp only [joinOk, Bool.and_eq_true] at h2
          obtain ⟨⟨y1, y2⟩, y3⟩ := h2
          have hab : a.el.length = b.bl.length := by
            simp only [eqB, Bool.and_eq_true, List.all_eq_true, decide_eq_true_eq] at h3
            have e1 := h3 a (by simp)
            have e2 := h3 b (by simp)
            have e0 : nth [a, b] 0 = a := rfl
            rw [e0] at e1 e2
            omega
          refine cw_skip (post_then (cw_seq (cw_region (sr rfl rfl rfl ((q_move rfl rfl)) (sr rfl rfl rfl ((q_eql rfl rfl rfl)) (sr rfl rfl rfl ((q_move rfl rfl)) (sr rfl rfl rfl ((q_move rfl rfl)) ?_)))))))
          refine sr rfl rfl rfl ((q_loadA rfl rfl (by exact .tail _ (.tail _ (.tail _ (.head _)))) rfl)) ?_
          refine sr rfl rfl rfl ((q_loadA rfl rfl (by exact .tail _ (.tail _ (.head _))) rfl)) ?_
          refine sr rfl rfl rfl ((q_loadA rfl rfl (by exact .tail _ (.head _)) rfl)) ?_
          refine sw_step rfl rfl rfl (q_call (CanCall.mk Tryz.call51) rfl (.cons rfl inferInstance (.cons rfl inferInstance (.cons rfl inferInstance (.nil)))) (fun _ w hw => callq hw (refJoin_spec a b x w (UnRd.arg hw hra) (UnRd.arg hw hrb) (un_ok y1) (un_ok y2) hab (wt_ok y3)))) (sr rfl rfl rfl ((q_eql rfl rfl rfl)) (sr rfl rfl rfl ((q_and2 rfl rfl rfl)) (sr rfl rfl rfl ((q_move rfl rfl)) (sw_step rfl rfl rfl (q_call (CanCall.mk Tryz.call18) rfl (.nil) (fun _ w hw => callq hw (known_spec w))) (sr rfl rfl rfl ((q_and2 rfl rfl rfl)) (sr rfl rfl rfl ((q_assign rfl rfl)) (sw_nil (post_then (cw_ret (post_ret1 rfl (resOk_tmp rfl) ?_))))))))))
          exact fun w' hw => ⟨by simp, (fun w h => Cl.sel (by exact .nil _) w h) _ hw⟩
theorem lawCosts (sp : SlV) (p : List Un) (a b : Un) (t : Wan) (x : Wts) (w : World) (hvo : VoIn w sp p) (ha : UnIn a w) (hb : UnIn b w) :
    Calls Tryz.prog 10 #[sp.v, val a, val b, val t, val x] w fun e w' => e = .returned (.bool true) ∧ Cl w [] [] w' := by
  cases h1 : smallB p [] 10 0
  · exact lawCosts_out sp p a b t x w hvo ha hb h1
  · cases h2 : smallB [a, b] [t] 2 1
    · exact lawCosts_far sp p a b t x w hvo ha hb h1 h2
    · exact lawCosts_in sp p a b t x w hvo ha hb h1 h2
end Go.Proofs.YtomjbfeafodfbaaGreat

set_option autoImplicit false
namespace Go.Proofs.YtomjbfeafodfbaaGreat
open Go.Sx
theorem vo_in {W : World} {s : SlV} {l : List Un} (h : Stb W [] (rdSl dUn.rd s l)) : VoIn W s l := by
  obtain ⟨ls, h1, h2, h3⟩ := h.here
  have e : ls = l := List.ext_getElem h2 fun i hi hj => (h3 i _ _ (List.getElem?_eq_getElem hi) (List.getElem?_eq_getElem hj)).1
  subst e
  refine ⟨h1, fun u hu => ?_⟩
  obtain ⟨i, hi, rfl⟩ := List.getElem_of_mem hu
  exact (h3 i _ _ (List.getElem?_eq_getElem hi) (List.getElem?_eq_getElem hi)).2
end Go.Proofs.YtomjbfeafodfbaaGreat
