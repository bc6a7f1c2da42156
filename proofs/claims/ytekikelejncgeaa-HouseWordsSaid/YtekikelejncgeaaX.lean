import Derived.Test.YtekikelejncgeaaW
set_option autoImplicit false
set_option linter.unusedSimpArgs false
set_option linter.unusedVariables false
set_option maxRecDepth 100000
namespace Go.Proofs.Ytekikelejncgeaa
open Go.Sx
open Enc (enc val)

/-! ### HouseChips, HouseWords -/
def wordOk (m : Stamp) (msg : Int) : Bool := rightS m && okMsg m msg
theorem inB_msg {m : Stamp} {msg : Int} (hm : rightS m = true) : inB msg 0 (IntKind.i64.wrap (1 * 2 ^ m.bits.toNat) - 1) = okMsg m msg := by
  have hb := rightS_bd hm
  rw [wrap_pow (by omega), inB, okMsg]
  congr 1
  rw [decide_eq_decide]
  omega
theorem houseWord_spec (m : Stamp) (msg : Int) (w : World) :
    Calls Try.prog 34 #[val m, .int .i64 msg] w fun e w' => ∃ s : SlV, e = .returned (.tuple #[s.v, .int .i64 (if wordOk m msg then 0 else 2)]) ∧ True ∧ Cl w [] [ownL 4 s.v (if wordOk m msg then wordL m msg else [])] w' := by
  refine calls_cw (vs := [_, _]) Try.func34 rfl Try.ntmps34 rfl (Cl.start0 w) ?_
  cases hm : rightS m with
  | false =>
    have h1 : wordOk m msg = false := by simp [wordOk, hm]
    refine cw_seq ?_
    -- region 0
    refine cw_region ?_
    refine sw_x rfl rfl rfl (e_box rfl rfl rfl) (fun b2 => ?_)
    refine sw_step rfl rfl rfl (OpR.q (q_assign rfl rfl)) ?_
    refine sw_step rfl rfl rfl (OpR.q (q_assign rfl rfl)) ?_
    refine sw_nil ?_
    refine post_then ?_
    refine cw_seq ?_
    refine cw_seq ?_
    -- region 1
    refine cw_region ?_
    first | refine sw_step rfl rfl rfl (OpR.q (q_loadC rfl rfl (by first | assumption | (repeat first | exact .head _ | apply List.Mem.tail)) rfl)) ?_ | refine sw_step rfl rfl rfl (OpR.q (q_loadA rfl rfl (by first | assumption | (repeat first | exact .head _ | apply List.Mem.tail)) rfl)) ?_ | refine sw_step rfl rfl rfl (OpR.q (q_loadEl rfl rfl rfl (by first | exact fun w hw => Stb.cl (by assumption) hw | exact fun w hw => rd_own hw (by first | assumption | (repeat first | exact .head _ | apply List.Mem.tail)) | assumption) (by intro hc; first | omega | (simp only [List.length_set, List.length_append, List.length_cons, List.length_nil, List.length_replicate, List.length_take, List.length_drop, List.length_map]; omega) | (simp only [AllT.iff, List.all_cons, List.all_nil, id, Bool.and_eq_true, Bool.not_eq_true', decide_eq_true_eq, decide_eq_false_iff_not, and_true] at hc; first | omega | (simp only [List.length_set, List.length_append, List.length_cons, List.length_nil, List.length_replicate, List.length_take, List.length_drop, List.length_map]; omega)) | (exfalso; simp_all [AllT]; done)))) ?_ | refine sw_step rfl rfl rfl (OpR.q (q_loadF rfl rfl rfl (by first | exact fun w hw => Stb.cl (by assumption) hw | exact fun w hw => rd_own hw (by first | assumption | (repeat first | exact .head _ | apply List.Mem.tail)) | assumption) (by intro hc; first | omega | (simp only [List.length_set, List.length_append, List.length_cons, List.length_nil, List.length_replicate, List.length_take, List.length_drop, List.length_map]; omega) | (simp only [AllT.iff, List.all_cons, List.all_nil, id, Bool.and_eq_true, Bool.not_eq_true', decide_eq_true_eq, decide_eq_false_iff_not, and_true] at hc; first | omega | (simp only [List.length_set, List.length_append, List.length_cons, List.length_nil, List.length_replicate, List.length_take, List.length_drop, List.length_map]; omega)) | (exfalso; simp_all [AllT]; done)) rfl)) ?_ | refine sw_step rfl rfl rfl (OpR.q (q_loadS rfl rfl (fun w hw => Stb.cl (by assumption) hw) rfl)) ?_
    refine sw_step rfl rfl rfl (q_call (CanCall.mk Try.call68) rfl (.cons rfl inferInstance (.nil)) (fun _ w hw => callq hw (right_spec _ w))) ?_
    refine sw_step rfl rfl rfl (OpR.q (q_not rfl rfl)) ?_
    refine sw_step rfl rfl rfl (OpR.q (q_move rfl rfl)) ?_
    refine sw_step rfl rfl rfl (OpR.q (q_move rfl rfl)) ?_
    first | refine sw_step rfl rfl rfl (OpR.q (q_fieldAddr rfl rfl)) ?_ | refine sw_step rfl rfl rfl (OpR.q (q_fieldEl rfl rfl (by first | exact fun w hw => Stb.cl (by assumption) hw | exact fun w hw => rd_own hw (by first | assumption | (repeat first | exact .head _ | apply List.Mem.tail)) | assumption) (by intro hc; first | omega | (simp only [List.length_set, List.length_append, List.length_cons, List.length_nil, List.length_replicate, List.length_take, List.length_drop, List.length_map]; omega) | (simp only [AllT.iff, List.all_cons, List.all_nil, id, Bool.and_eq_true, Bool.not_eq_true', decide_eq_true_eq, decide_eq_false_iff_not, and_true] at hc; first | omega | (simp only [List.length_set, List.length_append, List.length_cons, List.length_nil, List.length_replicate, List.length_take, List.length_drop, List.length_map]; omega)) | (exfalso; simp_all [AllT]; done)))) ?_
    first | refine sw_step rfl rfl rfl (OpR.q (q_loadC rfl rfl (by first | assumption | (repeat first | exact .head _ | apply List.Mem.tail)) rfl)) ?_ | refine sw_step rfl rfl rfl (OpR.q (q_loadA rfl rfl (by first | assumption | (repeat first | exact .head _ | apply List.Mem.tail)) rfl)) ?_ | refine sw_step rfl rfl rfl (OpR.q (q_loadEl rfl rfl rfl (by first | exact fun w hw => Stb.cl (by assumption) hw | exact fun w hw => rd_own hw (by first | assumption | (repeat first | exact .head _ | apply List.Mem.tail)) | assumption) (by intro hc; first | omega | (simp only [List.length_set, List.length_append, List.length_cons, List.length_nil, List.length_replicate, List.length_take, List.length_drop, List.length_map]; omega) | (simp only [AllT.iff, List.all_cons, List.all_nil, id, Bool.and_eq_true, Bool.not_eq_true', decide_eq_true_eq, decide_eq_false_iff_not, and_true] at hc; first | omega | (simp only [List.length_set, List.length_append, List.length_cons, List.length_nil, List.length_replicate, List.length_take, List.length_drop, List.length_map]; omega)) | (exfalso; simp_all [AllT]; done)))) ?_ | refine sw_step rfl rfl rfl (OpR.q (q_loadF rfl rfl rfl (by first | exact fun w hw => Stb.cl (by assumption) hw | exact fun w hw => rd_own hw (by first | assumption | (repeat first | exact .head _ | apply List.Mem.tail)) | assumption) (by intro hc; first | omega | (simp only [List.length_set, List.length_append, List.length_cons, List.length_nil, List.length_replicate, List.length_take, List.length_drop, List.length_map]; omega) | (simp only [AllT.iff, List.all_cons, List.all_nil, id, Bool.and_eq_true, Bool.not_eq_true', decide_eq_true_eq, decide_eq_false_iff_not, and_true] at hc; first | omega | (simp only [List.length_set, List.length_append, List.length_cons, List.length_nil, List.length_replicate, List.length_take, List.length_drop, List.length_map]; omega)) | (exfalso; simp_all [AllT]; done)) rfl)) ?_ | refine sw_step rfl rfl rfl (OpR.q (q_loadS rfl rfl (fun w hw => Stb.cl (by assumption) hw) rfl)) ?_
    refine sw_step rfl rfl rfl (OpR.q (q_shl rfl rfl rfl (by first | exact fun _ => ⟨by decide, by decide⟩ | (dsimp only [IntKind.bits]; exact (by intro hc; first | omega | (simp only [List.length_set, List.length_append, List.length_cons, List.length_nil, List.length_replicate, List.length_take, List.length_drop, List.length_map]; omega) | (simp only [AllT.iff, List.all_cons, List.all_nil, id, Bool.and_eq_true, Bool.not_eq_true', decide_eq_true_eq, decide_eq_false_iff_not, and_true] at hc; first | omega | (simp only [List.length_set, List.length_append, List.length_cons, List.length_nil, List.length_replicate, List.length_take, List.length_drop, List.length_map]; omega)) | (exfalso; simp_all [AllT]; done)))))) ?_
    refine sw_step rfl rfl rfl (OpR.q (q_sub rfl rfl rfl (by intro hc; first | omega | (simp only [List.length_set, List.length_append, List.length_cons, List.length_nil, List.length_replicate, List.length_take, List.length_drop, List.length_map]; omega) | (simp only [AllT.iff, List.all_cons, List.all_nil, id, Bool.and_eq_true, Bool.not_eq_true', decide_eq_true_eq, decide_eq_false_iff_not, and_true] at hc; first | omega | (simp only [List.length_set, List.length_append, List.length_cons, List.length_nil, List.length_replicate, List.length_take, List.length_drop, List.length_map]; omega)) | (exfalso; simp_all [AllT]; done)))) ?_
    refine sw_step rfl rfl rfl (q_call (CanCall.mk Try.call52) rfl (.cons rfl inferInstance (.cons rfl inferInstance (.cons rfl inferInstance (.nil)))) (fun _ w hw => callq hw (within_spec _ _ _ w))) ?_
    refine sw_step rfl rfl rfl (OpR.q (q_not rfl rfl)) ?_
    refine sw_step rfl rfl rfl (OpR.q (q_or2 rfl rfl rfl)) ?_
    refine sw_nil ?_
    refine post_then ?_
    -- STOP at: cond
    refine cw_cond rfl (fun h => ?_) (fun h => ?_)
    · skip
      refine cw_seq ?_
      -- region 2
      refine cw_region ?_
      refine sw_step rfl rfl rfl (OpR.q (q_assign rfl rfl)) ?_
      refine sw_step rfl rfl rfl (OpR.q (q_assign rfl rfl)) ?_
      refine sw_nil ?_
      refine post_then ?_
      refine cw_ret ?_
      refine post_then_r ?_
      refine post_ret2 rfl (resOk_tmp rfl) (resOk_tmp rfl) ?_
      exact fun w' hw => ⟨⟨none, 0, 0⟩, by rw [h1]; rfl, trivial, by rw [h1]; exact ((fun w h => Cl.sel (by repeat (first | exact Sel.nil _ | refine Sel.take 0 rfl ?_ | refine Sel.take 1 rfl ?_ | refine Sel.take 2 rfl ?_ | refine Sel.take 3 rfl ?_ | refine Sel.take 4 rfl ?_ | refine Sel.take 5 rfl ?_ | refine Sel.take 6 rfl ?_ | refine Sel.take 7 rfl ?_)) w h) _ hw : Cl w [] [] w').addNil (α := Bool) 4⟩
    · skip
      rw [hm] at h
      simp at h
  | true =>
    have hb := rightS_bd hm
    have hp := pow16 (n := m.bits.toNat) (by omega)
    have hp' := wrap_pow (b := m.bits) (by omega)
    refine cw_seq ?_
    -- region 0
    refine cw_region ?_
    refine sw_x rfl rfl rfl (e_box rfl rfl rfl) (fun b2 => ?_)
    refine sw_step rfl rfl rfl (OpR.q (q_assign rfl rfl)) ?_
    refine sw_step rfl rfl rfl (OpR.q (q_assign rfl rfl)) ?_
    refine sw_nil ?_
    refine post_then ?_
    refine cw_seq ?_
    refine cw_seq ?_
    -- region 1
    refine cw_region ?_
    first | refine sw_step rfl rfl rfl (OpR.q (q_loadC rfl rfl (by first | assumption | (repeat first | exact .head _ | apply List.Mem.tail)) rfl)) ?_ | refine sw_step rfl rfl rfl (OpR.q (q_loadA rfl rfl (by first | assumption | (repeat first | exact .head _ | apply List.Mem.tail)) rfl)) ?_ | refine sw_step rfl rfl rfl (OpR.q (q_loadEl rfl rfl rfl (by first | exact fun w hw => Stb.cl (by assumption) hw | exact fun w hw => rd_own hw (by first | assumption | (repeat first | exact .head _ | apply List.Mem.tail)) | assumption) (by intro hc; first | omega | (simp only [List.length_set, List.length_append, List.length_cons, List.length_nil, List.length_replicate, List.length_take, List.length_drop, List.length_map]; omega) | (simp only [AllT.iff, List.all_cons, List.all_nil, id, Bool.and_eq_true, Bool.not_eq_true', decide_eq_true_eq, decide_eq_false_iff_not, and_true] at hc; first | omega | (simp only [List.length_set, List.length_append, List.length_cons, List.length_nil, List.length_replicate, List.length_take, List.length_drop, List.length_map]; omega)) | (exfalso; simp_all [AllT]; done)))) ?_ | refine sw_step rfl rfl rfl (OpR.q (q_loadF rfl rfl rfl (by first | exact fun w hw => Stb.cl (by assumption) hw | exact fun w hw => rd_own hw (by first | assumption | (repeat first | exact .head _ | apply List.Mem.tail)) | assumption) (by intro hc; first | omega | (simp only [List.length_set, List.length_append, List.length_cons, List.length_nil, List.length_replicate, List.length_take, List.length_drop, List.length_map]; omega) | (simp only [AllT.iff, List.all_cons, List.all_nil, id, Bool.and_eq_true, Bool.not_eq_true', decide_eq_true_eq, decide_eq_false_iff_not, and_true] at hc; first | omega | (simp only [List.length_set, List.length_append, List.length_cons, List.length_nil, List.length_replicate, List.length_take, List.length_drop, List.length_map]; omega)) | (exfalso; simp_all [AllT]; done)) rfl)) ?_ | refine sw_step rfl rfl rfl (OpR.q (q_loadS rfl rfl (fun w hw => Stb.cl (by assumption) hw) rfl)) ?_
    refine sw_step rfl rfl rfl (q_call (CanCall.mk Try.call68) rfl (.cons rfl inferInstance (.nil)) (fun _ w hw => callq hw (right_spec _ w))) ?_
    refine sw_step rfl rfl rfl (OpR.q (q_not rfl rfl)) ?_
    refine sw_step rfl rfl rfl (OpR.q (q_move rfl rfl)) ?_
    refine sw_step rfl rfl rfl (OpR.q (q_move rfl rfl)) ?_
    first | refine sw_step rfl rfl rfl (OpR.q (q_fieldAddr rfl rfl)) ?_ | refine sw_step rfl rfl rfl (OpR.q (q_fieldEl rfl rfl (by first | exact fun w hw => Stb.cl (by assumption) hw | exact fun w hw => rd_own hw (by first | assumption | (repeat first | exact .head _ | apply List.Mem.tail)) | assumption) (by intro hc; first | omega | (simp only [List.length_set, List.length_append, List.length_cons, List.length_nil, List.length_replicate, List.length_take, List.length_drop, List.length_map]; omega) | (simp only [AllT.iff, List.all_cons, List.all_nil, id, Bool.and_eq_true, Bool.not_eq_true', decide_eq_true_eq, decide_eq_false_iff_not, and_true] at hc; first | omega | (simp only [List.length_set, List.length_append, List.length_cons, List.length_nil, List.length_replicate, List.length_take, List.length_drop, List.length_map]; omega)) | (exfalso; simp_all [AllT]; done)))) ?_
    first | refine sw_step rfl rfl rfl (OpR.q (q_loadC rfl rfl (by first | assumption | (repeat first | exact .head _ | apply List.Mem.tail)) rfl)) ?_ | refine sw_step rfl rfl rfl (OpR.q (q_loadA rfl rfl (by first | assumption | (repeat first | exact .head _ | apply List.Mem.tail)) rfl)) ?_ | refine sw_step rfl rfl rfl (OpR.q (q_loadEl rfl rfl rfl (by first | exact fun w hw => Stb.cl (by assumption) hw | exact fun w hw => rd_own hw (by first | assumption | (repeat first | exact .head _ | apply List.Mem.tail)) | assumption) (by intro hc; first | omega | (simp only [List.length_set, List.length_append, List.length_cons, List.length_nil, List.length_replicate, List.length_take, List.length_drop, List.length_map]; omega) | (simp only [AllT.iff, List.all_cons, List.all_nil, id, Bool.and_eq_true, Bool.not_eq_true', decide_eq_true_eq, decide_eq_false_iff_not, and_true] at hc; first | omega | (simp only [List.length_set, List.length_append, List.length_cons, List.length_nil, List.length_replicate, List.length_take, List.length_drop, List.length_map]; omega)) | (exfalso; simp_all [AllT]; done)))) ?_ | refine sw_step rfl rfl rfl (OpR.q (q_loadF rfl rfl rfl (by first | exact fun w hw => Stb.cl (by assumption) hw | exact fun w hw => rd_own hw (by first | assumption | (repeat first | exact .head _ | apply List.Mem.tail)) | assumption) (by intro hc; first | omega | (simp only [List.length_set, List.length_append, List.length_cons, List.length_nil, List.length_replicate, List.length_take, List.length_drop, List.length_map]; omega) | (simp only [AllT.iff, List.all_cons, List.all_nil, id, Bool.and_eq_true, Bool.not_eq_true', decide_eq_true_eq, decide_eq_false_iff_not, and_true] at hc; first | omega | (simp only [List.length_set, List.length_append, List.length_cons, List.length_nil, List.length_replicate, List.length_take, List.length_drop, List.length_map]; omega)) | (exfalso; simp_all [AllT]; done)) rfl)) ?_ | refine sw_step rfl rfl rfl (OpR.q (q_loadS rfl rfl (fun w hw => Stb.cl (by assumption) hw) rfl)) ?_
    refine sw_step rfl rfl rfl (OpR.q (q_shl rfl rfl rfl (by first | exact fun _ => ⟨by decide, by decide⟩ | (dsimp only [IntKind.bits]; exact (by intro hc; first | omega | (simp only [List.length_set, List.length_append, List.length_cons, List.length_nil, List.length_replicate, List.length_take, List.length_drop, List.length_map]; omega) | (simp only [AllT.iff, List.all_cons, List.all_nil, id, Bool.and_eq_true, Bool.not_eq_true', decide_eq_true_eq, decide_eq_false_iff_not, and_true] at hc; first | omega | (simp only [List.length_set, List.length_append, List.length_cons, List.length_nil, List.length_replicate, List.length_take, List.length_drop, List.length_map]; omega)) | (exfalso; simp_all [AllT]; done)))))) ?_
    refine sw_step rfl rfl rfl (OpR.q (q_sub rfl rfl rfl (by intro hc; first | omega | (simp only [List.length_set, List.length_append, List.length_cons, List.length_nil, List.length_replicate, List.length_take, List.length_drop, List.length_map]; omega) | (simp only [AllT.iff, List.all_cons, List.all_nil, id, Bool.and_eq_true, Bool.not_eq_true', decide_eq_true_eq, decide_eq_false_iff_not, and_true] at hc; first | omega | (simp only [List.length_set, List.length_append, List.length_cons, List.length_nil, List.length_replicate, List.length_take, List.length_drop, List.length_map]; omega)) | (exfalso; simp_all [AllT]; done)))) ?_
    refine sw_step rfl rfl rfl (q_call (CanCall.mk Try.call52) rfl (.cons rfl inferInstance (.cons rfl inferInstance (.cons rfl inferInstance (.nil)))) (fun _ w hw => callq hw (within_spec _ _ _ w))) ?_
    refine sw_step rfl rfl rfl (OpR.q (q_not rfl rfl)) ?_
    refine sw_step rfl rfl rfl (OpR.q (q_or2 rfl rfl rfl)) ?_
    refine sw_nil ?_
    refine post_then ?_
    -- STOP at: cond
    refine cw_cond rfl (fun h => ?_) (fun h => ?_)
    · skip
      have h1 : wordOk m msg = false := by
        rw [hm, inB_msg hm] at h
        simp at h
        simp [wordOk, hm, h]
      refine cw_seq ?_
      -- region 2
      refine cw_region ?_
      refine sw_step rfl rfl rfl (OpR.q (q_assign rfl rfl)) ?_
      refine sw_step rfl rfl rfl (OpR.q (q_assign rfl rfl)) ?_
      refine sw_nil ?_
      refine post_then ?_
      refine cw_ret ?_
      refine post_then_r ?_
      refine post_ret2 rfl (resOk_tmp rfl) (resOk_tmp rfl) ?_
      exact fun w' hw => ⟨⟨none, 0, 0⟩, by rw [h1]; rfl, trivial, by rw [h1]; exact ((fun w h => Cl.sel (by repeat (first | exact Sel.nil _ | refine Sel.take 0 rfl ?_ | refine Sel.take 1 rfl ?_ | refine Sel.take 2 rfl ?_ | refine Sel.take 3 rfl ?_ | refine Sel.take 4 rfl ?_ | refine Sel.take 5 rfl ?_ | refine Sel.take 6 rfl ?_ | refine Sel.take 7 rfl ?_)) w h) _ hw : Cl w [] [] w').addNil (α := Bool) 4⟩
    · skip
      have h0 : okMsg m msg = true := by
        rw [hm, inB_msg hm] at h
        simpa using h
      have h1 : wordOk m msg = true := by simp [wordOk, hm, h0]
      have hg := okMsg_bd hm h0
      refine cw_skip ?_
      refine post_then ?_
      refine cw_seq ?_
      -- region 3
      refine cw_region ?_
      first | refine sw_step rfl rfl rfl (OpR.q (q_loadC rfl rfl (by first | assumption | (repeat first | exact .head _ | apply List.Mem.tail)) rfl)) ?_ | refine sw_step rfl rfl rfl (OpR.q (q_loadA rfl rfl (by first | assumption | (repeat first | exact .head _ | apply List.Mem.tail)) rfl)) ?_ | refine sw_step rfl rfl rfl (OpR.q (q_loadEl rfl rfl rfl (by first | exact fun w hw => Stb.cl (by assumption) hw | exact fun w hw => rd_own hw (by first | assumption | (repeat first | exact .head _ | apply List.Mem.tail)) | assumption) (by intro hc; first | omega | (simp only [List.length_set, List.length_append, List.length_cons, List.length_nil, List.length_replicate, List.length_take, List.length_drop, List.length_map]; omega) | (simp only [AllT.iff, List.all_cons, List.all_nil, id, Bool.and_eq_true, Bool.not_eq_true', decide_eq_true_eq, decide_eq_false_iff_not, and_true] at hc; first | omega | (simp only [List.length_set, List.length_append, List.length_cons, List.length_nil, List.length_replicate, List.length_take, List.length_drop, List.length_map]; omega)) | (exfalso; simp_all [AllT]; done)))) ?_ | refine sw_step rfl rfl rfl (OpR.q (q_loadF rfl rfl rfl (by first | exact fun w hw => Stb.cl (by assumption) hw | exact fun w hw => rd_own hw (by first | assumption | (repeat first | exact .head _ | apply List.Mem.tail)) | assumption) (by intro hc; first | omega | (simp only [List.length_set, List.length_append, List.length_cons, List.length_nil, List.length_replicate, List.length_take, List.length_drop, List.length_map]; omega) | (simp only [AllT.iff, List.all_cons, List.all_nil, id, Bool.and_eq_true, Bool.not_eq_true', decide_eq_true_eq, decide_eq_false_iff_not, and_true] at hc; first | omega | (simp only [List.length_set, List.length_append, List.length_cons, List.length_nil, List.length_replicate, List.length_take, List.length_drop, List.length_map]; omega)) | (exfalso; simp_all [AllT]; done)) rfl)) ?_ | refine sw_step rfl rfl rfl (OpR.q (q_loadS rfl rfl (fun w hw => Stb.cl (by assumption) hw) rfl)) ?_
      -- STOP at: t19  := call {callee=(value F69), args=[t18], argTypes=[55]} :98
      refine sw_x rfl rfl rfl (e_call (CanCall.mk Try.call69) rfl (.cons rfl inferInstance (.nil)) (fun w hw => start_spec m hm w)) (fun x19 => ?_)
      refine sw_imp fun _ => ?_
      refine sw_step rfl rfl rfl (OpR.q (q_move rfl rfl)) ?_
      -- STOP at: t21  := call {callee=(value F70), args=[t19, t20], argTypes=[98, 3]} :30
      refine sw_x rfl rfl rfl (e_call (CanCall.mk Try.call70) rfl (.cons rfl inferInstance (.cons rfl inferInstance (.nil))) (fun w hw => word_spec m msg x19.1 x19.2 hm hg w (stb_blk hw (by simp)))) (fun s21 => ?_)
      refine sw_imp fun _ => ?_
      refine sw_step rfl rfl rfl (OpR.q (q_assign rfl rfl)) ?_
      refine sw_step rfl rfl rfl (OpR.q (q_assign rfl rfl)) ?_
      refine sw_nil ?_
      refine post_then ?_
      refine cw_ret ?_
      refine post_ret2 rfl (resOk_tmp rfl) (resOk_tmp rfl) ?_
      exact fun w' hw => ⟨s21, by rw [h1]; rfl, trivial, by rw [h1]; exact (fun w h => Cl.sel (by repeat (first | exact Sel.nil _ | refine Sel.take 0 rfl ?_ | refine Sel.take 1 rfl ?_ | refine Sel.take 2 rfl ?_ | refine Sel.take 3 rfl ?_ | refine Sel.take 4 rfl ?_ | refine Sel.take 5 rfl ?_ | refine Sel.take 6 rfl ?_ | refine Sel.take 7 rfl ?_)) w h) _ hw⟩

theorem lawChips (start n : Int) (m : Stamp) (msg : Int) (w : World) :
    Calls Try.prog 7 #[.int .i64 start, .int .i64 n, val m, .int .i64 msg] w fun e w' => e = .returned (.bool true) ∧ Cl w [] [] w' := by
  refine calls_cw (vs := [_, _, _, _]) Try.func7 rfl Try.ntmps7 rfl (Cl.start0 w) ?_
  refine cw_seq ?_
  -- region 0
  refine cw_region ?_
  refine sw_x rfl rfl rfl (e_box rfl rfl rfl) (fun b6 => ?_)
  refine sw_step rfl rfl rfl (OpR.q (q_assign rfl rfl)) ?_
  refine sw_nil ?_
  refine post_then ?_
  refine cw_seq ?_
  -- region 1
  refine cw_region ?_
  refine sw_step rfl rfl rfl (OpR.q (q_move rfl rfl)) ?_
  refine sw_step rfl rfl rfl (OpR.q (q_move rfl rfl)) ?_
  -- STOP at: t16  := call {callee=(value F33), args=[t14, t15], argTypes=[3, 3]} :56
  refine sw_x rfl rfl rfl (e_call (CanCall.mk Try.call33) rfl (.cons rfl inferInstance (.cons rfl inferInstance (.nil))) (fun w hw => houseChips_spec start n w)) (fun s16 => ?_)
  refine sw_imp fun _ => ?_
  refine sw_step rfl rfl rfl (OpR.q (q_move rfl rfl)) ?_
  first | refine sw_step rfl rfl rfl (OpR.q (q_extract rfl rfl rfl)) ?_ | refine sw_step rfl rfl rfl (OpR.q (q_extract rfl rfl (nextV_0 _))) ?_
  first | refine sw_step rfl rfl rfl (OpR.q (q_extract rfl rfl rfl)) ?_ | refine sw_step rfl rfl rfl (OpR.q (q_extract rfl rfl (nextV_0 _))) ?_
  refine sw_step rfl rfl rfl (OpR.q (q_assign rfl rfl)) ?_
  refine sw_step rfl rfl rfl (OpR.q (q_assign rfl rfl)) ?_
  refine sw_nil ?_
  refine post_then ?_
  refine cw_seq ?_
  -- region 2
  refine cw_region ?_
  first | refine sw_step rfl rfl rfl (OpR.q (q_loadC rfl rfl (by first | assumption | (repeat first | exact .head _ | apply List.Mem.tail)) rfl)) ?_ | refine sw_step rfl rfl rfl (OpR.q (q_loadA rfl rfl (by first | assumption | (repeat first | exact .head _ | apply List.Mem.tail)) rfl)) ?_ | refine sw_step rfl rfl rfl (OpR.q (q_loadEl rfl rfl rfl (by first | exact fun w hw => Stb.cl (by assumption) hw | exact fun w hw => rd_own hw (by first | assumption | (repeat first | exact .head _ | apply List.Mem.tail)) | assumption) (by intro hc; first | omega | (simp only [List.length_set, List.length_append, List.length_cons, List.length_nil, List.length_replicate, List.length_take, List.length_drop, List.length_map]; omega) | (simp only [AllT.iff, List.all_cons, List.all_nil, id, Bool.and_eq_true, Bool.not_eq_true', decide_eq_true_eq, decide_eq_false_iff_not, and_true] at hc; first | omega | (simp only [List.length_set, List.length_append, List.length_cons, List.length_nil, List.length_replicate, List.length_take, List.length_drop, List.length_map]; omega)) | (exfalso; simp_all [AllT]; done)))) ?_ | refine sw_step rfl rfl rfl (OpR.q (q_loadF rfl rfl rfl (by first | exact fun w hw => Stb.cl (by assumption) hw | exact fun w hw => rd_own hw (by first | assumption | (repeat first | exact .head _ | apply List.Mem.tail)) | assumption) (by intro hc; first | omega | (simp only [List.length_set, List.length_append, List.length_cons, List.length_nil, List.length_replicate, List.length_take, List.length_drop, List.length_map]; omega) | (simp only [AllT.iff, List.all_cons, List.all_nil, id, Bool.and_eq_true, Bool.not_eq_true', decide_eq_true_eq, decide_eq_false_iff_not, and_true] at hc; first | omega | (simp only [List.length_set, List.length_append, List.length_cons, List.length_nil, List.length_replicate, List.length_take, List.length_drop, List.length_map]; omega)) | (exfalso; simp_all [AllT]; done)) rfl)) ?_ | refine sw_step rfl rfl rfl (OpR.q (q_loadS rfl rfl (fun w hw => Stb.cl (by assumption) hw) rfl)) ?_
  refine sw_step rfl rfl rfl (OpR.q (q_move rfl rfl)) ?_
  -- STOP at: t22  := call {callee=(value F34), args=[t20, t21], argTypes=[55, 3]} :31
  refine sw_x rfl rfl rfl (e_call (CanCall.mk Try.call34) rfl (.cons rfl inferInstance (.cons rfl inferInstance (.nil))) (fun w hw => houseWord_spec m msg w)) (fun s22 => ?_)
  refine sw_imp fun _ => ?_
  refine sw_step rfl rfl rfl (OpR.q (q_move rfl rfl)) ?_
  first | refine sw_step rfl rfl rfl (OpR.q (q_extract rfl rfl rfl)) ?_ | refine sw_step rfl rfl rfl (OpR.q (q_extract rfl rfl (nextV_0 _))) ?_
  first | refine sw_step rfl rfl rfl (OpR.q (q_extract rfl rfl rfl)) ?_ | refine sw_step rfl rfl rfl (OpR.q (q_extract rfl rfl (nextV_0 _))) ?_
  refine sw_step rfl rfl rfl (OpR.q (q_assign rfl rfl)) ?_
  refine sw_step rfl rfl rfl (OpR.q (q_assign rfl rfl)) ?_
  refine sw_nil ?_
  refine post_then ?_
  refine cw_seq ?_
  refine cw_seq ?_
  -- region 3
  refine cw_region ?_
  refine sw_step rfl rfl rfl (OpR.q (q_move rfl rfl)) ?_
  refine sw_step rfl rfl rfl (OpR.q (q_lss rfl rfl rfl)) ?_
  refine sw_step rfl rfl rfl (OpR.q (q_move rfl rfl)) ?_
  refine sw_step rfl rfl rfl (OpR.q (q_move rfl rfl)) ?_
  refine sw_step rfl rfl rfl (OpR.q (q_gtr rfl rfl rfl)) ?_
  refine sw_step rfl rfl rfl (OpR.q (q_or2 rfl rfl rfl)) ?_
  refine sw_step rfl rfl rfl (OpR.q (q_move rfl rfl)) ?_
  refine sw_step rfl rfl rfl (OpR.q (q_move rfl rfl)) ?_
  refine sw_step rfl rfl rfl (OpR.q (q_lss rfl rfl rfl)) ?_
  refine sw_step rfl rfl rfl (OpR.q (q_or2 rfl rfl rfl)) ?_
  refine sw_step rfl rfl rfl (OpR.q (q_move rfl rfl)) ?_
  refine sw_step rfl rfl rfl (OpR.q (q_move rfl rfl)) ?_
  refine sw_step rfl rfl rfl (OpR.q (q_gtr rfl rfl rfl)) ?_
  refine sw_step rfl rfl rfl (OpR.q (q_or2 rfl rfl rfl)) ?_
  refine sw_nil ?_
  refine post_then ?_
  -- STOP at: cond
  refine cw_cut (S := Unit) (fun _ => [(3, [], .int .i64 msg), (6, [], .pointer (some ⟨b6, 0, none⟩)), (11, [], s22.v), (12, [], .int .i64 (if wordOk m msg then 0 else 2))]) (fun _ => Cl w [] [ownL 4 s22.v (if wordOk m msg then wordL m msg else []), blk b6 (enc m) 55]) (fun _ => True) ?_ ?_
  · have hok : chipsOk start n = true ↔ (0 ≤ start ∧ start ≤ 4611686018427518976) ∧ (0 ≤ n ∧ n ≤ 10000) := by simp [chipsOk, inB]
    refine cw_cond rfl (fun h => ?_) (fun h => ?_)
    · skip
      have h1 : chipsOk start n = false := by
        rw [Bool.eq_false_iff]
        intro hc
        have := hok.1 hc
        simp at h
        omega
      refine cw_seq ?_
      -- region 4
      refine cw_region ?_
      refine sw_step rfl rfl rfl (OpR.q (q_move rfl rfl)) ?_
      refine sw_step rfl rfl rfl (OpR.q (q_neq rfl rfl rfl)) ?_
      refine sw_step rfl rfl rfl (OpR.q (q_move rfl rfl)) ?_
      refine sw_step rfl rfl rfl (OpR.q (q_move rfl rfl)) ?_
      first | refine sw_step rfl rfl rfl (OpR.q (q_len rfl (.cons rfl inferInstance (.nil)) (by first | exact fun w hw => Stb.cl (by assumption) hw | exact fun w hw => rd_own hw (by first | assumption | (repeat first | exact .head _ | apply List.Mem.tail)) | assumption))) ?_ | refine sw_step rfl rfl rfl (OpR.q (q_lenV rfl (.cons rfl inferInstance (.nil)))) ?_
      refine sw_step rfl rfl rfl (OpR.q (q_neq rfl rfl rfl)) ?_
      refine sw_step rfl rfl rfl (OpR.q (q_or2 rfl rfl rfl)) ?_
      refine sw_nil ?_
      refine post_then ?_
      -- STOP at: cond
      refine cw_cond rfl (fun h2 => ?_) (fun h2 => ?_)
      · skip
        simp [h1] at h2
      · skip
        refine cw_skip ?_
        exact post_meet () (by repeat (first | exact Le.nil | refine Le.cons rfl ?_ | refine Le.cons' rfl (by congr 1; first | omega | (simp only; omega)) ?_)) (fun w h => Cl.sel (by repeat (first | exact Sel.nil _ | refine Sel.take 0 rfl ?_ | refine Sel.take 1 rfl ?_ | refine Sel.take 2 rfl ?_ | refine Sel.take 3 rfl ?_ | refine Sel.take 4 rfl ?_ | refine Sel.take 5 rfl ?_ | refine Sel.take 6 rfl ?_ | refine Sel.take 7 rfl ?_)) w h) trivial
    · skip
      have h1 : chipsOk start n = true := by
        rw [hok]; simp at h; omega
      have h2 := hok.1 h1
      obtain ⟨k, rfl⟩ := Int.eq_ofNat_of_zero_le h2.2.1
      refine cw_c (C' := Cl w [] [ownL 4 s22.v (if wordOk m msg then wordL m msg else []), ownL 3 s16.v (chipsL start k), blk b6 (enc m) 55]) (fun w h => by rw [h1] at h; exact h) ?_
      refine cw_seq ?_
      -- region 6
      refine cw_region ?_
      refine sw_step rfl rfl rfl (OpR.q (q_move rfl rfl)) ?_
      refine sw_step rfl rfl rfl (OpR.q (q_neq rfl rfl rfl)) ?_
      refine sw_step rfl rfl rfl (OpR.q (q_move rfl rfl)) ?_
      refine sw_step rfl rfl rfl (OpR.q (q_move rfl rfl)) ?_
      refine sw_step rfl rfl rfl (OpR.q (q_move rfl rfl)) ?_
      refine sw_step rfl rfl rfl (OpR.q (q_move rfl rfl)) ?_
      -- STOP at: t52  := call {callee=(value F35), args=[t50, t51], argTypes=[3, 3]} :37 ?<2, false>
      refine sw_xc rfl (by first | (simp [AllT]; done) | simp [AllT, *]) rfl rfl (e_callc (CanCall.mk Try.call35) rfl (.cons rfl inferInstance (.cons rfl inferInstance (.nil))) (fun w hw => refChips_spec start k (by omega) w)) (fun s52 => ?_)
      refine sw_imp fun _ => ?_
      refine sw_step rfl rfl rfl (q_call (CanCall.mk Try.call26) rfl (.cons rfl inferInstance (.cons rfl inferInstance (.nil))) (fun _ w hw => callq hw (sameInts_spec _ _ _ _ w (by first | exact stb_arg hw (by assumption) | exact stb_own hw (by first | assumption | (repeat first | exact .head _ | apply List.Mem.tail))) (by first | exact stb_arg hw (by assumption) | exact stb_own hw (by first | assumption | (repeat first | exact .head _ | apply List.Mem.tail)))))) ?_
      refine sw_step rfl rfl rfl (OpR.q (q_not rfl rfl)) ?_
      refine sw_step rfl rfl rfl (OpR.q (q_or2 rfl rfl rfl)) ?_
      refine sw_nil ?_
      refine post_then ?_
      -- STOP at: cond
      refine cw_cond rfl (fun h3 => ?_) (fun h3 => ?_)
      · skip
        simp [h1] at h3
      · skip
        refine cw_skip ?_
        exact post_meet () (by repeat (first | exact Le.nil | refine Le.cons rfl ?_ | refine Le.cons' rfl (by congr 1; first | omega | (simp only; omega)) ?_)) (fun w h => Cl.sel (by repeat (first | exact Sel.nil _ | refine Sel.take 0 rfl ?_ | refine Sel.take 1 rfl ?_ | refine Sel.take 2 rfl ?_ | refine Sel.take 3 rfl ?_ | refine Sel.take 4 rfl ?_ | refine Sel.take 5 rfl ?_ | refine Sel.take 6 rfl ?_ | refine Sel.take 7 rfl ?_)) w h) trivial
  · intro u _
    cases hm : rightS m with
    | false =>
      have h1 : wordOk m msg = false := by simp [wordOk, hm]
      refine post_then ?_
      refine cw_seq ?_
      refine cw_seq ?_
      -- region 8
      refine cw_region ?_
      first | refine sw_step rfl rfl rfl (OpR.q (q_loadC rfl rfl (by first | assumption | (repeat first | exact .head _ | apply List.Mem.tail)) rfl)) ?_ | refine sw_step rfl rfl rfl (OpR.q (q_loadA rfl rfl (by first | assumption | (repeat first | exact .head _ | apply List.Mem.tail)) rfl)) ?_ | refine sw_step rfl rfl rfl (OpR.q (q_loadEl rfl rfl rfl (by first | exact fun w hw => Stb.cl (by assumption) hw | exact fun w hw => rd_own hw (by first | assumption | (repeat first | exact .head _ | apply List.Mem.tail)) | assumption) (by intro hc; first | omega | (simp only [List.length_set, List.length_append, List.length_cons, List.length_nil, List.length_replicate, List.length_take, List.length_drop, List.length_map]; omega) | (simp only [AllT.iff, List.all_cons, List.all_nil, id, Bool.and_eq_true, Bool.not_eq_true', decide_eq_true_eq, decide_eq_false_iff_not, and_true] at hc; first | omega | (simp only [List.length_set, List.length_append, List.length_cons, List.length_nil, List.length_replicate, List.length_take, List.length_drop, List.length_map]; omega)) | (exfalso; simp_all [AllT]; done)))) ?_ | refine sw_step rfl rfl rfl (OpR.q (q_loadF rfl rfl rfl (by first | exact fun w hw => Stb.cl (by assumption) hw | exact fun w hw => rd_own hw (by first | assumption | (repeat first | exact .head _ | apply List.Mem.tail)) | assumption) (by intro hc; first | omega | (simp only [List.length_set, List.length_append, List.length_cons, List.length_nil, List.length_replicate, List.length_take, List.length_drop, List.length_map]; omega) | (simp only [AllT.iff, List.all_cons, List.all_nil, id, Bool.and_eq_true, Bool.not_eq_true', decide_eq_true_eq, decide_eq_false_iff_not, and_true] at hc; first | omega | (simp only [List.length_set, List.length_append, List.length_cons, List.length_nil, List.length_replicate, List.length_take, List.length_drop, List.length_map]; omega)) | (exfalso; simp_all [AllT]; done)) rfl)) ?_ | refine sw_step rfl rfl rfl (OpR.q (q_loadS rfl rfl (fun w hw => Stb.cl (by assumption) hw) rfl)) ?_
      refine sw_step rfl rfl rfl (q_call (CanCall.mk Try.call36) rfl (.cons rfl inferInstance (.nil)) (fun _ w hw => callq hw (refStamp_spec _ w))) ?_
      refine sw_step rfl rfl rfl (OpR.q (q_not rfl rfl)) ?_
      refine sw_step rfl rfl rfl (OpR.q (q_move rfl rfl)) ?_
      first | refine sw_step rfl rfl rfl (OpR.q (q_loadC rfl rfl (by first | assumption | (repeat first | exact .head _ | apply List.Mem.tail)) rfl)) ?_ | refine sw_step rfl rfl rfl (OpR.q (q_loadA rfl rfl (by first | assumption | (repeat first | exact .head _ | apply List.Mem.tail)) rfl)) ?_ | refine sw_step rfl rfl rfl (OpR.q (q_loadEl rfl rfl rfl (by first | exact fun w hw => Stb.cl (by assumption) hw | exact fun w hw => rd_own hw (by first | assumption | (repeat first | exact .head _ | apply List.Mem.tail)) | assumption) (by intro hc; first | omega | (simp only [List.length_set, List.length_append, List.length_cons, List.length_nil, List.length_replicate, List.length_take, List.length_drop, List.length_map]; omega) | (simp only [AllT.iff, List.all_cons, List.all_nil, id, Bool.and_eq_true, Bool.not_eq_true', decide_eq_true_eq, decide_eq_false_iff_not, and_true] at hc; first | omega | (simp only [List.length_set, List.length_append, List.length_cons, List.length_nil, List.length_replicate, List.length_take, List.length_drop, List.length_map]; omega)) | (exfalso; simp_all [AllT]; done)))) ?_ | refine sw_step rfl rfl rfl (OpR.q (q_loadF rfl rfl rfl (by first | exact fun w hw => Stb.cl (by assumption) hw | exact fun w hw => rd_own hw (by first | assumption | (repeat first | exact .head _ | apply List.Mem.tail)) | assumption) (by intro hc; first | omega | (simp only [List.length_set, List.length_append, List.length_cons, List.length_nil, List.length_replicate, List.length_take, List.length_drop, List.length_map]; omega) | (simp only [AllT.iff, List.all_cons, List.all_nil, id, Bool.and_eq_true, Bool.not_eq_true', decide_eq_true_eq, decide_eq_false_iff_not, and_true] at hc; first | omega | (simp only [List.length_set, List.length_append, List.length_cons, List.length_nil, List.length_replicate, List.length_take, List.length_drop, List.length_map]; omega)) | (exfalso; simp_all [AllT]; done)) rfl)) ?_ | refine sw_step rfl rfl rfl (OpR.q (q_loadS rfl rfl (fun w hw => Stb.cl (by assumption) hw) rfl)) ?_
      refine sw_step rfl rfl rfl (OpR.q (q_move rfl rfl)) ?_
      refine sw_step rfl rfl rfl (q_call (CanCall.mk Try.call37) rfl (.cons rfl inferInstance (.cons rfl inferInstance (.nil))) (fun _ w hw => callq hw (refMessage_spec _ _ (by first | assumption | simp_all [AllT]) w))) ?_
      refine sw_step rfl rfl rfl (OpR.q (q_not rfl rfl)) ?_
      refine sw_step rfl rfl rfl (OpR.q (q_or2 rfl rfl rfl)) ?_
      refine sw_nil ?_
      refine post_then ?_
      -- STOP at: cond
      refine cw_cond rfl (fun h2 => ?_) (fun h2 => ?_)
      · skip
        refine cw_c (C' := Cl w [] [ownL 4 s22.v ([] : List Bool), blk b6 (enc m) 55]) (fun w h => by rw [h1] at h; exact h) ?_
        refine cw_seq ?_
        -- region 9
        refine cw_region ?_
        refine sw_step rfl rfl rfl (OpR.q (q_move rfl rfl)) ?_
        refine sw_step rfl rfl rfl (OpR.q (q_eql rfl rfl rfl)) ?_
        refine sw_step rfl rfl rfl (OpR.q (q_move rfl rfl)) ?_
        refine sw_step rfl rfl rfl (OpR.q (q_move rfl rfl)) ?_
        first | refine sw_step rfl rfl rfl (OpR.q (q_len rfl (.cons rfl inferInstance (.nil)) (by first | exact fun w hw => Stb.cl (by assumption) hw | exact fun w hw => rd_own hw (by first | assumption | (repeat first | exact .head _ | apply List.Mem.tail)) | assumption))) ?_ | refine sw_step rfl rfl rfl (OpR.q (q_lenV rfl (.cons rfl inferInstance (.nil)))) ?_
        refine sw_step rfl rfl rfl (OpR.q (q_eql rfl rfl rfl)) ?_
        refine sw_step rfl rfl rfl (OpR.q (q_and2 rfl rfl rfl)) ?_
        refine sw_step rfl rfl rfl (OpR.q (q_move rfl rfl)) ?_
        refine sw_step rfl rfl rfl (q_call (CanCall.mk Try.call15) rfl (.nil) (fun _ w hw => callq hw (known_spec w))) ?_
        refine sw_step rfl rfl rfl (OpR.q (q_and2 rfl rfl rfl)) ?_
        refine sw_step rfl rfl rfl (OpR.q (q_assign rfl rfl)) ?_
        refine sw_nil ?_
        refine post_then ?_
        refine cw_ret ?_
        refine post_then_r ?_
        refine post_ret1 rfl (resOk_tmp rfl) ?_
        exact fun w' hw => ⟨by simp [h1], (fun w h => Cl.sel (by repeat (first | exact Sel.nil _ | refine Sel.take 0 rfl ?_ | refine Sel.take 1 rfl ?_ | refine Sel.take 2 rfl ?_ | refine Sel.take 3 rfl ?_ | refine Sel.take 4 rfl ?_ | refine Sel.take 5 rfl ?_ | refine Sel.take 6 rfl ?_ | refine Sel.take 7 rfl ?_)) w h) _ hw⟩
      · skip
        simp [hm] at h2
    | true =>
      have hbd := rightS_bd hm
      cases hg : okMsg m msg with
      | false =>
        have h1 : wordOk m msg = false := by simp [wordOk, hm, hg]
        refine post_then ?_
        refine cw_seq ?_
        refine cw_seq ?_
        -- region 8
        refine cw_region ?_
        first | refine sw_step rfl rfl rfl (OpR.q (q_loadC rfl rfl (by first | assumption | (repeat first | exact .head _ | apply List.Mem.tail)) rfl)) ?_ | refine sw_step rfl rfl rfl (OpR.q (q_loadA rfl rfl (by first | assumption | (repeat first | exact .head _ | apply List.Mem.tail)) rfl)) ?_ | refine sw_step rfl rfl rfl (OpR.q (q_loadEl rfl rfl rfl (by first | exact fun w hw => Stb.cl (by assumption) hw | exact fun w hw => rd_own hw (by first | assumption | (repeat first | exact .head _ | apply List.Mem.tail)) | assumption) (by intro hc; first | omega | (simp only [List.length_set, List.length_append, List.length_cons, List.length_nil, List.length_replicate, List.length_take, List.length_drop, List.length_map]; omega) | (simp only [AllT.iff, List.all_cons, List.all_nil, id, Bool.and_eq_true, Bool.not_eq_true', decide_eq_true_eq, decide_eq_false_iff_not, and_true] at hc; first | omega | (simp only [List.length_set, List.length_append, List.length_cons, List.length_nil, List.length_replicate, List.length_take, List.length_drop, List.length_map]; omega)) | (exfalso; simp_all [AllT]; done)))) ?_ | refine sw_step rfl rfl rfl (OpR.q (q_loadF rfl rfl rfl (by first | exact fun w hw => Stb.cl (by assumption) hw | exact fun w hw => rd_own hw (by first | assumption | (repeat first | exact .head _ | apply List.Mem.tail)) | assumption) (by intro hc; first | omega | (simp only [List.length_set, List.length_append, List.length_cons, List.length_nil, List.length_replicate, List.length_take, List.length_drop, List.length_map]; omega) | (simp only [AllT.iff, List.all_cons, List.all_nil, id, Bool.and_eq_true, Bool.not_eq_true', decide_eq_true_eq, decide_eq_false_iff_not, and_true] at hc; first | omega | (simp only [List.length_set, List.length_append, List.length_cons, List.length_nil, List.length_replicate, List.length_take, List.length_drop, List.length_map]; omega)) | (exfalso; simp_all [AllT]; done)) rfl)) ?_ | refine sw_step rfl rfl rfl (OpR.q (q_loadS rfl rfl (fun w hw => Stb.cl (by assumption) hw) rfl)) ?_
        refine sw_step rfl rfl rfl (q_call (CanCall.mk Try.call36) rfl (.cons rfl inferInstance (.nil)) (fun _ w hw => callq hw (refStamp_spec _ w))) ?_
        refine sw_step rfl rfl rfl (OpR.q (q_not rfl rfl)) ?_
        refine sw_step rfl rfl rfl (OpR.q (q_move rfl rfl)) ?_
        first | refine sw_step rfl rfl rfl (OpR.q (q_loadC rfl rfl (by first | assumption | (repeat first | exact .head _ | apply List.Mem.tail)) rfl)) ?_ | refine sw_step rfl rfl rfl (OpR.q (q_loadA rfl rfl (by first | assumption | (repeat first | exact .head _ | apply List.Mem.tail)) rfl)) ?_ | refine sw_step rfl rfl rfl (OpR.q (q_loadEl rfl rfl rfl (by first | exact fun w hw => Stb.cl (by assumption) hw | exact fun w hw => rd_own hw (by first | assumption | (repeat first | exact .head _ | apply List.Mem.tail)) | assumption) (by intro hc; first | omega | (simp only [List.length_set, List.length_append, List.length_cons, List.length_nil, List.length_replicate, List.length_take, List.length_drop, List.length_map]; omega) | (simp only [AllT.iff, List.all_cons, List.all_nil, id, Bool.and_eq_true, Bool.not_eq_true', decide_eq_true_eq, decide_eq_false_iff_not, and_true] at hc; first | omega | (simp only [List.length_set, List.length_append, List.length_cons, List.length_nil, List.length_replicate, List.length_take, List.length_drop, List.length_map]; omega)) | (exfalso; simp_all [AllT]; done)))) ?_ | refine sw_step rfl rfl rfl (OpR.q (q_loadF rfl rfl rfl (by first | exact fun w hw => Stb.cl (by assumption) hw | exact fun w hw => rd_own hw (by first | assumption | (repeat first | exact .head _ | apply List.Mem.tail)) | assumption) (by intro hc; first | omega | (simp only [List.length_set, List.length_append, List.length_cons, List.length_nil, List.length_replicate, List.length_take, List.length_drop, List.length_map]; omega) | (simp only [AllT.iff, List.all_cons, List.all_nil, id, Bool.and_eq_true, Bool.not_eq_true', decide_eq_true_eq, decide_eq_false_iff_not, and_true] at hc; first | omega | (simp only [List.length_set, List.length_append, List.length_cons, List.length_nil, List.length_replicate, List.length_take, List.length_drop, List.length_map]; omega)) | (exfalso; simp_all [AllT]; done)) rfl)) ?_ | refine sw_step rfl rfl rfl (OpR.q (q_loadS rfl rfl (fun w hw => Stb.cl (by assumption) hw) rfl)) ?_
        refine sw_step rfl rfl rfl (OpR.q (q_move rfl rfl)) ?_
        refine sw_step rfl rfl rfl (q_call (CanCall.mk Try.call37) rfl (.cons rfl inferInstance (.cons rfl inferInstance (.nil))) (fun _ w hw => callq hw (refMessage_spec _ _ (by first | assumption | simp_all [AllT]) w))) ?_
        refine sw_step rfl rfl rfl (OpR.q (q_not rfl rfl)) ?_
        refine sw_step rfl rfl rfl (OpR.q (q_or2 rfl rfl rfl)) ?_
        refine sw_nil ?_
        refine post_then ?_
        -- STOP at: cond
        refine cw_cond rfl (fun h2 => ?_) (fun h2 => ?_)
        · skip
          refine cw_c (C' := Cl w [] [ownL 4 s22.v ([] : List Bool), blk b6 (enc m) 55]) (fun w h => by rw [h1] at h; exact h) ?_
          refine cw_seq ?_
          -- region 9
          refine cw_region ?_
          refine sw_step rfl rfl rfl (OpR.q (q_move rfl rfl)) ?_
          refine sw_step rfl rfl rfl (OpR.q (q_eql rfl rfl rfl)) ?_
          refine sw_step rfl rfl rfl (OpR.q (q_move rfl rfl)) ?_
          refine sw_step rfl rfl rfl (OpR.q (q_move rfl rfl)) ?_
          first | refine sw_step rfl rfl rfl (OpR.q (q_len rfl (.cons rfl inferInstance (.nil)) (by first | exact fun w hw => Stb.cl (by assumption) hw | exact fun w hw => rd_own hw (by first | assumption | (repeat first | exact .head _ | apply List.Mem.tail)) | assumption))) ?_ | refine sw_step rfl rfl rfl (OpR.q (q_lenV rfl (.cons rfl inferInstance (.nil)))) ?_
          refine sw_step rfl rfl rfl (OpR.q (q_eql rfl rfl rfl)) ?_
          refine sw_step rfl rfl rfl (OpR.q (q_and2 rfl rfl rfl)) ?_
          refine sw_step rfl rfl rfl (OpR.q (q_move rfl rfl)) ?_
          refine sw_step rfl rfl rfl (q_call (CanCall.mk Try.call15) rfl (.nil) (fun _ w hw => callq hw (known_spec w))) ?_
          refine sw_step rfl rfl rfl (OpR.q (q_and2 rfl rfl rfl)) ?_
          refine sw_step rfl rfl rfl (OpR.q (q_assign rfl rfl)) ?_
          refine sw_nil ?_
          refine post_then ?_
          refine cw_ret ?_
          refine post_then_r ?_
          refine post_ret1 rfl (resOk_tmp rfl) ?_
          exact fun w' hw => ⟨by simp [h1], (fun w h => Cl.sel (by repeat (first | exact Sel.nil _ | refine Sel.take 0 rfl ?_ | refine Sel.take 1 rfl ?_ | refine Sel.take 2 rfl ?_ | refine Sel.take 3 rfl ?_ | refine Sel.take 4 rfl ?_ | refine Sel.take 5 rfl ?_ | refine Sel.take 6 rfl ?_ | refine Sel.take 7 rfl ?_)) w h) _ hw⟩
        · skip
          simp [hm, hg] at h2
      | true =>
        have hgb := okMsg_bd hm hg
        have h1 : wordOk m msg = true := by simp [wordOk, hm, hg]
        refine post_then ?_
        refine cw_seq ?_
        refine cw_seq ?_
        -- region 8
        refine cw_region ?_
        first | refine sw_step rfl rfl rfl (OpR.q (q_loadC rfl rfl (by first | assumption | (repeat first | exact .head _ | apply List.Mem.tail)) rfl)) ?_ | refine sw_step rfl rfl rfl (OpR.q (q_loadA rfl rfl (by first | assumption | (repeat first | exact .head _ | apply List.Mem.tail)) rfl)) ?_ | refine sw_step rfl rfl rfl (OpR.q (q_loadEl rfl rfl rfl (by first | exact fun w hw => Stb.cl (by assumption) hw | exact fun w hw => rd_own hw (by first | assumption | (repeat first | exact .head _ | apply List.Mem.tail)) | assumption) (by intro hc; first | omega | (simp only [List.length_set, List.length_append, List.length_cons, List.length_nil, List.length_replicate, List.length_take, List.length_drop, List.length_map]; omega) | (simp only [AllT.iff, List.all_cons, List.all_nil, id, Bool.and_eq_true, Bool.not_eq_true', decide_eq_true_eq, decide_eq_false_iff_not, and_true] at hc; first | omega | (simp only [List.length_set, List.length_append, List.length_cons, List.length_nil, List.length_replicate, List.length_take, List.length_drop, List.length_map]; omega)) | (exfalso; simp_all [AllT]; done)))) ?_ | refine sw_step rfl rfl rfl (OpR.q (q_loadF rfl rfl rfl (by first | exact fun w hw => Stb.cl (by assumption) hw | exact fun w hw => rd_own hw (by first | assumption | (repeat first | exact .head _ | apply List.Mem.tail)) | assumption) (by intro hc; first | omega | (simp only [List.length_set, List.length_append, List.length_cons, List.length_nil, List.length_replicate, List.length_take, List.length_drop, List.length_map]; omega) | (simp only [AllT.iff, List.all_cons, List.all_nil, id, Bool.and_eq_true, Bool.not_eq_true', decide_eq_true_eq, decide_eq_false_iff_not, and_true] at hc; first | omega | (simp only [List.length_set, List.length_append, List.length_cons, List.length_nil, List.length_replicate, List.length_take, List.length_drop, List.length_map]; omega)) | (exfalso; simp_all [AllT]; done)) rfl)) ?_ | refine sw_step rfl rfl rfl (OpR.q (q_loadS rfl rfl (fun w hw => Stb.cl (by assumption) hw) rfl)) ?_
        refine sw_step rfl rfl rfl (q_call (CanCall.mk Try.call36) rfl (.cons rfl inferInstance (.nil)) (fun _ w hw => callq hw (refStamp_spec _ w))) ?_
        refine sw_step rfl rfl rfl (OpR.q (q_not rfl rfl)) ?_
        refine sw_step rfl rfl rfl (OpR.q (q_move rfl rfl)) ?_
        first | refine sw_step rfl rfl rfl (OpR.q (q_loadC rfl rfl (by first | assumption | (repeat first | exact .head _ | apply List.Mem.tail)) rfl)) ?_ | refine sw_step rfl rfl rfl (OpR.q (q_loadA rfl rfl (by first | assumption | (repeat first | exact .head _ | apply List.Mem.tail)) rfl)) ?_ | refine sw_step rfl rfl rfl (OpR.q (q_loadEl rfl rfl rfl (by first | exact fun w hw => Stb.cl (by assumption) hw | exact fun w hw => rd_own hw (by first | assumption | (repeat first | exact .head _ | apply List.Mem.tail)) | assumption) (by intro hc; first | omega | (simp only [List.length_set, List.length_append, List.length_cons, List.length_nil, List.length_replicate, List.length_take, List.length_drop, List.length_map]; omega) | (simp only [AllT.iff, List.all_cons, List.all_nil, id, Bool.and_eq_true, Bool.not_eq_true', decide_eq_true_eq, decide_eq_false_iff_not, and_true] at hc; first | omega | (simp only [List.length_set, List.length_append, List.length_cons, List.length_nil, List.length_replicate, List.length_take, List.length_drop, List.length_map]; omega)) | (exfalso; simp_all [AllT]; done)))) ?_ | refine sw_step rfl rfl rfl (OpR.q (q_loadF rfl rfl rfl (by first | exact fun w hw => Stb.cl (by assumption) hw | exact fun w hw => rd_own hw (by first | assumption | (repeat first | exact .head _ | apply List.Mem.tail)) | assumption) (by intro hc; first | omega | (simp only [List.length_set, List.length_append, List.length_cons, List.length_nil, List.length_replicate, List.length_take, List.length_drop, List.length_map]; omega) | (simp only [AllT.iff, List.all_cons, List.all_nil, id, Bool.and_eq_true, Bool.not_eq_true', decide_eq_true_eq, decide_eq_false_iff_not, and_true] at hc; first | omega | (simp only [List.length_set, List.length_append, List.length_cons, List.length_nil, List.length_replicate, List.length_take, List.length_drop, List.length_map]; omega)) | (exfalso; simp_all [AllT]; done)) rfl)) ?_ | refine sw_step rfl rfl rfl (OpR.q (q_loadS rfl rfl (fun w hw => Stb.cl (by assumption) hw) rfl)) ?_
        refine sw_step rfl rfl rfl (OpR.q (q_move rfl rfl)) ?_
        refine sw_step rfl rfl rfl (q_call (CanCall.mk Try.call37) rfl (.cons rfl inferInstance (.cons rfl inferInstance (.nil))) (fun _ w hw => callq hw (refMessage_spec _ _ (by first | assumption | simp_all [AllT]) w))) ?_
        refine sw_step rfl rfl rfl (OpR.q (q_not rfl rfl)) ?_
        refine sw_step rfl rfl rfl (OpR.q (q_or2 rfl rfl rfl)) ?_
        refine sw_nil ?_
        refine post_then ?_
        -- STOP at: cond
        refine cw_cond rfl (fun h2 => ?_) (fun h2 => ?_)
        · skip
          simp [hm, hg] at h2
        · skip
          refine cw_c (C' := Cl w [] [ownL 4 s22.v (wordL m msg), blk b6 (enc m) 55]) (fun w h => by rw [h1] at h; exact h) ?_
          refine cw_skip ?_
          refine post_then ?_
          refine cw_seq ?_
          -- region 10
          refine cw_region ?_
          refine sw_step rfl rfl rfl (OpR.q (q_move rfl rfl)) ?_
          refine sw_step rfl rfl rfl (OpR.q (q_eql rfl rfl rfl)) ?_
          refine sw_step rfl rfl rfl (OpR.q (q_move rfl rfl)) ?_
          refine sw_step rfl rfl rfl (OpR.q (q_move rfl rfl)) ?_
          first | refine sw_step rfl rfl rfl (OpR.q (q_loadC rfl rfl (by first | assumption | (repeat first | exact .head _ | apply List.Mem.tail)) rfl)) ?_ | refine sw_step rfl rfl rfl (OpR.q (q_loadA rfl rfl (by first | assumption | (repeat first | exact .head _ | apply List.Mem.tail)) rfl)) ?_ | refine sw_step rfl rfl rfl (OpR.q (q_loadEl rfl rfl rfl (by first | exact fun w hw => Stb.cl (by assumption) hw | exact fun w hw => rd_own hw (by first | assumption | (repeat first | exact .head _ | apply List.Mem.tail)) | assumption) (by intro hc; first | omega | (simp only [List.length_set, List.length_append, List.length_cons, List.length_nil, List.length_replicate, List.length_take, List.length_drop, List.length_map]; omega) | (simp only [AllT.iff, List.all_cons, List.all_nil, id, Bool.and_eq_true, Bool.not_eq_true', decide_eq_true_eq, decide_eq_false_iff_not, and_true] at hc; first | omega | (simp only [List.length_set, List.length_append, List.length_cons, List.length_nil, List.length_replicate, List.length_take, List.length_drop, List.length_map]; omega)) | (exfalso; simp_all [AllT]; done)))) ?_ | refine sw_step rfl rfl rfl (OpR.q (q_loadF rfl rfl rfl (by first | exact fun w hw => Stb.cl (by assumption) hw | exact fun w hw => rd_own hw (by first | assumption | (repeat first | exact .head _ | apply List.Mem.tail)) | assumption) (by intro hc; first | omega | (simp only [List.length_set, List.length_append, List.length_cons, List.length_nil, List.length_replicate, List.length_take, List.length_drop, List.length_map]; omega) | (simp only [AllT.iff, List.all_cons, List.all_nil, id, Bool.and_eq_true, Bool.not_eq_true', decide_eq_true_eq, decide_eq_false_iff_not, and_true] at hc; first | omega | (simp only [List.length_set, List.length_append, List.length_cons, List.length_nil, List.length_replicate, List.length_take, List.length_drop, List.length_map]; omega)) | (exfalso; simp_all [AllT]; done)) rfl)) ?_ | refine sw_step rfl rfl rfl (OpR.q (q_loadS rfl rfl (fun w hw => Stb.cl (by assumption) hw) rfl)) ?_
          refine sw_step rfl rfl rfl (OpR.q (q_move rfl rfl)) ?_
          -- STOP at: t81  := call {callee=(value F38), args=[t79, t80], argTypes=[55, 3]} :30 ?<2, true>
          refine sw_xc rfl (by first | (simp [AllT]; done) | simp [AllT, *]) rfl rfl (e_callc (CanCall.mk Try.call38) rfl (.cons rfl inferInstance (.cons rfl inferInstance (.nil))) (fun w hw => refWord_spec m msg hm hgb w)) (fun s81 => ?_)
          refine sw_imp fun _ => ?_
          refine sw_step rfl rfl rfl (q_call (CanCall.mk Try.call20) rfl (.cons rfl inferInstance (.cons rfl inferInstance (.nil))) (fun _ w hw => callq hw (sameBools_spec _ _ _ _ w (by first | exact stb_arg hw (by assumption) | exact stb_own hw (by first | assumption | (repeat first | exact .head _ | apply List.Mem.tail))) (by first | exact stb_arg hw (by assumption) | exact stb_own hw (by first | assumption | (repeat first | exact .head _ | apply List.Mem.tail)))))) ?_
          refine sw_step rfl rfl rfl (OpR.q (q_and2 rfl rfl rfl)) ?_
          refine sw_step rfl rfl rfl (OpR.q (q_move rfl rfl)) ?_
          refine sw_step rfl rfl rfl (q_call (CanCall.mk Try.call15) rfl (.nil) (fun _ w hw => callq hw (known_spec w))) ?_
          refine sw_step rfl rfl rfl (OpR.q (q_and2 rfl rfl rfl)) ?_
          refine sw_step rfl rfl rfl (OpR.q (q_assign rfl rfl)) ?_
          refine sw_nil ?_
          refine post_then ?_
          refine cw_ret ?_
          refine post_ret1 rfl (resOk_tmp rfl) ?_
          exact fun w' hw => ⟨by simp [h1], (fun w h => Cl.sel (by repeat (first | exact Sel.nil _ | refine Sel.take 0 rfl ?_ | refine Sel.take 1 rfl ?_ | refine Sel.take 2 rfl ?_ | refine Sel.take 3 rfl ?_ | refine Sel.take 4 rfl ?_ | refine Sel.take 5 rfl ?_ | refine Sel.take 6 rfl ?_ | refine Sel.take 7 rfl ?_)) w h) _ hw⟩
/-! ### words of different messages differ -/
theorem bitOf_nat (a i : Nat) : bitOf (a : Int) (i : Int) = a.testBit i := by
  rw [Nat.testBit_eq_decide_div_mod_eq, bitOf, decide_eq_decide, Int.toNat_natCast]
  have : (a : Int) / 2 ^ i % 2 = ((a / 2 ^ i % 2 : Nat) : Int) := by simp
  rw [this]
  omega
theorem msgL_inj {n : Nat} {a b : Int} (ha : 0 ≤ a ∧ a < 2 ^ n) (hb : 0 ≤ b ∧ b < 2 ^ n) (h : msgL n a n = msgL n b n) : a = b := by
  obtain ⟨x, rfl⟩ := Int.eq_ofNat_of_zero_le ha.1
  obtain ⟨y, rfl⟩ := Int.eq_ofNat_of_zero_le hb.1
  have hx : x < 2 ^ n := by have := ha.2; exact_mod_cast this
  have hy : y < 2 ^ n := by have := hb.2; exact_mod_cast this
  congr 1
  refine Nat.eq_of_testBit_eq fun i => ?_
  by_cases hi : i < n
  · have h1 := congrArg (fun l => l[n - 1 - i]?) h
    simp only [msgL, List.getElem?_map] at h1
    rw [List.getElem?_range (by omega)] at h1
    simp only [Option.map_some, Option.some.injEq] at h1
    rw [show ((n : Int) - 1 - (n - 1 - i : Nat)) = (i : Int) by omega, bitOf_nat, bitOf_nat] at h1
    exact h1
  · have h2 : 2 ^ n ≤ 2 ^ i := Nat.pow_le_pow_right (by decide) (by omega)
    rw [Nat.testBit_lt_two_pow (by omega), Nat.testBit_lt_two_pow (by omega)]
theorem wordL_inj {m : Stamp} {a b : Int} (ha : okMsg m a = true) (hb : okMsg m b = true) : wordL m a = wordL m b ↔ a = b := by
  constructor
  · intro h
    have h1 := List.append_inj_left h (by rw [msgL_len, msgL_len])
    simp [okMsg] at ha hb
    exact msgL_inj ha hb h1
  · rintro rfl; rfl

theorem lawWords (m : Stamp) (a b : Int) (w : World) :
    Calls Try.prog 8 #[val m, .int .i64 a, .int .i64 b] w fun e w' => e = .returned (.bool true) ∧ Cl w [] [] w' := by
  refine calls_cw (vs := [_, _, _]) Try.func8 rfl Try.ntmps8 rfl (Cl.start0 w) ?_
  refine cw_seq ?_
  -- region 0
  refine cw_region ?_
  refine sw_x rfl rfl rfl (e_box rfl rfl rfl) (fun b3 => ?_)
  refine sw_step rfl rfl rfl (OpR.q (q_assign rfl rfl)) ?_
  refine sw_nil ?_
  refine post_then ?_
  refine cw_seq ?_
  refine cw_seq ?_
  -- region 1
  refine cw_region ?_
  first | refine sw_step rfl rfl rfl (OpR.q (q_loadC rfl rfl (by first | assumption | (repeat first | exact .head _ | apply List.Mem.tail)) rfl)) ?_ | refine sw_step rfl rfl rfl (OpR.q (q_loadA rfl rfl (by first | assumption | (repeat first | exact .head _ | apply List.Mem.tail)) rfl)) ?_ | refine sw_step rfl rfl rfl (OpR.q (q_loadEl rfl rfl rfl (by first | exact fun w hw => Stb.cl (by assumption) hw | exact fun w hw => rd_own hw (by first | assumption | (repeat first | exact .head _ | apply List.Mem.tail)) | assumption) (by intro hc; first | omega | (simp only [List.length_set, List.length_append, List.length_cons, List.length_nil, List.length_replicate, List.length_take, List.length_drop, List.length_map]; omega) | (simp only [AllT.iff, List.all_cons, List.all_nil, id, Bool.and_eq_true, Bool.not_eq_true', decide_eq_true_eq, decide_eq_false_iff_not, and_true] at hc; first | omega | (simp only [List.length_set, List.length_append, List.length_cons, List.length_nil, List.length_replicate, List.length_take, List.length_drop, List.length_map]; omega)) | (exfalso; simp_all [AllT]; done)))) ?_ | refine sw_step rfl rfl rfl (OpR.q (q_loadF rfl rfl rfl (by first | exact fun w hw => Stb.cl (by assumption) hw | exact fun w hw => rd_own hw (by first | assumption | (repeat first | exact .head _ | apply List.Mem.tail)) | assumption) (by intro hc; first | omega | (simp only [List.length_set, List.length_append, List.length_cons, List.length_nil, List.length_replicate, List.length_take, List.length_drop, List.length_map]; omega) | (simp only [AllT.iff, List.all_cons, List.all_nil, id, Bool.and_eq_true, Bool.not_eq_true', decide_eq_true_eq, decide_eq_false_iff_not, and_true] at hc; first | omega | (simp only [List.length_set, List.length_append, List.length_cons, List.length_nil, List.length_replicate, List.length_take, List.length_drop, List.length_map]; omega)) | (exfalso; simp_all [AllT]; done)) rfl)) ?_ | refine sw_step rfl rfl rfl (OpR.q (q_loadS rfl rfl (fun w hw => Stb.cl (by assumption) hw) rfl)) ?_
  refine sw_step rfl rfl rfl (q_call (CanCall.mk Try.call36) rfl (.cons rfl inferInstance (.nil)) (fun _ w hw => callq hw (refStamp_spec _ w))) ?_
  refine sw_step rfl rfl rfl (OpR.q (q_not rfl rfl)) ?_
  refine sw_step rfl rfl rfl (OpR.q (q_move rfl rfl)) ?_
  first | refine sw_step rfl rfl rfl (OpR.q (q_loadC rfl rfl (by first | assumption | (repeat first | exact .head _ | apply List.Mem.tail)) rfl)) ?_ | refine sw_step rfl rfl rfl (OpR.q (q_loadA rfl rfl (by first | assumption | (repeat first | exact .head _ | apply List.Mem.tail)) rfl)) ?_ | refine sw_step rfl rfl rfl (OpR.q (q_loadEl rfl rfl rfl (by first | exact fun w hw => Stb.cl (by assumption) hw | exact fun w hw => rd_own hw (by first | assumption | (repeat first | exact .head _ | apply List.Mem.tail)) | assumption) (by intro hc; first | omega | (simp only [List.length_set, List.length_append, List.length_cons, List.length_nil, List.length_replicate, List.length_take, List.length_drop, List.length_map]; omega) | (simp only [AllT.iff, List.all_cons, List.all_nil, id, Bool.and_eq_true, Bool.not_eq_true', decide_eq_true_eq, decide_eq_false_iff_not, and_true] at hc; first | omega | (simp only [List.length_set, List.length_append, List.length_cons, List.length_nil, List.length_replicate, List.length_take, List.length_drop, List.length_map]; omega)) | (exfalso; simp_all [AllT]; done)))) ?_ | refine sw_step rfl rfl rfl (OpR.q (q_loadF rfl rfl rfl (by first | exact fun w hw => Stb.cl (by assumption) hw | exact fun w hw => rd_own hw (by first | assumption | (repeat first | exact .head _ | apply List.Mem.tail)) | assumption) (by intro hc; first | omega | (simp only [List.length_set, List.length_append, List.length_cons, List.length_nil, List.length_replicate, List.length_take, List.length_drop, List.length_map]; omega) | (simp only [AllT.iff, List.all_cons, List.all_nil, id, Bool.and_eq_true, Bool.not_eq_true', decide_eq_true_eq, decide_eq_false_iff_not, and_true] at hc; first | omega | (simp only [List.length_set, List.length_append, List.length_cons, List.length_nil, List.length_replicate, List.length_take, List.length_drop, List.length_map]; omega)) | (exfalso; simp_all [AllT]; done)) rfl)) ?_ | refine sw_step rfl rfl rfl (OpR.q (q_loadS rfl rfl (fun w hw => Stb.cl (by assumption) hw) rfl)) ?_
  refine sw_step rfl rfl rfl (OpR.q (q_move rfl rfl)) ?_
  refine sw_step rfl rfl rfl (q_call (CanCall.mk Try.call37) rfl (.cons rfl inferInstance (.cons rfl inferInstance (.nil))) (fun _ w hw => callq hw (refMessage_spec _ _ (by first | assumption | simp_all [AllT]) w))) ?_
  refine sw_step rfl rfl rfl (OpR.q (q_not rfl rfl)) ?_
  refine sw_step rfl rfl rfl (OpR.q (q_or2 rfl rfl rfl)) ?_
  refine sw_step rfl rfl rfl (OpR.q (q_move rfl rfl)) ?_
  first | refine sw_step rfl rfl rfl (OpR.q (q_loadC rfl rfl (by first | assumption | (repeat first | exact .head _ | apply List.Mem.tail)) rfl)) ?_ | refine sw_step rfl rfl rfl (OpR.q (q_loadA rfl rfl (by first | assumption | (repeat first | exact .head _ | apply List.Mem.tail)) rfl)) ?_ | refine sw_step rfl rfl rfl (OpR.q (q_loadEl rfl rfl rfl (by first | exact fun w hw => Stb.cl (by assumption) hw | exact fun w hw => rd_own hw (by first | assumption | (repeat first | exact .head _ | apply List.Mem.tail)) | assumption) (by intro hc; first | omega | (simp only [List.length_set, List.length_append, List.length_cons, List.length_nil, List.length_replicate, List.length_take, List.length_drop, List.length_map]; omega) | (simp only [AllT.iff, List.all_cons, List.all_nil, id, Bool.and_eq_true, Bool.not_eq_true', decide_eq_true_eq, decide_eq_false_iff_not, and_true] at hc; first | omega | (simp only [List.length_set, List.length_append, List.length_cons, List.length_nil, List.length_replicate, List.length_take, List.length_drop, List.length_map]; omega)) | (exfalso; simp_all [AllT]; done)))) ?_ | refine sw_step rfl rfl rfl (OpR.q (q_loadF rfl rfl rfl (by first | exact fun w hw => Stb.cl (by assumption) hw | exact fun w hw => rd_own hw (by first | assumption | (repeat first | exact .head _ | apply List.Mem.tail)) | assumption) (by intro hc; first | omega | (simp only [List.length_set, List.length_append, List.length_cons, List.length_nil, List.length_replicate, List.length_take, List.length_drop, List.length_map]; omega) | (simp only [AllT.iff, List.all_cons, List.all_nil, id, Bool.and_eq_true, Bool.not_eq_true', decide_eq_true_eq, decide_eq_false_iff_not, and_true] at hc; first | omega | (simp only [List.length_set, List.length_append, List.length_cons, List.length_nil, List.length_replicate, List.length_take, List.length_drop, List.length_map]; omega)) | (exfalso; simp_all [AllT]; done)) rfl)) ?_ | refine sw_step rfl rfl rfl (OpR.q (q_loadS rfl rfl (fun w hw => Stb.cl (by assumption) hw) rfl)) ?_
  refine sw_step rfl rfl rfl (OpR.q (q_move rfl rfl)) ?_
  refine sw_step rfl rfl rfl (q_call (CanCall.mk Try.call37) rfl (.cons rfl inferInstance (.cons rfl inferInstance (.nil))) (fun _ w hw => callq hw (refMessage_spec _ _ (by first | assumption | simp_all [AllT]) w))) ?_
  refine sw_step rfl rfl rfl (OpR.q (q_not rfl rfl)) ?_
  refine sw_step rfl rfl rfl (OpR.q (q_or2 rfl rfl rfl)) ?_
  refine sw_nil ?_
  refine post_then ?_
  -- STOP at: cond
  refine cw_cond rfl (fun h => ?_) (fun h => ?_)
  · skip
    refine cw_seq ?_
    -- region 2
    refine cw_region ?_
    refine sw_step rfl rfl rfl (q_call (CanCall.mk Try.call15) rfl (.nil) (fun _ w hw => callq hw (known_spec w))) ?_
    refine sw_step rfl rfl rfl (OpR.q (q_assign rfl rfl)) ?_
    refine sw_nil ?_
    refine post_then ?_
    refine cw_ret ?_
    refine post_then_r ?_
    refine post_ret1 rfl (resOk_tmp rfl) ?_
    exact fun w' hw => ⟨rfl, (fun w h => Cl.sel (by repeat (first | exact Sel.nil _ | refine Sel.take 0 rfl ?_ | refine Sel.take 1 rfl ?_ | refine Sel.take 2 rfl ?_ | refine Sel.take 3 rfl ?_ | refine Sel.take 4 rfl ?_ | refine Sel.take 5 rfl ?_ | refine Sel.take 6 rfl ?_ | refine Sel.take 7 rfl ?_)) w h) _ hw⟩
  · skip
    have hm : rightS m = true := by simp at h; exact h.1.1
    have ha : okMsg m a = true := by simp at h; exact h.1.2
    have hb : okMsg m b = true := by simp at h; exact h.2
    have e1 : wordOk m a = true := by simp [wordOk, hm, ha]
    have e2 : wordOk m b = true := by simp [wordOk, hm, hb]
    refine cw_skip ?_
    refine post_then ?_
    refine cw_seq ?_
    -- region 3
    refine cw_region ?_
    first | refine sw_step rfl rfl rfl (OpR.q (q_loadC rfl rfl (by first | assumption | (repeat first | exact .head _ | apply List.Mem.tail)) rfl)) ?_ | refine sw_step rfl rfl rfl (OpR.q (q_loadA rfl rfl (by first | assumption | (repeat first | exact .head _ | apply List.Mem.tail)) rfl)) ?_ | refine sw_step rfl rfl rfl (OpR.q (q_loadEl rfl rfl rfl (by first | exact fun w hw => Stb.cl (by assumption) hw | exact fun w hw => rd_own hw (by first | assumption | (repeat first | exact .head _ | apply List.Mem.tail)) | assumption) (by intro hc; first | omega | (simp only [List.length_set, List.length_append, List.length_cons, List.length_nil, List.length_replicate, List.length_take, List.length_drop, List.length_map]; omega) | (simp only [AllT.iff, List.all_cons, List.all_nil, id, Bool.and_eq_true, Bool.not_eq_true', decide_eq_true_eq, decide_eq_false_iff_not, and_true] at hc; first | omega | (simp only [List.length_set, List.length_append, List.length_cons, List.length_nil, List.length_replicate, List.length_take, List.length_drop, List.length_map]; omega)) | (exfalso; simp_all [AllT]; done)))) ?_ | refine sw_step rfl rfl rfl (OpR.q (q_loadF rfl rfl rfl (by first | exact fun w hw => Stb.cl (by assumption) hw | exact fun w hw => rd_own hw (by first | assumption | (repeat first | exact .head _ | apply List.Mem.tail)) | assumption) (by intro hc; first | omega | (simp only [List.length_set, List.length_append, List.length_cons, List.length_nil, List.length_replicate, List.length_take, List.length_drop, List.length_map]; omega) | (simp only [AllT.iff, List.all_cons, List.all_nil, id, Bool.and_eq_true, Bool.not_eq_true', decide_eq_true_eq, decide_eq_false_iff_not, and_true] at hc; first | omega | (simp only [List.length_set, List.length_append, List.length_cons, List.length_nil, List.length_replicate, List.length_take, List.length_drop, List.length_map]; omega)) | (exfalso; simp_all [AllT]; done)) rfl)) ?_ | refine sw_step rfl rfl rfl (OpR.q (q_loadS rfl rfl (fun w hw => Stb.cl (by assumption) hw) rfl)) ?_
    refine sw_step rfl rfl rfl (OpR.q (q_move rfl rfl)) ?_
    -- STOP at: t30  := call {callee=(value F34), args=[t28, t29], argTypes=[55, 3]} :31
    refine sw_x rfl rfl rfl (e_call (CanCall.mk Try.call34) rfl (.cons rfl inferInstance (.cons rfl inferInstance (.nil))) (fun w hw => houseWord_spec m a w)) (fun s30 => ?_)
    rw [e1]
    refine sw_imp fun _ => ?_
    refine sw_step rfl rfl rfl (OpR.q (q_move rfl rfl)) ?_
    first | refine sw_step rfl rfl rfl (OpR.q (q_extract rfl rfl rfl)) ?_ | refine sw_step rfl rfl rfl (OpR.q (q_extract rfl rfl (nextV_0 _))) ?_
    first | refine sw_step rfl rfl rfl (OpR.q (q_extract rfl rfl rfl)) ?_ | refine sw_step rfl rfl rfl (OpR.q (q_extract rfl rfl (nextV_0 _))) ?_
    refine sw_step rfl rfl rfl (OpR.q (q_assign rfl rfl)) ?_
    refine sw_step rfl rfl rfl (OpR.q (q_assign rfl rfl)) ?_
    refine sw_nil ?_
    refine post_then ?_
    refine cw_seq ?_
    -- region 4
    refine cw_region ?_
    first | refine sw_step rfl rfl rfl (OpR.q (q_loadC rfl rfl (by first | assumption | (repeat first | exact .head _ | apply List.Mem.tail)) rfl)) ?_ | refine sw_step rfl rfl rfl (OpR.q (q_loadA rfl rfl (by first | assumption | (repeat first | exact .head _ | apply List.Mem.tail)) rfl)) ?_ | refine sw_step rfl rfl rfl (OpR.q (q_loadEl rfl rfl rfl (by first | exact fun w hw => Stb.cl (by assumption) hw | exact fun w hw => rd_own hw (by first | assumption | (repeat first | exact .head _ | apply List.Mem.tail)) | assumption) (by intro hc; first | omega | (simp only [List.length_set, List.length_append, List.length_cons, List.length_nil, List.length_replicate, List.length_take, List.length_drop, List.length_map]; omega) | (simp only [AllT.iff, List.all_cons, List.all_nil, id, Bool.and_eq_true, Bool.not_eq_true', decide_eq_true_eq, decide_eq_false_iff_not, and_true] at hc; first | omega | (simp only [List.length_set, List.length_append, List.length_cons, List.length_nil, List.length_replicate, List.length_take, List.length_drop, List.length_map]; omega)) | (exfalso; simp_all [AllT]; done)))) ?_ | refine sw_step rfl rfl rfl (OpR.q (q_loadF rfl rfl rfl (by first | exact fun w hw => Stb.cl (by assumption) hw | exact fun w hw => rd_own hw (by first | assumption | (repeat first | exact .head _ | apply List.Mem.tail)) | assumption) (by intro hc; first | omega | (simp only [List.length_set, List.length_append, List.length_cons, List.length_nil, List.length_replicate, List.length_take, List.length_drop, List.length_map]; omega) | (simp only [AllT.iff, List.all_cons, List.all_nil, id, Bool.and_eq_true, Bool.not_eq_true', decide_eq_true_eq, decide_eq_false_iff_not, and_true] at hc; first | omega | (simp only [List.length_set, List.length_append, List.length_cons, List.length_nil, List.length_replicate, List.length_take, List.length_drop, List.length_map]; omega)) | (exfalso; simp_all [AllT]; done)) rfl)) ?_ | refine sw_step rfl rfl rfl (OpR.q (q_loadS rfl rfl (fun w hw => Stb.cl (by assumption) hw) rfl)) ?_
    refine sw_step rfl rfl rfl (OpR.q (q_move rfl rfl)) ?_
    -- STOP at: t36  := call {callee=(value F34), args=[t34, t35], argTypes=[55, 3]} :31
    refine sw_x rfl rfl rfl (e_call (CanCall.mk Try.call34) rfl (.cons rfl inferInstance (.cons rfl inferInstance (.nil))) (fun w hw => houseWord_spec m b w)) (fun s36 => ?_)
    rw [e2]
    refine sw_imp fun _ => ?_
    refine sw_step rfl rfl rfl (OpR.q (q_move rfl rfl)) ?_
    first | refine sw_step rfl rfl rfl (OpR.q (q_extract rfl rfl rfl)) ?_ | refine sw_step rfl rfl rfl (OpR.q (q_extract rfl rfl (nextV_0 _))) ?_
    first | refine sw_step rfl rfl rfl (OpR.q (q_extract rfl rfl rfl)) ?_ | refine sw_step rfl rfl rfl (OpR.q (q_extract rfl rfl (nextV_0 _))) ?_
    refine sw_step rfl rfl rfl (OpR.q (q_assign rfl rfl)) ?_
    refine sw_step rfl rfl rfl (OpR.q (q_assign rfl rfl)) ?_
    refine sw_nil ?_
    refine post_then ?_
    refine cw_seq ?_
    -- region 5
    refine cw_region ?_
    refine sw_step rfl rfl rfl (OpR.q (q_move rfl rfl)) ?_
    refine sw_step rfl rfl rfl (OpR.q (q_eql rfl rfl rfl)) ?_
    refine sw_step rfl rfl rfl (OpR.q (q_move rfl rfl)) ?_
    refine sw_step rfl rfl rfl (OpR.q (q_move rfl rfl)) ?_
    refine sw_step rfl rfl rfl (OpR.q (q_eql rfl rfl rfl)) ?_
    refine sw_step rfl rfl rfl (OpR.q (q_and2 rfl rfl rfl)) ?_
    refine sw_step rfl rfl rfl (OpR.q (q_move rfl rfl)) ?_
    refine sw_step rfl rfl rfl (OpR.q (q_move rfl rfl)) ?_
    refine sw_step rfl rfl rfl (OpR.q (q_move rfl rfl)) ?_
    refine sw_step rfl rfl rfl (q_call (CanCall.mk Try.call20) rfl (.cons rfl inferInstance (.cons rfl inferInstance (.nil))) (fun _ w hw => callq hw (sameBools_spec _ _ _ _ w (by first | exact stb_arg hw (by assumption) | exact stb_own hw (by first | assumption | (repeat first | exact .head _ | apply List.Mem.tail))) (by first | exact stb_arg hw (by assumption) | exact stb_own hw (by first | assumption | (repeat first | exact .head _ | apply List.Mem.tail)))))) ?_
    refine sw_step rfl rfl rfl (OpR.q (q_move rfl rfl)) ?_
    refine sw_step rfl rfl rfl (OpR.q (q_move rfl rfl)) ?_
    refine sw_step rfl rfl rfl (OpR.q (q_eql rfl rfl rfl)) ?_
    refine sw_step rfl rfl rfl (OpR.q (q_eql_b rfl rfl rfl Try.underlying4)) ?_
    refine sw_step rfl rfl rfl (OpR.q (q_and2 rfl rfl rfl)) ?_
    refine sw_step rfl rfl rfl (OpR.q (q_move rfl rfl)) ?_
    refine sw_step rfl rfl rfl (q_call (CanCall.mk Try.call15) rfl (.nil) (fun _ w hw => callq hw (known_spec w))) ?_
    refine sw_step rfl rfl rfl (OpR.q (q_and2 rfl rfl rfl)) ?_
    refine sw_step rfl rfl rfl (OpR.q (q_assign rfl rfl)) ?_
    refine sw_nil ?_
    refine post_then ?_
    refine cw_ret ?_
    refine post_ret1 rfl (resOk_tmp rfl) ?_
    refine fun w' hw => ⟨?_, (fun w h => Cl.sel (by repeat (first | exact Sel.nil _ | refine Sel.take 0 rfl ?_ | refine Sel.take 1 rfl ?_ | refine Sel.take 2 rfl ?_ | refine Sel.take 3 rfl ?_ | refine Sel.take 4 rfl ?_ | refine Sel.take 5 rfl ?_ | refine Sel.take 6 rfl ?_ | refine Sel.take 7 rfl ?_)) w h) _ hw⟩
    simp [wordL_inj ha hb]
end Go.Proofs.Ytekikelejncgeaa
