import Derived.Test.YtekikelejncgeaaZL
set_option autoImplicit false
set_option linter.unusedSimpArgs false
set_option linter.unusedVariables false
set_option maxRecDepth 100000
namespace Go.Proofs.Ytekikelejncgeaa
open Go.Sx
open Enc (enc val)

/-! ### HouseSurvives -/
def survOk (m : Stamp) (thr num den most : Int) : Bool := rightS m && inB thr 1 1000000000 && inB num 1 1000000 && inB den 1 1000000 && inB most 0 32768
def survB (m : Stamp) (thr num den most : Int) : Bool := decide (den * (2 * thr + m.period + 2 * most * m.period) ≤ 2 * m.margin * num)
structure SurvBd (m : Stamp) (thr num den most : Int) : Prop where
  bthr : 1 ≤ thr ∧ thr ≤ 1000000000
  bnum : 1 ≤ num ∧ num ≤ 1000000
  bden : 1 ≤ den ∧ den ≤ 1000000
  bmost : 0 ≤ most ∧ most ≤ 32768
  p1 : -2000000000000000 ≤ 2 * m.margin * num ∧ 2 * m.margin * num ≤ 2000000000000000
  p2 : -16777216 ≤ 2 * most * m.period ∧ 2 * most * m.period ≤ 16777216
  p3 : -3000000000000000 ≤ den * (2 * thr + m.period + 2 * most * m.period) ∧ den * (2 * thr + m.period + 2 * most * m.period) ≤ 3000000000000000
theorem surv_bd {m : Stamp} {thr num den most : Int} (h : survOk m thr num den most = true) : SurvBd m thr num den most := by
  simp only [survOk, Bool.and_eq_true] at h
  obtain ⟨⟨⟨⟨h1, h2⟩, h3⟩, h4⟩, h5⟩ := h
  have hb := rightS_bd h1
  simp [inB] at h2 h3 h4 h5
  have p1 := prod_bd2 (a := 2 * m.margin) (b := num) (A := 2000000000) (B := 1000000) (by omega) (by omega) (by decide)
  have p2 := prod_bd2 (a := 2 * most) (b := m.period) (A := 65536) (B := 256) (by omega) (by omega) (by decide)
  have p3 := prod_bd2 (a := 2 * thr + m.period + 2 * most * m.period) (b := den) (A := 3000000000) (B := 1000000) (by omega) (by omega) (by decide)
  rw [Int.mul_comm _ den] at p3
  exact ⟨h2, h3, h4, h5, by omega, by omega, by omega⟩
theorem survives_spec (m : Stamp) (thr num den most : Int) (w : World) : Calls Try.prog 50 #[val m, .int .i64 thr, .int .i64 num, .int .i64 den, .int .i64 most] w fun e w' =>
    e = .returned (.tuple #[.bool (survOk m thr num den most && survB m thr num den most), .int .i64 (if survOk m thr num den most = true then 0 else 2)]) ∧ Cl w [] [] w' := by
  refine calls_cw (vs := [_, _, _, _, _]) Try.func50 rfl Try.ntmps50 rfl (Cl.start0 w) ?_
  refine cw_seq ?_
  -- region 0
  refine cw_region ?_
  refine sw_x rfl rfl rfl (e_box rfl rfl rfl) (fun b5 => ?_)
  refine sw_step rfl rfl rfl (OpR.q (q_assign rfl rfl)) ?_
  refine sw_step rfl rfl rfl (OpR.q (q_assign rfl rfl)) ?_
  refine sw_nil ?_
  refine post_then ?_
  refine cw_seq ?_
  refine cw_seq ?_
  -- region 1
  refine cw_region ?_
  first | refine sw_step rfl rfl rfl (OpR.q (q_loadC rfl rfl (by first | assumption | (repeat first | exact .head _ | apply List.Mem.tail)) rfl)) ?_ | refine sw_step rfl rfl rfl (OpR.q (q_loadA rfl rfl (by first | assumption | (repeat first | exact .head _ | apply List.Mem.tail)) rfl)) ?_ | refine sw_step rfl rfl rfl (OpR.q (q_loadEl rfl rfl rfl (by first | exact fun w hw => Stb.cl (by assumption) hw | exact fun w hw => rd_own hw (by first | assumption | (repeat first | exact .head _ | apply List.Mem.tail)) | assumption) (by intro hc; first | omega | (simp only [List.length_set, List.length_append, List.length_cons, List.length_nil, List.length_replicate, List.length_take, List.length_drop, List.length_map]; omega) | (simp only [AllT.iff, List.all_cons, List.all_nil, id, Bool.and_eq_true, Bool.not_eq_true', decide_eq_true_eq, decide_eq_false_iff_not, and_true] at hc; first | omega | (simp only [List.length_set, List.length_append, List.length_cons, List.length_nil, List.length_replicate, List.length_take, List.length_drop, List.length_map]; omega)) | (exfalso; simp_all [AllT]; done)))) ?_ | refine sw_step rfl rfl rfl (OpR.q (q_loadF rfl rfl rfl (by first | exact fun w hw => Stb.cl (by assumption) hw | exact fun w hw => rd_own hw (by first | assumption | (repeat first | exact .head _ | apply List.Mem.tail)) | assumption) (by intro hc; first | omega | (simp only [List.length_set, List.length_append, List.length_cons, List.length_nil, List.length_replicate, List.length_take, List.length_drop, List.length_map]; omega) | (simp only [AllT.iff, List.all_cons, List.all_nil, id, Bool.and_eq_true, Bool.not_eq_true', decide_eq_true_eq, decide_eq_false_iff_not, and_true] at hc; first | omega | (simp only [List.length_set, List.length_append, List.length_cons, List.length_nil, List.length_replicate, List.length_take, List.length_drop, List.length_map]; omega)) | (exfalso; simp_all [AllT]; done)) rfl)) ?_ | refine sw_step rfl rfl rfl (OpR.q (q_loadS rfl rfl (fun w hw => Stb.cl (by assumption) hw) rfl)) ?_
  refine sw_step rfl rfl rfl (q_call (CanCall.mk Try.call68) rfl (.cons rfl inferInstance (.nil)) (fun _ w hw => callq hw (right_spec _ w))) ?_
  refine sw_step rfl rfl rfl (OpR.q (q_not rfl rfl)) ?_
  refine sw_step rfl rfl rfl (OpR.q (q_move rfl rfl)) ?_
  refine sw_step rfl rfl rfl (OpR.q (q_move rfl rfl)) ?_
  refine sw_step rfl rfl rfl (q_call (CanCall.mk Try.call52) rfl (.cons rfl inferInstance (.cons rfl inferInstance (.cons rfl inferInstance (.nil)))) (fun _ w hw => callq hw (within_spec _ _ _ w))) ?_
  refine sw_step rfl rfl rfl (OpR.q (q_not rfl rfl)) ?_
  refine sw_step rfl rfl rfl (OpR.q (q_or2 rfl rfl rfl)) ?_
  refine sw_step rfl rfl rfl (OpR.q (q_move rfl rfl)) ?_
  refine sw_step rfl rfl rfl (OpR.q (q_move rfl rfl)) ?_
  refine sw_step rfl rfl rfl (q_call (CanCall.mk Try.call52) rfl (.cons rfl inferInstance (.cons rfl inferInstance (.cons rfl inferInstance (.nil)))) (fun _ w hw => callq hw (within_spec _ _ _ w))) ?_
  refine sw_step rfl rfl rfl (OpR.q (q_not rfl rfl)) ?_
  refine sw_step rfl rfl rfl (OpR.q (q_or2 rfl rfl rfl)) ?_
  refine sw_step rfl rfl rfl (OpR.q (q_move rfl rfl)) ?_
  refine sw_step rfl rfl rfl (OpR.q (q_move rfl rfl)) ?_
  refine sw_step rfl rfl rfl (q_call (CanCall.mk Try.call52) rfl (.cons rfl inferInstance (.cons rfl inferInstance (.cons rfl inferInstance (.nil)))) (fun _ w hw => callq hw (within_spec _ _ _ w))) ?_
  refine sw_step rfl rfl rfl (OpR.q (q_not rfl rfl)) ?_
  refine sw_step rfl rfl rfl (OpR.q (q_or2 rfl rfl rfl)) ?_
  refine sw_step rfl rfl rfl (OpR.q (q_move rfl rfl)) ?_
  refine sw_step rfl rfl rfl (OpR.q (q_move rfl rfl)) ?_
  refine sw_step rfl rfl rfl (q_call (CanCall.mk Try.call52) rfl (.cons rfl inferInstance (.cons rfl inferInstance (.cons rfl inferInstance (.nil)))) (fun _ w hw => callq hw (within_spec _ _ _ w))) ?_
  refine sw_step rfl rfl rfl (OpR.q (q_not rfl rfl)) ?_
  refine sw_step rfl rfl rfl (OpR.q (q_or2 rfl rfl rfl)) ?_
  refine sw_nil ?_
  refine post_then ?_
  -- STOP at: cond
  refine cw_cond rfl (fun h => ?_) (fun h => ?_)
  · skip
    have h1 : survOk m thr num den most = false := by
      simp only [survOk]
      simp only [Bool.or_eq_true, Bool.not_eq_true'] at h
      rcases h with (((h | h) | h) | h) | h <;> simp [h]
    refine cw_seq ?_
    -- region 2
    refine cw_region ?_
    refine sw_step rfl rfl rfl (OpR.q (q_assign rfl rfl)) ?_
    refine sw_step rfl rfl rfl (OpR.q (q_assign rfl rfl)) ?_
    refine sw_nil ?_
    refine post_then ?_
    refine cw_ret ?_
    refine post_then_r ?_
    refine post_ret2 rfl (resOk_tmp rfl) (resOk_tmp rfl) ?_
    exact fun w' hw => ⟨by rw [h1]; rfl, (fun w h => Cl.sel (by (repeat first | exact Sel.nil _ | refine Sel.take 0 rfl ?_ | refine Sel.take 1 rfl ?_ | refine Sel.take 2 rfl ?_ | refine Sel.take 3 rfl ?_ | refine Sel.take 4 rfl ?_ | refine Sel.take 5 rfl ?_ | refine Sel.take 6 rfl ?_ | refine Sel.take 7 rfl ?_ | refine Sel.take 8 rfl ?_ | refine Sel.take 9 rfl ?_ | refine Sel.take 10 rfl ?_ | refine Sel.take 11 rfl ?_)) w h) _ hw⟩
  · skip
    have h1 : survOk m thr num den most = true := by
      simp only [survOk]
      simp only [Bool.or_eq_false_iff, Bool.not_eq_false'] at h
      simp [h]
    have hs := surv_bd h1
    obtain ⟨b1, b2, b3, b4, p1, p2, p3⟩ := hs
    have hb : rightS m = true := by simp [survOk] at h1; exact h1.1.1.1.1
    have hb := rightS_bd hb
    refine cw_skip ?_
    refine post_then ?_
    refine cw_seq ?_
    -- region 3
    refine cw_region ?_
    first | refine sw_step rfl rfl rfl (OpR.q (q_fieldAddr rfl rfl)) ?_ | refine sw_step rfl rfl rfl (OpR.q (q_fieldEl rfl rfl (by first | exact fun w hw => Stb.cl (by assumption) hw | exact fun w hw => rd_own hw (by first | assumption | (repeat first | exact .head _ | apply List.Mem.tail)) | assumption) (by intro hc; first | omega | (simp only [List.length_set, List.length_append, List.length_cons, List.length_nil, List.length_replicate, List.length_take, List.length_drop, List.length_map]; omega) | (simp only [AllT.iff, List.all_cons, List.all_nil, id, Bool.and_eq_true, Bool.not_eq_true', decide_eq_true_eq, decide_eq_false_iff_not, and_true] at hc; first | omega | (simp only [List.length_set, List.length_append, List.length_cons, List.length_nil, List.length_replicate, List.length_take, List.length_drop, List.length_map]; omega)) | (exfalso; simp_all [AllT]; done)))) ?_
    first | refine sw_step rfl rfl rfl (OpR.q (q_loadC rfl rfl (by first | assumption | (repeat first | exact .head _ | apply List.Mem.tail)) rfl)) ?_ | refine sw_step rfl rfl rfl (OpR.q (q_loadA rfl rfl (by first | assumption | (repeat first | exact .head _ | apply List.Mem.tail)) rfl)) ?_ | refine sw_step rfl rfl rfl (OpR.q (q_loadEl rfl rfl rfl (by first | exact fun w hw => Stb.cl (by assumption) hw | exact fun w hw => rd_own hw (by first | assumption | (repeat first | exact .head _ | apply List.Mem.tail)) | assumption) (by intro hc; first | omega | (simp only [List.length_set, List.length_append, List.length_cons, List.length_nil, List.length_replicate, List.length_take, List.length_drop, List.length_map]; omega) | (simp only [AllT.iff, List.all_cons, List.all_nil, id, Bool.and_eq_true, Bool.not_eq_true', decide_eq_true_eq, decide_eq_false_iff_not, and_true] at hc; first | omega | (simp only [List.length_set, List.length_append, List.length_cons, List.length_nil, List.length_replicate, List.length_take, List.length_drop, List.length_map]; omega)) | (exfalso; simp_all [AllT]; done)))) ?_ | refine sw_step rfl rfl rfl (OpR.q (q_loadF rfl rfl rfl (by first | exact fun w hw => Stb.cl (by assumption) hw | exact fun w hw => rd_own hw (by first | assumption | (repeat first | exact .head _ | apply List.Mem.tail)) | assumption) (by intro hc; first | omega | (simp only [List.length_set, List.length_append, List.length_cons, List.length_nil, List.length_replicate, List.length_take, List.length_drop, List.length_map]; omega) | (simp only [AllT.iff, List.all_cons, List.all_nil, id, Bool.and_eq_true, Bool.not_eq_true', decide_eq_true_eq, decide_eq_false_iff_not, and_true] at hc; first | omega | (simp only [List.length_set, List.length_append, List.length_cons, List.length_nil, List.length_replicate, List.length_take, List.length_drop, List.length_map]; omega)) | (exfalso; simp_all [AllT]; done)) rfl)) ?_ | refine sw_step rfl rfl rfl (OpR.q (q_loadS rfl rfl (fun w hw => Stb.cl (by assumption) hw) rfl)) ?_
    refine sw_step rfl rfl rfl (OpR.q (q_mul rfl rfl rfl (by intro hc; first | omega | (simp only [List.length_set, List.length_append, List.length_cons, List.length_nil, List.length_replicate, List.length_take, List.length_drop, List.length_map]; omega) | (simp only [AllT.iff, List.all_cons, List.all_nil, id, Bool.and_eq_true, Bool.not_eq_true', decide_eq_true_eq, decide_eq_false_iff_not, and_true] at hc; first | omega | (simp only [List.length_set, List.length_append, List.length_cons, List.length_nil, List.length_replicate, List.length_take, List.length_drop, List.length_map]; omega)) | (exfalso; simp_all [AllT]; done)))) ?_
    refine sw_step rfl rfl rfl (OpR.q (q_move rfl rfl)) ?_
    refine sw_step rfl rfl rfl (OpR.q (q_mul rfl rfl rfl (by intro hc; first | omega | (simp only [List.length_set, List.length_append, List.length_cons, List.length_nil, List.length_replicate, List.length_take, List.length_drop, List.length_map]; omega) | (simp only [AllT.iff, List.all_cons, List.all_nil, id, Bool.and_eq_true, Bool.not_eq_true', decide_eq_true_eq, decide_eq_false_iff_not, and_true] at hc; first | omega | (simp only [List.length_set, List.length_append, List.length_cons, List.length_nil, List.length_replicate, List.length_take, List.length_drop, List.length_map]; omega)) | (exfalso; simp_all [AllT]; done)))) ?_
    refine sw_step rfl rfl rfl (OpR.q (q_move rfl rfl)) ?_
    refine sw_step rfl rfl rfl (OpR.q (q_move rfl rfl)) ?_
    refine sw_step rfl rfl rfl (OpR.q (q_mul rfl rfl rfl (by intro hc; first | omega | (simp only [List.length_set, List.length_append, List.length_cons, List.length_nil, List.length_replicate, List.length_take, List.length_drop, List.length_map]; omega) | (simp only [AllT.iff, List.all_cons, List.all_nil, id, Bool.and_eq_true, Bool.not_eq_true', decide_eq_true_eq, decide_eq_false_iff_not, and_true] at hc; first | omega | (simp only [List.length_set, List.length_append, List.length_cons, List.length_nil, List.length_replicate, List.length_take, List.length_drop, List.length_map]; omega)) | (exfalso; simp_all [AllT]; done)))) ?_
    first | refine sw_step rfl rfl rfl (OpR.q (q_fieldAddr rfl rfl)) ?_ | refine sw_step rfl rfl rfl (OpR.q (q_fieldEl rfl rfl (by first | exact fun w hw => Stb.cl (by assumption) hw | exact fun w hw => rd_own hw (by first | assumption | (repeat first | exact .head _ | apply List.Mem.tail)) | assumption) (by intro hc; first | omega | (simp only [List.length_set, List.length_append, List.length_cons, List.length_nil, List.length_replicate, List.length_take, List.length_drop, List.length_map]; omega) | (simp only [AllT.iff, List.all_cons, List.all_nil, id, Bool.and_eq_true, Bool.not_eq_true', decide_eq_true_eq, decide_eq_false_iff_not, and_true] at hc; first | omega | (simp only [List.length_set, List.length_append, List.length_cons, List.length_nil, List.length_replicate, List.length_take, List.length_drop, List.length_map]; omega)) | (exfalso; simp_all [AllT]; done)))) ?_
    first | refine sw_step rfl rfl rfl (OpR.q (q_loadC rfl rfl (by first | assumption | (repeat first | exact .head _ | apply List.Mem.tail)) rfl)) ?_ | refine sw_step rfl rfl rfl (OpR.q (q_loadA rfl rfl (by first | assumption | (repeat first | exact .head _ | apply List.Mem.tail)) rfl)) ?_ | refine sw_step rfl rfl rfl (OpR.q (q_loadEl rfl rfl rfl (by first | exact fun w hw => Stb.cl (by assumption) hw | exact fun w hw => rd_own hw (by first | assumption | (repeat first | exact .head _ | apply List.Mem.tail)) | assumption) (by intro hc; first | omega | (simp only [List.length_set, List.length_append, List.length_cons, List.length_nil, List.length_replicate, List.length_take, List.length_drop, List.length_map]; omega) | (simp only [AllT.iff, List.all_cons, List.all_nil, id, Bool.and_eq_true, Bool.not_eq_true', decide_eq_true_eq, decide_eq_false_iff_not, and_true] at hc; first | omega | (simp only [List.length_set, List.length_append, List.length_cons, List.length_nil, List.length_replicate, List.length_take, List.length_drop, List.length_map]; omega)) | (exfalso; simp_all [AllT]; done)))) ?_ | refine sw_step rfl rfl rfl (OpR.q (q_loadF rfl rfl rfl (by first | exact fun w hw => Stb.cl (by assumption) hw | exact fun w hw => rd_own hw (by first | assumption | (repeat first | exact .head _ | apply List.Mem.tail)) | assumption) (by intro hc; first | omega | (simp only [List.length_set, List.length_append, List.length_cons, List.length_nil, List.length_replicate, List.length_take, List.length_drop, List.length_map]; omega) | (simp only [AllT.iff, List.all_cons, List.all_nil, id, Bool.and_eq_true, Bool.not_eq_true', decide_eq_true_eq, decide_eq_false_iff_not, and_true] at hc; first | omega | (simp only [List.length_set, List.length_append, List.length_cons, List.length_nil, List.length_replicate, List.length_take, List.length_drop, List.length_map]; omega)) | (exfalso; simp_all [AllT]; done)) rfl)) ?_ | refine sw_step rfl rfl rfl (OpR.q (q_loadS rfl rfl (fun w hw => Stb.cl (by assumption) hw) rfl)) ?_
    refine sw_step rfl rfl rfl (OpR.q (q_add rfl rfl rfl (by intro hc; first | omega | (simp only [List.length_set, List.length_append, List.length_cons, List.length_nil, List.length_replicate, List.length_take, List.length_drop, List.length_map]; omega) | (simp only [AllT.iff, List.all_cons, List.all_nil, id, Bool.and_eq_true, Bool.not_eq_true', decide_eq_true_eq, decide_eq_false_iff_not, and_true] at hc; first | omega | (simp only [List.length_set, List.length_append, List.length_cons, List.length_nil, List.length_replicate, List.length_take, List.length_drop, List.length_map]; omega)) | (exfalso; simp_all [AllT]; done)))) ?_
    refine sw_step rfl rfl rfl (OpR.q (q_move rfl rfl)) ?_
    refine sw_step rfl rfl rfl (OpR.q (q_mul rfl rfl rfl (by intro hc; first | omega | (simp only [List.length_set, List.length_append, List.length_cons, List.length_nil, List.length_replicate, List.length_take, List.length_drop, List.length_map]; omega) | (simp only [AllT.iff, List.all_cons, List.all_nil, id, Bool.and_eq_true, Bool.not_eq_true', decide_eq_true_eq, decide_eq_false_iff_not, and_true] at hc; first | omega | (simp only [List.length_set, List.length_append, List.length_cons, List.length_nil, List.length_replicate, List.length_take, List.length_drop, List.length_map]; omega)) | (exfalso; simp_all [AllT]; done)))) ?_
    first | refine sw_step rfl rfl rfl (OpR.q (q_fieldAddr rfl rfl)) ?_ | refine sw_step rfl rfl rfl (OpR.q (q_fieldEl rfl rfl (by first | exact fun w hw => Stb.cl (by assumption) hw | exact fun w hw => rd_own hw (by first | assumption | (repeat first | exact .head _ | apply List.Mem.tail)) | assumption) (by intro hc; first | omega | (simp only [List.length_set, List.length_append, List.length_cons, List.length_nil, List.length_replicate, List.length_take, List.length_drop, List.length_map]; omega) | (simp only [AllT.iff, List.all_cons, List.all_nil, id, Bool.and_eq_true, Bool.not_eq_true', decide_eq_true_eq, decide_eq_false_iff_not, and_true] at hc; first | omega | (simp only [List.length_set, List.length_append, List.length_cons, List.length_nil, List.length_replicate, List.length_take, List.length_drop, List.length_map]; omega)) | (exfalso; simp_all [AllT]; done)))) ?_
    first | refine sw_step rfl rfl rfl (OpR.q (q_loadC rfl rfl (by first | assumption | (repeat first | exact .head _ | apply List.Mem.tail)) rfl)) ?_ | refine sw_step rfl rfl rfl (OpR.q (q_loadA rfl rfl (by first | assumption | (repeat first | exact .head _ | apply List.Mem.tail)) rfl)) ?_ | refine sw_step rfl rfl rfl (OpR.q (q_loadEl rfl rfl rfl (by first | exact fun w hw => Stb.cl (by assumption) hw | exact fun w hw => rd_own hw (by first | assumption | (repeat first | exact .head _ | apply List.Mem.tail)) | assumption) (by intro hc; first | omega | (simp only [List.length_set, List.length_append, List.length_cons, List.length_nil, List.length_replicate, List.length_take, List.length_drop, List.length_map]; omega) | (simp only [AllT.iff, List.all_cons, List.all_nil, id, Bool.and_eq_true, Bool.not_eq_true', decide_eq_true_eq, decide_eq_false_iff_not, and_true] at hc; first | omega | (simp only [List.length_set, List.length_append, List.length_cons, List.length_nil, List.length_replicate, List.length_take, List.length_drop, List.length_map]; omega)) | (exfalso; simp_all [AllT]; done)))) ?_ | refine sw_step rfl rfl rfl (OpR.q (q_loadF rfl rfl rfl (by first | exact fun w hw => Stb.cl (by assumption) hw | exact fun w hw => rd_own hw (by first | assumption | (repeat first | exact .head _ | apply List.Mem.tail)) | assumption) (by intro hc; first | omega | (simp only [List.length_set, List.length_append, List.length_cons, List.length_nil, List.length_replicate, List.length_take, List.length_drop, List.length_map]; omega) | (simp only [AllT.iff, List.all_cons, List.all_nil, id, Bool.and_eq_true, Bool.not_eq_true', decide_eq_true_eq, decide_eq_false_iff_not, and_true] at hc; first | omega | (simp only [List.length_set, List.length_append, List.length_cons, List.length_nil, List.length_replicate, List.length_take, List.length_drop, List.length_map]; omega)) | (exfalso; simp_all [AllT]; done)) rfl)) ?_ | refine sw_step rfl rfl rfl (OpR.q (q_loadS rfl rfl (fun w hw => Stb.cl (by assumption) hw) rfl)) ?_
    refine sw_step rfl rfl rfl (OpR.q (q_mul rfl rfl rfl (by intro hc; first | omega | (simp only [List.length_set, List.length_append, List.length_cons, List.length_nil, List.length_replicate, List.length_take, List.length_drop, List.length_map]; omega) | (simp only [AllT.iff, List.all_cons, List.all_nil, id, Bool.and_eq_true, Bool.not_eq_true', decide_eq_true_eq, decide_eq_false_iff_not, and_true] at hc; first | omega | (simp only [List.length_set, List.length_append, List.length_cons, List.length_nil, List.length_replicate, List.length_take, List.length_drop, List.length_map]; omega)) | (exfalso; simp_all [AllT]; done)))) ?_
    refine sw_step rfl rfl rfl (OpR.q (q_add rfl rfl rfl (by intro hc; first | omega | (simp only [List.length_set, List.length_append, List.length_cons, List.length_nil, List.length_replicate, List.length_take, List.length_drop, List.length_map]; omega) | (simp only [AllT.iff, List.all_cons, List.all_nil, id, Bool.and_eq_true, Bool.not_eq_true', decide_eq_true_eq, decide_eq_false_iff_not, and_true] at hc; first | omega | (simp only [List.length_set, List.length_append, List.length_cons, List.length_nil, List.length_replicate, List.length_take, List.length_drop, List.length_map]; omega)) | (exfalso; simp_all [AllT]; done)))) ?_
    refine sw_step rfl rfl rfl (OpR.q (q_mul rfl rfl rfl (by intro hc; first | omega | (simp only [List.length_set, List.length_append, List.length_cons, List.length_nil, List.length_replicate, List.length_take, List.length_drop, List.length_map]; omega) | (simp only [AllT.iff, List.all_cons, List.all_nil, id, Bool.and_eq_true, Bool.not_eq_true', decide_eq_true_eq, decide_eq_false_iff_not, and_true] at hc; first | omega | (simp only [List.length_set, List.length_append, List.length_cons, List.length_nil, List.length_replicate, List.length_take, List.length_drop, List.length_map]; omega)) | (exfalso; simp_all [AllT]; done)))) ?_
    refine sw_step rfl rfl rfl (OpR.q (q_geq rfl rfl rfl)) ?_
    refine sw_step rfl rfl rfl (OpR.q (q_assign rfl rfl)) ?_
    refine sw_step rfl rfl rfl (OpR.q (q_assign rfl rfl)) ?_
    refine sw_nil ?_
    refine post_then ?_
    refine cw_ret ?_
    refine post_ret2 rfl (resOk_tmp rfl) (resOk_tmp rfl) ?_
    exact fun w' hw => ⟨by rw [h1]; rfl, (fun w h => Cl.sel (by (repeat first | exact Sel.nil _ | refine Sel.take 0 rfl ?_ | refine Sel.take 1 rfl ?_ | refine Sel.take 2 rfl ?_ | refine Sel.take 3 rfl ?_ | refine Sel.take 4 rfl ?_ | refine Sel.take 5 rfl ?_ | refine Sel.take 6 rfl ?_ | refine Sel.take 7 rfl ?_ | refine Sel.take 8 rfl ?_ | refine Sel.take 9 rfl ?_ | refine Sel.take 10 rfl ?_ | refine Sel.take 11 rfl ?_)) w h) _ hw⟩
def addNoise (x noise : List Int) : Nat → List Int
  | 0 => x
  | k + 1 => (addNoise x noise k).set k (nth (addNoise x noise k) k + nth noise k)
theorem addNoise_len (x noise : List Int) : ∀ k, (addNoise x noise k).length = x.length
  | 0 => rfl
  | k + 1 => by simp only [addNoise, List.length_set]; exact addNoise_len x noise k
theorem addNoise_nth (x noise : List Int) : ∀ k, k ≤ x.length → ∀ i, nth (addNoise x noise k) i = if i < k then nth x i + nth noise i else nth x i
  | 0, _, i => by simp [addNoise]
  | k + 1, hk, i => by
    have ih := addNoise_nth x noise k (by omega)
    simp only [addNoise]
    rw [nth_set _ _ _ _ (by rw [addNoise_len]; omega)]
    by_cases he : i = k
    · subst he; rw [if_pos rfl, ih, if_neg (by omega), if_pos (by omega)]
    · rw [if_neg he, ih]
      by_cases h : i < k
      · rw [if_pos h, if_pos (by omega)]
      · rw [if_neg h, if_neg (by omega)]
theorem okS_sub {a : List Int} (h : okS a = true) (lo hi : Nat) : okS ((a.take hi).drop lo) = true := by
  unfold okS at h ⊢
  rw [List.all_eq_true] at h ⊢
  exact fun x hx => h x (List.mem_of_mem_take (List.mem_of_mem_drop hx))
/-- What is found in a part of a wave that was marked, amplified and disturbed. -/
theorem survive_found {ws x : List Int} {m : Stamp} {msg thr num den most : Int} (hm : rightS m = true) (hg : okMsg m msg = true) (hs : survB m thr num den most = true) (hbd : SurvBd m thr num den most) {f : Nat} (hf : f + frameN m ≤ ws.length) (hlx : x.length = ws.length)
    (hmark : ∀ p, p < m.bits.toNat + 17 → m.margin ≤ psg (wordL m msg) p * corrTo ws (pc m p) (f + p * m.period.toNat) m.period.toNat)
    (hx : ∀ i, i < ws.length → -(den + 2 * den * most) ≤ 2 * den * nth x i - 2 * num * nth ws i ∧ 2 * den * nth x i - 2 * num * nth ws i ≤ den + 2 * den * most)
    {lo hi : Nat} (hlo : lo ≤ f) (hhi : f + frameN m ≤ hi) (hhx : hi ≤ x.length) : (⟨(f - lo : Nat), msg⟩ : Find) ∈ findL ((x.take hi).drop lo) m thr := by
  have hb := rightS_bd hm
  have hP : m.period = (m.period.toNat : Int) := by omega
  have hlen : ((x.take hi).drop lo).length = hi - lo := by simp; omega
  have h4 := found_of (w := (x.take hi).drop lo) (thr := thr) hg (f := f - lo) hbd.bthr.1 fun p hp => by
    have h5 := per_le (m := m) p hp
    have hbit : bitK ((x.take hi).drop lo) m (f - lo) p = corrTo x (pc m p) (f + p * m.period.toNat) m.period.toNat := by
      unfold bitK
      rw [corr_subo hhx m.period.toNat (by omega), show lo + (f - lo + p * m.period.toNat) = f + p * m.period.toNat by omega]
    rw [hbit]
    have hk := corr_keep (x := x) (w := ws) (o := f + p * m.period.toNat) (num := num) (den := den) (E := den + 2 * den * most) (psg_is (wordL m msg) p) (pc_is m p) m.period.toNat (by rw [pc_len hm]; exact Nat.le_refl _) fun i h1 h2 => hx i (by omega)
    rw [Int.mul_sub] at hk
    refine survive (most := most) (P := m.period.toNat) hbd.bden.1 hbd.bnum.1 (hmark p hp) ?_ ?_
    · simp only [survB, decide_eq_true_eq] at hs
      rw [← hP]; exact hs
    · rw [← Int.mul_assoc _ (2 * den), Int.mul_comm _ (2 * den), Int.mul_assoc (2 * den), ← Int.mul_assoc _ (2 * num), Int.mul_comm _ (2 * num), Int.mul_assoc (2 * num)] at hk
      exact hk
  have h5 := found_mem h4.1 (offs ((x.take hi).drop lo) m) (by rw [← offs_iff hm, hlen]; omega)
  rw [h4.2] at h5
  exact h5

theorem lawSurvives (sa sn : SlV) (a noise : List Int) (m : Stamp) (msg thr num den most fr to : Int) (w : World) (ha : Stb w [] (RdL sa.v a)) (hno : Stb w [] (RdL sn.v noise)) :
    Calls Try.prog 14 #[sa.v, val m, .int .i64 msg, .int .i64 thr, .int .i64 num, .int .i64 den, .int .i64 most, sn.v, .int .i64 fr, .int .i64 to] w fun e w' => e = .returned (.bool true) ∧ Cl w [] [] w' := by
  refine calls_cw (vs := [_, _, _, _, _, _, _, _, _, _]) Try.func14 rfl Try.ntmps14 rfl (Cl.start0 w) ?_
  refine cw_seq ?_
  -- region 0
  refine cw_region ?_
  refine sw_x rfl rfl rfl (e_box rfl rfl rfl) (fun b11 => ?_)
  refine sw_step rfl rfl rfl (OpR.q (q_assign rfl rfl)) ?_
  refine sw_nil ?_
  refine post_then ?_
  refine cw_seq ?_
  -- region 1
  refine cw_region ?_
  first | refine sw_step rfl rfl rfl (OpR.q (q_loadC rfl rfl (by first | assumption | (repeat first | exact .head _ | apply List.Mem.tail)) rfl)) ?_ | refine sw_step rfl rfl rfl (OpR.q (q_loadA rfl rfl (by first | assumption | (repeat first | exact .head _ | apply List.Mem.tail)) rfl)) ?_ | refine sw_step rfl rfl rfl (OpR.q (q_loadEl rfl rfl rfl (by first | exact fun w hw => Stb.cl (by assumption) hw | exact fun w hw => rd_own hw (by first | assumption | (repeat first | exact .head _ | apply List.Mem.tail)) | assumption) (by intro hc; first | omega | (simp only [List.length_set, List.length_append, List.length_cons, List.length_nil, List.length_replicate, List.length_take, List.length_drop, List.length_map]; omega) | (simp only [AllT.iff, List.all_cons, List.all_nil, id, Bool.and_eq_true, Bool.not_eq_true', decide_eq_true_eq, decide_eq_false_iff_not, and_true] at hc; first | omega | (simp only [List.length_set, List.length_append, List.length_cons, List.length_nil, List.length_replicate, List.length_take, List.length_drop, List.length_map]; omega)) | (exfalso; simp_all [AllT]; done)))) ?_ | refine sw_step rfl rfl rfl (OpR.q (q_loadF rfl rfl rfl (by first | exact fun w hw => Stb.cl (by assumption) hw | exact fun w hw => rd_own hw (by first | assumption | (repeat first | exact .head _ | apply List.Mem.tail)) | assumption) (by intro hc; first | omega | (simp only [List.length_set, List.length_append, List.length_cons, List.length_nil, List.length_replicate, List.length_take, List.length_drop, List.length_map]; omega) | (simp only [AllT.iff, List.all_cons, List.all_nil, id, Bool.and_eq_true, Bool.not_eq_true', decide_eq_true_eq, decide_eq_false_iff_not, and_true] at hc; first | omega | (simp only [List.length_set, List.length_append, List.length_cons, List.length_nil, List.length_replicate, List.length_take, List.length_drop, List.length_map]; omega)) | (exfalso; simp_all [AllT]; done)) rfl)) ?_ | refine sw_step rfl rfl rfl (OpR.q (q_loadS rfl rfl (fun w hw => Stb.cl (by assumption) hw) rfl)) ?_
  refine sw_step rfl rfl rfl (OpR.q (q_move rfl rfl)) ?_
  refine sw_step rfl rfl rfl (OpR.q (q_move rfl rfl)) ?_
  refine sw_step rfl rfl rfl (OpR.q (q_move rfl rfl)) ?_
  refine sw_step rfl rfl rfl (OpR.q (q_move rfl rfl)) ?_
  refine sw_step rfl rfl rfl (q_call (CanCall.mk Try.call50) rfl (.cons rfl inferInstance (.cons rfl inferInstance (.cons rfl inferInstance (.cons rfl inferInstance (.cons rfl inferInstance (.nil)))))) (fun _ w hw => callq hw (survives_spec _ _ _ _ _ w))) ?_
  refine sw_step rfl rfl rfl (OpR.q (q_move rfl rfl)) ?_
  first | refine sw_step rfl rfl rfl (OpR.q (q_extract rfl rfl rfl)) ?_ | refine sw_step rfl rfl rfl (OpR.q (q_extract rfl rfl (nextV_0 _))) ?_
  first | refine sw_step rfl rfl rfl (OpR.q (q_extract rfl rfl rfl)) ?_ | refine sw_step rfl rfl rfl (OpR.q (q_extract rfl rfl (nextV_0 _))) ?_
  refine sw_step rfl rfl rfl (OpR.q (q_assign rfl rfl)) ?_
  refine sw_step rfl rfl rfl (OpR.q (q_assign rfl rfl)) ?_
  refine sw_nil ?_
  refine post_then ?_
  refine cw_seq ?_
  refine cw_seq ?_
  -- region 2
  refine cw_region ?_
  first | refine sw_step rfl rfl rfl (OpR.q (q_loadC rfl rfl (by first | assumption | (repeat first | exact .head _ | apply List.Mem.tail)) rfl)) ?_ | refine sw_step rfl rfl rfl (OpR.q (q_loadA rfl rfl (by first | assumption | (repeat first | exact .head _ | apply List.Mem.tail)) rfl)) ?_ | refine sw_step rfl rfl rfl (OpR.q (q_loadEl rfl rfl rfl (by first | exact fun w hw => Stb.cl (by assumption) hw | exact fun w hw => rd_own hw (by first | assumption | (repeat first | exact .head _ | apply List.Mem.tail)) | assumption) (by intro hc; first | omega | (simp only [List.length_set, List.length_append, List.length_cons, List.length_nil, List.length_replicate, List.length_take, List.length_drop, List.length_map]; omega) | (simp only [AllT.iff, List.all_cons, List.all_nil, id, Bool.and_eq_true, Bool.not_eq_true', decide_eq_true_eq, decide_eq_false_iff_not, and_true] at hc; first | omega | (simp only [List.length_set, List.length_append, List.length_cons, List.length_nil, List.length_replicate, List.length_take, List.length_drop, List.length_map]; omega)) | (exfalso; simp_all [AllT]; done)))) ?_ | refine sw_step rfl rfl rfl (OpR.q (q_loadF rfl rfl rfl (by first | exact fun w hw => Stb.cl (by assumption) hw | exact fun w hw => rd_own hw (by first | assumption | (repeat first | exact .head _ | apply List.Mem.tail)) | assumption) (by intro hc; first | omega | (simp only [List.length_set, List.length_append, List.length_cons, List.length_nil, List.length_replicate, List.length_take, List.length_drop, List.length_map]; omega) | (simp only [AllT.iff, List.all_cons, List.all_nil, id, Bool.and_eq_true, Bool.not_eq_true', decide_eq_true_eq, decide_eq_false_iff_not, and_true] at hc; first | omega | (simp only [List.length_set, List.length_append, List.length_cons, List.length_nil, List.length_replicate, List.length_take, List.length_drop, List.length_map]; omega)) | (exfalso; simp_all [AllT]; done)) rfl)) ?_ | refine sw_step rfl rfl rfl (OpR.q (q_loadS rfl rfl (fun w hw => Stb.cl (by assumption) hw) rfl)) ?_
  refine sw_step rfl rfl rfl (q_call (CanCall.mk Try.call36) rfl (.cons rfl inferInstance (.nil)) (fun _ w hw => callq hw (refStamp_spec _ w))) ?_
  refine sw_step rfl rfl rfl (OpR.q (q_not rfl rfl)) ?_
  refine sw_step rfl rfl rfl (OpR.q (q_move rfl rfl)) ?_
  refine sw_step rfl rfl rfl (OpR.q (q_move rfl rfl)) ?_
  refine sw_step rfl rfl rfl (OpR.q (q_lss rfl rfl rfl)) ?_
  refine sw_step rfl rfl rfl (OpR.q (q_or2 rfl rfl rfl)) ?_
  refine sw_step rfl rfl rfl (OpR.q (q_move rfl rfl)) ?_
  refine sw_step rfl rfl rfl (OpR.q (q_move rfl rfl)) ?_
  refine sw_step rfl rfl rfl (OpR.q (q_gtr rfl rfl rfl)) ?_
  refine sw_step rfl rfl rfl (OpR.q (q_or2 rfl rfl rfl)) ?_
  refine sw_step rfl rfl rfl (OpR.q (q_move rfl rfl)) ?_
  refine sw_step rfl rfl rfl (OpR.q (q_move rfl rfl)) ?_
  refine sw_step rfl rfl rfl (OpR.q (q_lss rfl rfl rfl)) ?_
  refine sw_step rfl rfl rfl (OpR.q (q_or2 rfl rfl rfl)) ?_
  refine sw_step rfl rfl rfl (OpR.q (q_move rfl rfl)) ?_
  refine sw_step rfl rfl rfl (OpR.q (q_move rfl rfl)) ?_
  refine sw_step rfl rfl rfl (OpR.q (q_gtr rfl rfl rfl)) ?_
  refine sw_step rfl rfl rfl (OpR.q (q_or2 rfl rfl rfl)) ?_
  refine sw_step rfl rfl rfl (OpR.q (q_move rfl rfl)) ?_
  refine sw_step rfl rfl rfl (OpR.q (q_move rfl rfl)) ?_
  refine sw_step rfl rfl rfl (OpR.q (q_lss rfl rfl rfl)) ?_
  refine sw_step rfl rfl rfl (OpR.q (q_or2 rfl rfl rfl)) ?_
  refine sw_step rfl rfl rfl (OpR.q (q_move rfl rfl)) ?_
  refine sw_step rfl rfl rfl (OpR.q (q_move rfl rfl)) ?_
  refine sw_step rfl rfl rfl (OpR.q (q_gtr rfl rfl rfl)) ?_
  refine sw_step rfl rfl rfl (OpR.q (q_or2 rfl rfl rfl)) ?_
  refine sw_step rfl rfl rfl (OpR.q (q_move rfl rfl)) ?_
  refine sw_step rfl rfl rfl (OpR.q (q_move rfl rfl)) ?_
  refine sw_step rfl rfl rfl (OpR.q (q_lss rfl rfl rfl)) ?_
  refine sw_step rfl rfl rfl (OpR.q (q_or2 rfl rfl rfl)) ?_
  refine sw_step rfl rfl rfl (OpR.q (q_move rfl rfl)) ?_
  refine sw_step rfl rfl rfl (OpR.q (q_move rfl rfl)) ?_
  refine sw_step rfl rfl rfl (OpR.q (q_gtr rfl rfl rfl)) ?_
  refine sw_step rfl rfl rfl (OpR.q (q_or2 rfl rfl rfl)) ?_
  refine sw_nil ?_
  refine post_then ?_
  -- STOP at: cond
  refine cw_cond rfl (fun h => ?_) (fun h => ?_)
  · skip
    have h1 : survOk m thr num den most = false := by
      rw [Bool.eq_false_iff]
      intro hc
      have hs := surv_bd hc
      obtain ⟨b1, b2, b3, b4, _, _, _⟩ := hs
      simp only [survOk, Bool.and_eq_true] at hc
      simp only [Bool.or_eq_true, Bool.not_eq_true', decide_eq_true_eq] at h
      rw [hc.1.1.1.1] at h
      simp at h
      omega
    rw [h1]
    refine cw_seq ?_
    -- region 3
    refine cw_region ?_
    refine sw_step rfl rfl rfl (OpR.q (q_move rfl rfl)) ?_
    refine sw_step rfl rfl rfl (OpR.q (q_eql rfl rfl rfl)) ?_
    refine sw_step rfl rfl rfl (OpR.q (q_move rfl rfl)) ?_
    refine sw_step rfl rfl rfl (OpR.q (q_move rfl rfl)) ?_
    refine sw_step rfl rfl rfl (OpR.q (q_not rfl rfl)) ?_
    refine sw_step rfl rfl rfl (OpR.q (q_and2 rfl rfl rfl)) ?_
    refine sw_step rfl rfl rfl (OpR.q (q_move rfl rfl)) ?_
    refine sw_step rfl rfl rfl (q_call (CanCall.mk Try.call15) rfl (.nil) (fun _ w hw => callq hw (known_spec w))) ?_
    refine sw_step rfl rfl rfl (OpR.q (q_and2 rfl rfl rfl)) ?_
    refine sw_step rfl rfl rfl (OpR.q (q_assign rfl rfl)) ?_
    refine sw_nil ?_
    refine post_then ?_
    refine cw_ret ?_
    refine post_then_r ?_
    refine post_ret1 rfl (resOk_tmp rfl) ?_
    exact fun w' hw => ⟨rfl, (fun w h => Cl.sel (by (repeat first | exact Sel.nil _ | refine Sel.take 0 rfl ?_ | refine Sel.take 1 rfl ?_ | refine Sel.take 2 rfl ?_ | refine Sel.take 3 rfl ?_ | refine Sel.take 4 rfl ?_ | refine Sel.take 5 rfl ?_ | refine Sel.take 6 rfl ?_ | refine Sel.take 7 rfl ?_ | refine Sel.take 8 rfl ?_ | refine Sel.take 9 rfl ?_ | refine Sel.take 10 rfl ?_ | refine Sel.take 11 rfl ?_)) w h) _ hw⟩
  · skip
    simp only [Bool.or_eq_false_iff, Bool.not_eq_false', decide_eq_false_iff_not] at h
    obtain ⟨⟨⟨⟨⟨⟨⟨⟨hm, c1⟩, c2⟩, c3⟩, c4⟩, c5⟩, c6⟩, c7⟩, c8⟩ := h
    have h1 : survOk m thr num den most = true := by
      simp [survOk, hm, inB]
      omega
    have hs := surv_bd h1
    obtain ⟨b1, b2, b3, b4, p1, p2, p3⟩ := id hs
    have hb := rightS_bd hm
    have hbd := frameN_bd hm
    rw [h1]
    refine cw_skip ?_
    refine post_then ?_
    refine cw_seq ?_
    refine cw_seq ?_
    -- region 4
    refine cw_region ?_
    refine sw_step rfl rfl rfl (OpR.q (q_move rfl rfl)) ?_
    refine sw_step rfl rfl rfl (OpR.q (q_neq rfl rfl rfl)) ?_
    refine sw_step rfl rfl rfl (OpR.q (q_move rfl rfl)) ?_
    refine sw_step rfl rfl rfl (OpR.q (q_move rfl rfl)) ?_
    first | refine sw_step rfl rfl rfl (OpR.q (q_fieldAddr rfl rfl)) ?_ | refine sw_step rfl rfl rfl (OpR.q (q_fieldEl rfl rfl (by first | exact fun w hw => Stb.cl (by assumption) hw | exact fun w hw => rd_own hw (by first | assumption | (repeat first | exact .head _ | apply List.Mem.tail)) | assumption) (by intro hc; first | omega | (simp only [List.length_set, List.length_append, List.length_cons, List.length_nil, List.length_replicate, List.length_take, List.length_drop, List.length_map]; omega) | (simp only [AllT.iff, List.all_cons, List.all_nil, id, Bool.and_eq_true, Bool.not_eq_true', decide_eq_true_eq, decide_eq_false_iff_not, and_true] at hc; first | omega | (simp only [List.length_set, List.length_append, List.length_cons, List.length_nil, List.length_replicate, List.length_take, List.length_drop, List.length_map]; omega)) | (exfalso; simp_all [AllT]; done)))) ?_
    first | refine sw_step rfl rfl rfl (OpR.q (q_loadC rfl rfl (by first | assumption | (repeat first | exact .head _ | apply List.Mem.tail)) rfl)) ?_ | refine sw_step rfl rfl rfl (OpR.q (q_loadA rfl rfl (by first | assumption | (repeat first | exact .head _ | apply List.Mem.tail)) rfl)) ?_ | refine sw_step rfl rfl rfl (OpR.q (q_loadEl rfl rfl rfl (by first | exact fun w hw => Stb.cl (by assumption) hw | exact fun w hw => rd_own hw (by first | assumption | (repeat first | exact .head _ | apply List.Mem.tail)) | assumption) (by intro hc; first | omega | (simp only [List.length_set, List.length_append, List.length_cons, List.length_nil, List.length_replicate, List.length_take, List.length_drop, List.length_map]; omega) | (simp only [AllT.iff, List.all_cons, List.all_nil, id, Bool.and_eq_true, Bool.not_eq_true', decide_eq_true_eq, decide_eq_false_iff_not, and_true] at hc; first | omega | (simp only [List.length_set, List.length_append, List.length_cons, List.length_nil, List.length_replicate, List.length_take, List.length_drop, List.length_map]; omega)) | (exfalso; simp_all [AllT]; done)))) ?_ | refine sw_step rfl rfl rfl (OpR.q (q_loadF rfl rfl rfl (by first | exact fun w hw => Stb.cl (by assumption) hw | exact fun w hw => rd_own hw (by first | assumption | (repeat first | exact .head _ | apply List.Mem.tail)) | assumption) (by intro hc; first | omega | (simp only [List.length_set, List.length_append, List.length_cons, List.length_nil, List.length_replicate, List.length_take, List.length_drop, List.length_map]; omega) | (simp only [AllT.iff, List.all_cons, List.all_nil, id, Bool.and_eq_true, Bool.not_eq_true', decide_eq_true_eq, decide_eq_false_iff_not, and_true] at hc; first | omega | (simp only [List.length_set, List.length_append, List.length_cons, List.length_nil, List.length_replicate, List.length_take, List.length_drop, List.length_map]; omega)) | (exfalso; simp_all [AllT]; done)) rfl)) ?_ | refine sw_step rfl rfl rfl (OpR.q (q_loadS rfl rfl (fun w hw => Stb.cl (by assumption) hw) rfl)) ?_
    refine sw_step rfl rfl rfl (OpR.q (q_mul rfl rfl rfl (by intro hc; first | omega | (simp only [List.length_set, List.length_append, List.length_cons, List.length_nil, List.length_replicate, List.length_take, List.length_drop, List.length_map]; omega) | (simp only [AllT.iff, List.all_cons, List.all_nil, id, Bool.and_eq_true, Bool.not_eq_true', decide_eq_true_eq, decide_eq_false_iff_not, and_true] at hc; first | omega | (simp only [List.length_set, List.length_append, List.length_cons, List.length_nil, List.length_replicate, List.length_take, List.length_drop, List.length_map]; omega)) | (exfalso; simp_all [AllT]; done)))) ?_
    refine sw_step rfl rfl rfl (OpR.q (q_move rfl rfl)) ?_
    refine sw_step rfl rfl rfl (OpR.q (q_mul rfl rfl rfl (by intro hc; first | omega | (simp only [List.length_set, List.length_append, List.length_cons, List.length_nil, List.length_replicate, List.length_take, List.length_drop, List.length_map]; omega) | (simp only [AllT.iff, List.all_cons, List.all_nil, id, Bool.and_eq_true, Bool.not_eq_true', decide_eq_true_eq, decide_eq_false_iff_not, and_true] at hc; first | omega | (simp only [List.length_set, List.length_append, List.length_cons, List.length_nil, List.length_replicate, List.length_take, List.length_drop, List.length_map]; omega)) | (exfalso; simp_all [AllT]; done)))) ?_
    refine sw_step rfl rfl rfl (OpR.q (q_move rfl rfl)) ?_
    refine sw_step rfl rfl rfl (OpR.q (q_move rfl rfl)) ?_
    refine sw_step rfl rfl rfl (OpR.q (q_mul rfl rfl rfl (by intro hc; first | omega | (simp only [List.length_set, List.length_append, List.length_cons, List.length_nil, List.length_replicate, List.length_take, List.length_drop, List.length_map]; omega) | (simp only [AllT.iff, List.all_cons, List.all_nil, id, Bool.and_eq_true, Bool.not_eq_true', decide_eq_true_eq, decide_eq_false_iff_not, and_true] at hc; first | omega | (simp only [List.length_set, List.length_append, List.length_cons, List.length_nil, List.length_replicate, List.length_take, List.length_drop, List.length_map]; omega)) | (exfalso; simp_all [AllT]; done)))) ?_
    first | refine sw_step rfl rfl rfl (OpR.q (q_fieldAddr rfl rfl)) ?_ | refine sw_step rfl rfl rfl (OpR.q (q_fieldEl rfl rfl (by first | exact fun w hw => Stb.cl (by assumption) hw | exact fun w hw => rd_own hw (by first | assumption | (repeat first | exact .head _ | apply List.Mem.tail)) | assumption) (by intro hc; first | omega | (simp only [List.length_set, List.length_append, List.length_cons, List.length_nil, List.length_replicate, List.length_take, List.length_drop, List.length_map]; omega) | (simp only [AllT.iff, List.all_cons, List.all_nil, id, Bool.and_eq_true, Bool.not_eq_true', decide_eq_true_eq, decide_eq_false_iff_not, and_true] at hc; first | omega | (simp only [List.length_set, List.length_append, List.length_cons, List.length_nil, List.length_replicate, List.length_take, List.length_drop, List.length_map]; omega)) | (exfalso; simp_all [AllT]; done)))) ?_
    first | refine sw_step rfl rfl rfl (OpR.q (q_loadC rfl rfl (by first | assumption | (repeat first | exact .head _ | apply List.Mem.tail)) rfl)) ?_ | refine sw_step rfl rfl rfl (OpR.q (q_loadA rfl rfl (by first | assumption | (repeat first | exact .head _ | apply List.Mem.tail)) rfl)) ?_ | refine sw_step rfl rfl rfl (OpR.q (q_loadEl rfl rfl rfl (by first | exact fun w hw => Stb.cl (by assumption) hw | exact fun w hw => rd_own hw (by first | assumption | (repeat first | exact .head _ | apply List.Mem.tail)) | assumption) (by intro hc; first | omega | (simp only [List.length_set, List.length_append, List.length_cons, List.length_nil, List.length_replicate, List.length_take, List.length_drop, List.length_map]; omega) | (simp only [AllT.iff, List.all_cons, List.all_nil, id, Bool.and_eq_true, Bool.not_eq_true', decide_eq_true_eq, decide_eq_false_iff_not, and_true] at hc; first | omega | (simp only [List.length_set, List.length_append, List.length_cons, List.length_nil, List.length_replicate, List.length_take, List.length_drop, List.length_map]; omega)) | (exfalso; simp_all [AllT]; done)))) ?_ | refine sw_step rfl rfl rfl (OpR.q (q_loadF rfl rfl rfl (by first | exact fun w hw => Stb.cl (by assumption) hw | exact fun w hw => rd_own hw (by first | assumption | (repeat first | exact .head _ | apply List.Mem.tail)) | assumption) (by intro hc; first | omega | (simp only [List.length_set, List.length_append, List.length_cons, List.length_nil, List.length_replicate, List.length_take, List.length_drop, List.length_map]; omega) | (simp only [AllT.iff, List.all_cons, List.all_nil, id, Bool.and_eq_true, Bool.not_eq_true', decide_eq_true_eq, decide_eq_false_iff_not, and_true] at hc; first | omega | (simp only [List.length_set, List.length_append, List.length_cons, List.length_nil, List.length_replicate, List.length_take, List.length_drop, List.length_map]; omega)) | (exfalso; simp_all [AllT]; done)) rfl)) ?_ | refine sw_step rfl rfl rfl (OpR.q (q_loadS rfl rfl (fun w hw => Stb.cl (by assumption) hw) rfl)) ?_
    refine sw_step rfl rfl rfl (OpR.q (q_add rfl rfl rfl (by intro hc; first | omega | (simp only [List.length_set, List.length_append, List.length_cons, List.length_nil, List.length_replicate, List.length_take, List.length_drop, List.length_map]; omega) | (simp only [AllT.iff, List.all_cons, List.all_nil, id, Bool.and_eq_true, Bool.not_eq_true', decide_eq_true_eq, decide_eq_false_iff_not, and_true] at hc; first | omega | (simp only [List.length_set, List.length_append, List.length_cons, List.length_nil, List.length_replicate, List.length_take, List.length_drop, List.length_map]; omega)) | (exfalso; simp_all [AllT]; done)))) ?_
    refine sw_step rfl rfl rfl (OpR.q (q_move rfl rfl)) ?_
    refine sw_step rfl rfl rfl (OpR.q (q_mul rfl rfl rfl (by intro hc; first | omega | (simp only [List.length_set, List.length_append, List.length_cons, List.length_nil, List.length_replicate, List.length_take, List.length_drop, List.length_map]; omega) | (simp only [AllT.iff, List.all_cons, List.all_nil, id, Bool.and_eq_true, Bool.not_eq_true', decide_eq_true_eq, decide_eq_false_iff_not, and_true] at hc; first | omega | (simp only [List.length_set, List.length_append, List.length_cons, List.length_nil, List.length_replicate, List.length_take, List.length_drop, List.length_map]; omega)) | (exfalso; simp_all [AllT]; done)))) ?_
    first | refine sw_step rfl rfl rfl (OpR.q (q_fieldAddr rfl rfl)) ?_ | refine sw_step rfl rfl rfl (OpR.q (q_fieldEl rfl rfl (by first | exact fun w hw => Stb.cl (by assumption) hw | exact fun w hw => rd_own hw (by first | assumption | (repeat first | exact .head _ | apply List.Mem.tail)) | assumption) (by intro hc; first | omega | (simp only [List.length_set, List.length_append, List.length_cons, List.length_nil, List.length_replicate, List.length_take, List.length_drop, List.length_map]; omega) | (simp only [AllT.iff, List.all_cons, List.all_nil, id, Bool.and_eq_true, Bool.not_eq_true', decide_eq_true_eq, decide_eq_false_iff_not, and_true] at hc; first | omega | (simp only [List.length_set, List.length_append, List.length_cons, List.length_nil, List.length_replicate, List.length_take, List.length_drop, List.length_map]; omega)) | (exfalso; simp_all [AllT]; done)))) ?_
    first | refine sw_step rfl rfl rfl (OpR.q (q_loadC rfl rfl (by first | assumption | (repeat first | exact .head _ | apply List.Mem.tail)) rfl)) ?_ | refine sw_step rfl rfl rfl (OpR.q (q_loadA rfl rfl (by first | assumption | (repeat first | exact .head _ | apply List.Mem.tail)) rfl)) ?_ | refine sw_step rfl rfl rfl (OpR.q (q_loadEl rfl rfl rfl (by first | exact fun w hw => Stb.cl (by assumption) hw | exact fun w hw => rd_own hw (by first | assumption | (repeat first | exact .head _ | apply List.Mem.tail)) | assumption) (by intro hc; first | omega | (simp only [List.length_set, List.length_append, List.length_cons, List.length_nil, List.length_replicate, List.length_take, List.length_drop, List.length_map]; omega) | (simp only [AllT.iff, List.all_cons, List.all_nil, id, Bool.and_eq_true, Bool.not_eq_true', decide_eq_true_eq, decide_eq_false_iff_not, and_true] at hc; first | omega | (simp only [List.length_set, List.length_append, List.length_cons, List.length_nil, List.length_replicate, List.length_take, List.length_drop, List.length_map]; omega)) | (exfalso; simp_all [AllT]; done)))) ?_ | refine sw_step rfl rfl rfl (OpR.q (q_loadF rfl rfl rfl (by first | exact fun w hw => Stb.cl (by assumption) hw | exact fun w hw => rd_own hw (by first | assumption | (repeat first | exact .head _ | apply List.Mem.tail)) | assumption) (by intro hc; first | omega | (simp only [List.length_set, List.length_append, List.length_cons, List.length_nil, List.length_replicate, List.length_take, List.length_drop, List.length_map]; omega) | (simp only [AllT.iff, List.all_cons, List.all_nil, id, Bool.and_eq_true, Bool.not_eq_true', decide_eq_true_eq, decide_eq_false_iff_not, and_true] at hc; first | omega | (simp only [List.length_set, List.length_append, List.length_cons, List.length_nil, List.length_replicate, List.length_take, List.length_drop, List.length_map]; omega)) | (exfalso; simp_all [AllT]; done)) rfl)) ?_ | refine sw_step rfl rfl rfl (OpR.q (q_loadS rfl rfl (fun w hw => Stb.cl (by assumption) hw) rfl)) ?_
    refine sw_step rfl rfl rfl (OpR.q (q_mul rfl rfl rfl (by intro hc; first | omega | (simp only [List.length_set, List.length_append, List.length_cons, List.length_nil, List.length_replicate, List.length_take, List.length_drop, List.length_map]; omega) | (simp only [AllT.iff, List.all_cons, List.all_nil, id, Bool.and_eq_true, Bool.not_eq_true', decide_eq_true_eq, decide_eq_false_iff_not, and_true] at hc; first | omega | (simp only [List.length_set, List.length_append, List.length_cons, List.length_nil, List.length_replicate, List.length_take, List.length_drop, List.length_map]; omega)) | (exfalso; simp_all [AllT]; done)))) ?_
    refine sw_step rfl rfl rfl (OpR.q (q_add rfl rfl rfl (by intro hc; first | omega | (simp only [List.length_set, List.length_append, List.length_cons, List.length_nil, List.length_replicate, List.length_take, List.length_drop, List.length_map]; omega) | (simp only [AllT.iff, List.all_cons, List.all_nil, id, Bool.and_eq_true, Bool.not_eq_true', decide_eq_true_eq, decide_eq_false_iff_not, and_true] at hc; first | omega | (simp only [List.length_set, List.length_append, List.length_cons, List.length_nil, List.length_replicate, List.length_take, List.length_drop, List.length_map]; omega)) | (exfalso; simp_all [AllT]; done)))) ?_
    refine sw_step rfl rfl rfl (OpR.q (q_mul rfl rfl rfl (by intro hc; first | omega | (simp only [List.length_set, List.length_append, List.length_cons, List.length_nil, List.length_replicate, List.length_take, List.length_drop, List.length_map]; omega) | (simp only [AllT.iff, List.all_cons, List.all_nil, id, Bool.and_eq_true, Bool.not_eq_true', decide_eq_true_eq, decide_eq_false_iff_not, and_true] at hc; first | omega | (simp only [List.length_set, List.length_append, List.length_cons, List.length_nil, List.length_replicate, List.length_take, List.length_drop, List.length_map]; omega)) | (exfalso; simp_all [AllT]; done)))) ?_
    refine sw_step rfl rfl rfl (OpR.q (q_geq rfl rfl rfl)) ?_
    refine sw_step rfl rfl rfl (OpR.q (q_neq_b rfl rfl rfl Try.underlying4)) ?_
    refine sw_step rfl rfl rfl (OpR.q (q_or2 rfl rfl rfl)) ?_
    refine sw_nil ?_
    refine post_then ?_
    -- STOP at: cond
    refine cw_cond rfl (fun h2 => ?_) (fun h2 => ?_)
    · skip
      exfalso
      simp [survB] at h2
    · skip
      refine cw_skip ?_
      refine post_then ?_
      refine cw_seq ?_
      refine cw_seq ?_
      -- region 6
      refine cw_region ?_
      refine sw_step rfl rfl rfl (OpR.q (q_move rfl rfl)) ?_
      refine sw_step rfl rfl rfl (OpR.q (q_not rfl rfl)) ?_
      refine sw_step rfl rfl rfl (OpR.q (q_move rfl rfl)) ?_
      refine sw_step rfl rfl rfl (OpR.q (q_move rfl rfl)) ?_
      first | refine sw_step rfl rfl rfl (OpR.q (q_len rfl (.cons rfl inferInstance (.nil)) (by first | exact fun w hw => Stb.cl (by assumption) hw | exact fun w hw => rd_own hw (by first | assumption | (repeat first | exact .head _ | apply List.Mem.tail)) | assumption))) ?_ | refine sw_step rfl rfl rfl (OpR.q (q_lenV rfl (.cons rfl inferInstance (.nil)))) ?_
      refine sw_step rfl rfl rfl (OpR.q (q_gtr rfl rfl rfl)) ?_
      refine sw_step rfl rfl rfl (OpR.q (q_or2 rfl rfl rfl)) ?_
      refine sw_step rfl rfl rfl (OpR.q (q_move rfl rfl)) ?_
      refine sw_step rfl rfl rfl (OpR.q (q_move rfl rfl)) ?_
      refine sw_step rfl rfl rfl (q_call (CanCall.mk Try.call44) rfl (.cons rfl inferInstance (.nil)) (fun _ w hw => callq hw (refWave_spec _ _ w (by first | exact stb_arg hw (by assumption) | exact stb_own hw (by first | assumption | (repeat first | exact .head _ | apply List.Mem.tail)))))) ?_
      refine sw_step rfl rfl rfl (OpR.q (q_neq rfl rfl rfl)) ?_
      refine sw_step rfl rfl rfl (OpR.q (q_or2 rfl rfl rfl)) ?_
      refine sw_step rfl rfl rfl (OpR.q (q_move rfl rfl)) ?_
      first | refine sw_step rfl rfl rfl (OpR.q (q_fieldAddr rfl rfl)) ?_ | refine sw_step rfl rfl rfl (OpR.q (q_fieldEl rfl rfl (by first | exact fun w hw => Stb.cl (by assumption) hw | exact fun w hw => rd_own hw (by first | assumption | (repeat first | exact .head _ | apply List.Mem.tail)) | assumption) (by intro hc; first | omega | (simp only [List.length_set, List.length_append, List.length_cons, List.length_nil, List.length_replicate, List.length_take, List.length_drop, List.length_map]; omega) | (simp only [AllT.iff, List.all_cons, List.all_nil, id, Bool.and_eq_true, Bool.not_eq_true', decide_eq_true_eq, decide_eq_false_iff_not, and_true] at hc; first | omega | (simp only [List.length_set, List.length_append, List.length_cons, List.length_nil, List.length_replicate, List.length_take, List.length_drop, List.length_map]; omega)) | (exfalso; simp_all [AllT]; done)))) ?_
      first | refine sw_step rfl rfl rfl (OpR.q (q_loadC rfl rfl (by first | assumption | (repeat first | exact .head _ | apply List.Mem.tail)) rfl)) ?_ | refine sw_step rfl rfl rfl (OpR.q (q_loadA rfl rfl (by first | assumption | (repeat first | exact .head _ | apply List.Mem.tail)) rfl)) ?_ | refine sw_step rfl rfl rfl (OpR.q (q_loadEl rfl rfl rfl (by first | exact fun w hw => Stb.cl (by assumption) hw | exact fun w hw => rd_own hw (by first | assumption | (repeat first | exact .head _ | apply List.Mem.tail)) | assumption) (by intro hc; first | omega | (simp only [List.length_set, List.length_append, List.length_cons, List.length_nil, List.length_replicate, List.length_take, List.length_drop, List.length_map]; omega) | (simp only [AllT.iff, List.all_cons, List.all_nil, id, Bool.and_eq_true, Bool.not_eq_true', decide_eq_true_eq, decide_eq_false_iff_not, and_true] at hc; first | omega | (simp only [List.length_set, List.length_append, List.length_cons, List.length_nil, List.length_replicate, List.length_take, List.length_drop, List.length_map]; omega)) | (exfalso; simp_all [AllT]; done)))) ?_ | refine sw_step rfl rfl rfl (OpR.q (q_loadF rfl rfl rfl (by first | exact fun w hw => Stb.cl (by assumption) hw | exact fun w hw => rd_own hw (by first | assumption | (repeat first | exact .head _ | apply List.Mem.tail)) | assumption) (by intro hc; first | omega | (simp only [List.length_set, List.length_append, List.length_cons, List.length_nil, List.length_replicate, List.length_take, List.length_drop, List.length_map]; omega) | (simp only [AllT.iff, List.all_cons, List.all_nil, id, Bool.and_eq_true, Bool.not_eq_true', decide_eq_true_eq, decide_eq_false_iff_not, and_true] at hc; first | omega | (simp only [List.length_set, List.length_append, List.length_cons, List.length_nil, List.length_replicate, List.length_take, List.length_drop, List.length_map]; omega)) | (exfalso; simp_all [AllT]; done)) rfl)) ?_ | refine sw_step rfl rfl rfl (OpR.q (q_loadS rfl rfl (fun w hw => Stb.cl (by assumption) hw) rfl)) ?_
      refine sw_step rfl rfl rfl (OpR.q (q_gtr rfl rfl rfl)) ?_
      refine sw_step rfl rfl rfl (OpR.q (q_or2 rfl rfl rfl)) ?_
      refine sw_step rfl rfl rfl (OpR.q (q_move rfl rfl)) ?_
      first | refine sw_step rfl rfl rfl (OpR.q (q_loadC rfl rfl (by first | assumption | (repeat first | exact .head _ | apply List.Mem.tail)) rfl)) ?_ | refine sw_step rfl rfl rfl (OpR.q (q_loadA rfl rfl (by first | assumption | (repeat first | exact .head _ | apply List.Mem.tail)) rfl)) ?_ | refine sw_step rfl rfl rfl (OpR.q (q_loadEl rfl rfl rfl (by first | exact fun w hw => Stb.cl (by assumption) hw | exact fun w hw => rd_own hw (by first | assumption | (repeat first | exact .head _ | apply List.Mem.tail)) | assumption) (by intro hc; first | omega | (simp only [List.length_set, List.length_append, List.length_cons, List.length_nil, List.length_replicate, List.length_take, List.length_drop, List.length_map]; omega) | (simp only [AllT.iff, List.all_cons, List.all_nil, id, Bool.and_eq_true, Bool.not_eq_true', decide_eq_true_eq, decide_eq_false_iff_not, and_true] at hc; first | omega | (simp only [List.length_set, List.length_append, List.length_cons, List.length_nil, List.length_replicate, List.length_take, List.length_drop, List.length_map]; omega)) | (exfalso; simp_all [AllT]; done)))) ?_ | refine sw_step rfl rfl rfl (OpR.q (q_loadF rfl rfl rfl (by first | exact fun w hw => Stb.cl (by assumption) hw | exact fun w hw => rd_own hw (by first | assumption | (repeat first | exact .head _ | apply List.Mem.tail)) | assumption) (by intro hc; first | omega | (simp only [List.length_set, List.length_append, List.length_cons, List.length_nil, List.length_replicate, List.length_take, List.length_drop, List.length_map]; omega) | (simp only [AllT.iff, List.all_cons, List.all_nil, id, Bool.and_eq_true, Bool.not_eq_true', decide_eq_true_eq, decide_eq_false_iff_not, and_true] at hc; first | omega | (simp only [List.length_set, List.length_append, List.length_cons, List.length_nil, List.length_replicate, List.length_take, List.length_drop, List.length_map]; omega)) | (exfalso; simp_all [AllT]; done)) rfl)) ?_ | refine sw_step rfl rfl rfl (OpR.q (q_loadS rfl rfl (fun w hw => Stb.cl (by assumption) hw) rfl)) ?_
      refine sw_step rfl rfl rfl (OpR.q (q_move rfl rfl)) ?_
      refine sw_step rfl rfl rfl (q_call (CanCall.mk Try.call37) rfl (.cons rfl inferInstance (.cons rfl inferInstance (.nil))) (fun _ w hw => callq hw (refMessage_spec _ _ (by first | assumption | simp_all [AllT]) w))) ?_
      refine sw_step rfl rfl rfl (OpR.q (q_not rfl rfl)) ?_
      refine sw_step rfl rfl rfl (OpR.q (q_or2 rfl rfl rfl)) ?_
      refine sw_step rfl rfl rfl (OpR.q (q_move rfl rfl)) ?_
      refine sw_step rfl rfl rfl (OpR.q (q_move rfl rfl)) ?_
      first | refine sw_step rfl rfl rfl (OpR.q (q_len rfl (.cons rfl inferInstance (.nil)) (by first | exact fun w hw => Stb.cl (by assumption) hw | exact fun w hw => rd_own hw (by first | assumption | (repeat first | exact .head _ | apply List.Mem.tail)) | assumption))) ?_ | refine sw_step rfl rfl rfl (OpR.q (q_lenV rfl (.cons rfl inferInstance (.nil)))) ?_
      refine sw_step rfl rfl rfl (OpR.q (q_move rfl rfl)) ?_
      first | refine sw_step rfl rfl rfl (OpR.q (q_len rfl (.cons rfl inferInstance (.nil)) (by first | exact fun w hw => Stb.cl (by assumption) hw | exact fun w hw => rd_own hw (by first | assumption | (repeat first | exact .head _ | apply List.Mem.tail)) | assumption))) ?_ | refine sw_step rfl rfl rfl (OpR.q (q_lenV rfl (.cons rfl inferInstance (.nil)))) ?_
      refine sw_step rfl rfl rfl (OpR.q (q_lss rfl rfl rfl)) ?_
      refine sw_step rfl rfl rfl (OpR.q (q_or2 rfl rfl rfl)) ?_
      refine sw_step rfl rfl rfl (OpR.q (q_move rfl rfl)) ?_
      refine sw_step rfl rfl rfl (OpR.q (q_move rfl rfl)) ?_
      first | refine sw_step rfl rfl rfl (OpR.q (q_len rfl (.cons rfl inferInstance (.nil)) (by first | exact fun w hw => Stb.cl (by assumption) hw | exact fun w hw => rd_own hw (by first | assumption | (repeat first | exact .head _ | apply List.Mem.tail)) | assumption))) ?_ | refine sw_step rfl rfl rfl (OpR.q (q_lenV rfl (.cons rfl inferInstance (.nil)))) ?_
      refine sw_step rfl rfl rfl (OpR.q (q_gtr rfl rfl rfl)) ?_
      refine sw_step rfl rfl rfl (OpR.q (q_or2 rfl rfl rfl)) ?_
      refine sw_step rfl rfl rfl (OpR.q (q_move rfl rfl)) ?_
      refine sw_step rfl rfl rfl (OpR.q (q_move rfl rfl)) ?_
      refine sw_step rfl rfl rfl (OpR.q (q_lss rfl rfl rfl)) ?_
      refine sw_step rfl rfl rfl (OpR.q (q_or2 rfl rfl rfl)) ?_
      refine sw_step rfl rfl rfl (OpR.q (q_move rfl rfl)) ?_
      refine sw_step rfl rfl rfl (OpR.q (q_move rfl rfl)) ?_
      refine sw_step rfl rfl rfl (OpR.q (q_move rfl rfl)) ?_
      refine sw_step rfl rfl rfl (OpR.q (q_lss rfl rfl rfl)) ?_
      refine sw_step rfl rfl rfl (OpR.q (q_or2 rfl rfl rfl)) ?_
      refine sw_step rfl rfl rfl (OpR.q (q_move rfl rfl)) ?_
      refine sw_step rfl rfl rfl (OpR.q (q_move rfl rfl)) ?_
      refine sw_step rfl rfl rfl (OpR.q (q_move rfl rfl)) ?_
      first | refine sw_step rfl rfl rfl (OpR.q (q_len rfl (.cons rfl inferInstance (.nil)) (by first | exact fun w hw => Stb.cl (by assumption) hw | exact fun w hw => rd_own hw (by first | assumption | (repeat first | exact .head _ | apply List.Mem.tail)) | assumption))) ?_ | refine sw_step rfl rfl rfl (OpR.q (q_lenV rfl (.cons rfl inferInstance (.nil)))) ?_
      refine sw_step rfl rfl rfl (OpR.q (q_gtr rfl rfl rfl)) ?_
      refine sw_step rfl rfl rfl (OpR.q (q_or2 rfl rfl rfl)) ?_
      refine sw_nil ?_
      refine post_then ?_
      -- STOP at: cond
      refine cw_cond rfl (fun h3 => ?_) (fun h3 => ?_)
      · skip
        refine cw_seq ?_
        -- region 7
        refine cw_region ?_
        refine sw_step rfl rfl rfl (q_call (CanCall.mk Try.call15) rfl (.nil) (fun _ w hw => callq hw (known_spec w))) ?_
        refine sw_step rfl rfl rfl (OpR.q (q_assign rfl rfl)) ?_
        refine sw_nil ?_
        refine post_then ?_
        refine cw_ret ?_
        refine post_then_r ?_
        refine post_ret1 rfl (resOk_tmp rfl) ?_
        exact fun w' hw => ⟨rfl, (fun w h => Cl.sel (by (repeat first | exact Sel.nil _ | refine Sel.take 0 rfl ?_ | refine Sel.take 1 rfl ?_ | refine Sel.take 2 rfl ?_ | refine Sel.take 3 rfl ?_ | refine Sel.take 4 rfl ?_ | refine Sel.take 5 rfl ?_ | refine Sel.take 6 rfl ?_ | refine Sel.take 7 rfl ?_ | refine Sel.take 8 rfl ?_ | refine Sel.take 9 rfl ?_ | refine Sel.take 10 rfl ?_ | refine Sel.take 11 rfl ?_)) w h) _ hw⟩
      · skip
        simp only [Bool.or_eq_false_iff, Bool.not_eq_false', decide_eq_false_iff_not, decide_eq_true_eq, Bool.true_and] at h3
        obtain ⟨⟨⟨⟨⟨⟨⟨⟨⟨hsv, d1⟩, hw0⟩, d3⟩, hg⟩, d5⟩, d6⟩, d7⟩, d8⟩, d9⟩ := h3
        have hok := wave1_ok hw0
        have hse := signE_ok hw0 hm hg
        have hsl := sign_len (a := a) (m := m) (msg := msg)
        have hnl := rd_len hno.here
        obtain ⟨lo, rfl⟩ := Int.eq_ofNat_of_zero_le (show 0 ≤ fr by omega)
        obtain ⟨hi, rfl⟩ := Int.eq_ofNat_of_zero_le (show 0 ≤ to by omega)
        refine cw_skip ?_
        refine post_then ?_
        refine cw_seq ?_
        -- region 8
        refine cw_region ?_
        refine sw_step rfl rfl rfl (OpR.q (q_move rfl rfl)) ?_
        first | refine sw_step rfl rfl rfl (OpR.q (q_loadC rfl rfl (by first | assumption | (repeat first | exact .head _ | apply List.Mem.tail)) rfl)) ?_ | refine sw_step rfl rfl rfl (OpR.q (q_loadA rfl rfl (by first | assumption | (repeat first | exact .head _ | apply List.Mem.tail)) rfl)) ?_ | refine sw_step rfl rfl rfl (OpR.q (q_loadEl rfl rfl rfl (by first | exact fun w hw => Stb.cl (by assumption) hw | exact fun w hw => rd_own hw (by first | assumption | (repeat first | exact .head _ | apply List.Mem.tail)) | assumption) (by intro hc; first | omega | (simp only [List.length_set, List.length_append, List.length_cons, List.length_nil, List.length_replicate, List.length_take, List.length_drop, List.length_map]; omega) | (simp only [AllT.iff, List.all_cons, List.all_nil, id, Bool.and_eq_true, Bool.not_eq_true', decide_eq_true_eq, decide_eq_false_iff_not, and_true] at hc; first | omega | (simp only [List.length_set, List.length_append, List.length_cons, List.length_nil, List.length_replicate, List.length_take, List.length_drop, List.length_map]; omega)) | (exfalso; simp_all [AllT]; done)))) ?_ | refine sw_step rfl rfl rfl (OpR.q (q_loadF rfl rfl rfl (by first | exact fun w hw => Stb.cl (by assumption) hw | exact fun w hw => rd_own hw (by first | assumption | (repeat first | exact .head _ | apply List.Mem.tail)) | assumption) (by intro hc; first | omega | (simp only [List.length_set, List.length_append, List.length_cons, List.length_nil, List.length_replicate, List.length_take, List.length_drop, List.length_map]; omega) | (simp only [AllT.iff, List.all_cons, List.all_nil, id, Bool.and_eq_true, Bool.not_eq_true', decide_eq_true_eq, decide_eq_false_iff_not, and_true] at hc; first | omega | (simp only [List.length_set, List.length_append, List.length_cons, List.length_nil, List.length_replicate, List.length_take, List.length_drop, List.length_map]; omega)) | (exfalso; simp_all [AllT]; done)) rfl)) ?_ | refine sw_step rfl rfl rfl (OpR.q (q_loadS rfl rfl (fun w hw => Stb.cl (by assumption) hw) rfl)) ?_
        refine sw_step rfl rfl rfl (OpR.q (q_move rfl rfl)) ?_
        -- STOP at: t166 := call {callee=(value F43), args=[t163, t164, t165], argTypes=[37, 55, 3]} :71
        refine sw_x rfl rfl rfl (e_call (CanCall.mk Try.call43) rfl (.cons rfl inferInstance (.cons rfl inferInstance (.cons rfl inferInstance (.nil)))) (fun w hw => houseSign_spec sa a m msg w (stb_arg hw ha))) (fun s166 => ?_)
        refine sw_imp fun _ => ?_
        refine sw_step rfl rfl rfl (OpR.q (q_move rfl rfl)) ?_
        first | refine sw_step rfl rfl rfl (OpR.q (q_extract rfl rfl rfl)) ?_ | refine sw_step rfl rfl rfl (OpR.q (q_extract rfl rfl (nextV_0 _))) ?_
        first | refine sw_step rfl rfl rfl (OpR.q (q_extract rfl rfl rfl)) ?_ | refine sw_step rfl rfl rfl (OpR.q (q_extract rfl rfl (nextV_0 _))) ?_
        first | refine sw_step rfl rfl rfl (OpR.q (q_extract rfl rfl rfl)) ?_ | refine sw_step rfl rfl rfl (OpR.q (q_extract rfl rfl (nextV_0 _))) ?_
        refine sw_step rfl rfl rfl (OpR.q (q_assign rfl rfl)) ?_
        refine sw_step rfl rfl rfl (OpR.q (q_assign rfl rfl)) ?_
        refine sw_step rfl rfl rfl (OpR.q (q_assign rfl rfl)) ?_
        refine sw_nil ?_
        refine post_then ?_
        refine cw_seq ?_
        refine cw_seq ?_
        -- region 9
        refine cw_region ?_
        refine sw_step rfl rfl rfl (OpR.q (q_move rfl rfl)) ?_
        refine sw_step rfl rfl rfl (OpR.q (q_neq rfl rfl rfl)) ?_
        refine sw_nil ?_
        refine post_then ?_
        -- STOP at: cond
        refine cw_cond rfl (fun h4 => ?_) (fun h4 => ?_)
        · skip
          have h5 : signE a m msg = 5 := by
            have h6 : signE a m msg ≠ 0 := by simpa using h4
            rw [hse] at h6 ⊢
            split at h6
            · exact absurd rfl h6
            · rename_i h7; rw [if_neg h7]
          refine cw_seq ?_
          -- region 10
          refine cw_region ?_
          refine sw_step rfl rfl rfl (OpR.q (q_move rfl rfl)) ?_
          refine sw_step rfl rfl rfl (OpR.q (q_eql rfl rfl rfl)) ?_
          refine sw_step rfl rfl rfl (OpR.q (q_move rfl rfl)) ?_
          refine sw_step rfl rfl rfl (q_call (CanCall.mk Try.call15) rfl (.nil) (fun _ w hw => callq hw (known_spec w))) ?_
          refine sw_step rfl rfl rfl (OpR.q (q_and2 rfl rfl rfl)) ?_
          refine sw_step rfl rfl rfl (OpR.q (q_assign rfl rfl)) ?_
          refine sw_nil ?_
          refine post_then ?_
          refine cw_ret ?_
          refine post_then_r ?_
          refine post_ret1 rfl (resOk_tmp rfl) ?_
          exact fun w' hw => ⟨by simp [h5], (fun w h => Cl.sel (by (repeat first | exact Sel.nil _ | refine Sel.take 0 rfl ?_ | refine Sel.take 1 rfl ?_ | refine Sel.take 2 rfl ?_ | refine Sel.take 3 rfl ?_ | refine Sel.take 4 rfl ?_ | refine Sel.take 5 rfl ?_ | refine Sel.take 6 rfl ?_ | refine Sel.take 7 rfl ?_ | refine Sel.take 8 rfl ?_ | refine Sel.take 9 rfl ?_ | refine Sel.take 10 rfl ?_ | refine Sel.take 11 rfl ?_)) w h) _ hw⟩
        · skip
          have h5 : signE a m msg = 0 := by simpa using h4
          have hokw : okS (signL a m msg).1 = true := by
            rw [hse] at h5
            split at h5
            · assumption
            · omega
          have hmarks := sign_marks (a := a) hm msg
          refine cw_c (C' := Cl w [] [ownL 3 s166.v (signL a m msg).1, blk b11 (enc m) 55]) (fun w h => by rw [if_pos h5] at h; exact h) ?_
          generalize hW : signL a m msg = W at *
          obtain ⟨ws, d⟩ := W
          unfold MarkAt at hmarks
          dsimp only at hsl hokw hmarks ⊢
          refine cw_skip ?_
          refine post_then ?_
          refine cw_seq ?_
          -- region 11
          refine cw_region ?_
          refine sw_step rfl rfl rfl (OpR.q (q_move rfl rfl)) ?_
          refine sw_step rfl rfl rfl (OpR.q (q_move rfl rfl)) ?_
          refine sw_step rfl rfl rfl (OpR.q (q_move rfl rfl)) ?_
          -- STOP at: t181 := call {callee=(value F51), args=[t178, t179, t180], argTypes=[37, 3, 3]} :87
          refine sw_x rfl rfl rfl (e_call (CanCall.mk Try.call51) rfl (.cons rfl inferInstance (.cons rfl inferInstance (.cons rfl inferInstance (.nil)))) (fun w hw => gain_spec s166.v ws num den hokw (by omega) b2 b3 w (by first | exact stb_arg hw (by assumption) | exact stb_own hw (by first | assumption | (repeat first | exact .head _ | apply List.Mem.tail))))) (fun s181 => ?_)
          refine sw_imp fun _ => ?_
          refine sw_step rfl rfl rfl (OpR.q (q_move rfl rfl)) ?_
          first | refine sw_step rfl rfl rfl (OpR.q (q_extract rfl rfl rfl)) ?_ | refine sw_step rfl rfl rfl (OpR.q (q_extract rfl rfl (nextV_0 _))) ?_
          first | refine sw_step rfl rfl rfl (OpR.q (q_extract rfl rfl rfl)) ?_ | refine sw_step rfl rfl rfl (OpR.q (q_extract rfl rfl (nextV_0 _))) ?_
          refine sw_step rfl rfl rfl (OpR.q (q_assign rfl rfl)) ?_
          refine sw_step rfl rfl rfl (OpR.q (q_assign rfl rfl)) ?_
          refine sw_nil ?_
          refine post_then ?_
          refine cw_seq ?_
          refine cw_seq ?_
          -- region 12
          refine cw_region ?_
          refine sw_step rfl rfl rfl (OpR.q (q_move rfl rfl)) ?_
          refine sw_step rfl rfl rfl (OpR.q (q_gtr rfl rfl rfl)) ?_
          refine sw_nil ?_
          refine post_then ?_
          -- STOP at: cond
          refine cw_cond rfl (fun h6 => ?_) (fun h6 => ?_)
          · skip
            refine cw_seq ?_
            -- region 13
            refine cw_region ?_
            refine sw_step rfl rfl rfl (q_call (CanCall.mk Try.call15) rfl (.nil) (fun _ w hw => callq hw (known_spec w))) ?_
            refine sw_step rfl rfl rfl (OpR.q (q_assign rfl rfl)) ?_
            refine sw_nil ?_
            refine post_then ?_
            refine cw_ret ?_
            refine post_then_r ?_
            refine post_ret1 rfl (resOk_tmp rfl) ?_
            exact fun w' hw => ⟨rfl, (fun w h => Cl.sel (by (repeat first | exact Sel.nil _ | refine Sel.take 0 rfl ?_ | refine Sel.take 1 rfl ?_ | refine Sel.take 2 rfl ?_ | refine Sel.take 3 rfl ?_ | refine Sel.take 4 rfl ?_ | refine Sel.take 5 rfl ?_ | refine Sel.take 6 rfl ?_ | refine Sel.take 7 rfl ?_ | refine Sel.take 8 rfl ?_ | refine Sel.take 9 rfl ?_ | refine Sel.take 10 rfl ?_ | refine Sel.take 11 rfl ?_)) w h) _ hw⟩
          · skip
            have hcut : cutTo ws num den ws.length = 0 := by simp only [decide_eq_false_iff_not] at h6; omega
            have hcl := cutTo_zero hcut
            have hgl := gainTo_len ws num den ws.length
            refine cw_skip ?_
            refine post_then ?_
            refine cw_seq ?_
            refine cw_seq ?_
            -- region 14
            refine cw_region ?_
            refine sw_step rfl rfl rfl (OpR.q (q_assign rfl rfl)) ?_
            refine sw_nil ?_
            refine post_then ?_
            refine cw_block ?_
            -- STOP at: loop
            refine cw_loop (S := Nat) (fun k => [(0, [], sa.v), (2, [], .int .i64 msg), (3, [], .int .i64 thr), (6, [], .int .i64 most), (7, [], sn.v), (8, [], .int .i64 lo), (9, [], .int .i64 hi), (11, [], .pointer (some ⟨b11, 0, none⟩)), (26, [], s181.v), (28, [], .int .i64 k)]) (fun k => Cl w [] [ownL 3 s181.v (addNoise (gainTo ws num den ws.length) noise k), blk b11 (enc m) 55]) (fun k => k ≤ ws.length ∧ ∀ i, i < k → -most ≤ nth noise i ∧ nth noise i ≤ most) (fun k => ws.length - k) 0 ⟨Nat.zero_le _, fun i hi => by omega⟩ (by (repeat first | exact Le.nil | refine Le.cons rfl ?_ | refine Le.cons' rfl (by congr 1; first | omega | (simp only; omega)) ?_)) (fun w h => Cl.sel (by (repeat first | exact Sel.nil _ | refine Sel.take 0 rfl ?_ | refine Sel.take 1 rfl ?_ | refine Sel.take 2 rfl ?_ | refine Sel.take 3 rfl ?_ | refine Sel.take 4 rfl ?_ | refine Sel.take 5 rfl ?_ | refine Sel.take 6 rfl ?_ | refine Sel.take 7 rfl ?_ | refine Sel.take 8 rfl ?_ | refine Sel.take 9 rfl ?_ | refine Sel.take 10 rfl ?_ | refine Sel.take 11 rfl ?_)) w h) ?_
            rintro k ⟨hk, hnb⟩
            have hal := addNoise_len (gainTo ws num den ws.length) noise k
            refine cw_seq ?_
            refine cw_seq ?_
            -- region 15
            refine cw_region ?_
            refine sw_step rfl rfl rfl (OpR.q (q_move rfl rfl)) ?_
            refine sw_step rfl rfl rfl (OpR.q (q_move rfl rfl)) ?_
            first | refine sw_step rfl rfl rfl (OpR.q (q_len rfl (.cons rfl inferInstance (.nil)) (by first | exact fun w hw => Stb.cl (by assumption) hw | exact fun w hw => rd_own hw (by first | assumption | (repeat first | exact .head _ | apply List.Mem.tail)) | assumption))) ?_ | refine sw_step rfl rfl rfl (OpR.q (q_lenV rfl (.cons rfl inferInstance (.nil)))) ?_
            refine sw_step rfl rfl rfl (OpR.q (q_lss rfl rfl rfl)) ?_
            refine sw_nil ?_
            refine post_then ?_
            -- STOP at: cond
            refine cw_cond rfl (fun h7 => ?_) (fun h7 => ?_)
            · skip
              have hk' : k < ws.length := by simp only [decide_eq_true_eq] at h7; omega
              have hnk : nth (addNoise (gainTo ws num den ws.length) noise k) k = clipI (rnd (nth ws k * num) den) := by rw [addNoise_nth _ _ _ (by omega), if_neg (by omega), gainTo_nth hk']
              have hcb : -32768 ≤ clipI (rnd (nth ws k * num) den) ∧ clipI (rnd (nth ws k * num) den) ≤ 32767 := by unfold clipI; omega
              refine cw_skip ?_
              refine post_then ?_
              refine cw_seq ?_
              refine cw_block ?_
              refine cw_seq ?_
              refine cw_seq ?_
              -- region 17
              refine cw_region ?_
              refine sw_step rfl rfl rfl (OpR.q (q_move rfl rfl)) ?_
              refine sw_step rfl rfl rfl (OpR.q (q_move rfl rfl)) ?_
              first | refine sw_step rfl rfl rfl (OpR.q (q_indexN rfl rfl rfl (by first | exact fun w hw => Stb.cl (by assumption) hw | exact fun w hw => rd_own hw (by first | assumption | (repeat first | exact .head _ | apply List.Mem.tail)) | assumption) (by intro hc; first | omega | (simp only [List.length_set, List.length_append, List.length_cons, List.length_nil, List.length_replicate, List.length_take, List.length_drop, List.length_map]; omega) | (simp only [AllT.iff, List.all_cons, List.all_nil, id, Bool.and_eq_true, Bool.not_eq_true', decide_eq_true_eq, decide_eq_false_iff_not, and_true] at hc; first | omega | (simp only [List.length_set, List.length_append, List.length_cons, List.length_nil, List.length_replicate, List.length_take, List.length_drop, List.length_map]; omega)) | (exfalso; simp_all [AllT]; done)))) ?_ | refine sw_step rfl rfl rfl (OpR.q (q_index rfl rfl rfl (by first | exact fun w hw => Stb.cl (by assumption) hw | exact fun w hw => rd_own hw (by first | assumption | (repeat first | exact .head _ | apply List.Mem.tail)) | assumption) (by intro hc; first | omega | (simp only [List.length_set, List.length_append, List.length_cons, List.length_nil, List.length_replicate, List.length_take, List.length_drop, List.length_map]; omega) | (simp only [AllT.iff, List.all_cons, List.all_nil, id, Bool.and_eq_true, Bool.not_eq_true', decide_eq_true_eq, decide_eq_false_iff_not, and_true] at hc; first | omega | (simp only [List.length_set, List.length_append, List.length_cons, List.length_nil, List.length_replicate, List.length_take, List.length_drop, List.length_map]; omega)) | (exfalso; simp_all [AllT]; done)))) ?_
              first | refine sw_step rfl rfl rfl (OpR.q (q_loadC rfl rfl (by first | assumption | (repeat first | exact .head _ | apply List.Mem.tail)) rfl)) ?_ | refine sw_step rfl rfl rfl (OpR.q (q_loadA rfl rfl (by first | assumption | (repeat first | exact .head _ | apply List.Mem.tail)) rfl)) ?_ | refine sw_step rfl rfl rfl (OpR.q (q_loadEl rfl rfl rfl (by first | exact fun w hw => Stb.cl (by assumption) hw | exact fun w hw => rd_own hw (by first | assumption | (repeat first | exact .head _ | apply List.Mem.tail)) | assumption) (by intro hc; first | omega | (simp only [List.length_set, List.length_append, List.length_cons, List.length_nil, List.length_replicate, List.length_take, List.length_drop, List.length_map]; omega) | (simp only [AllT.iff, List.all_cons, List.all_nil, id, Bool.and_eq_true, Bool.not_eq_true', decide_eq_true_eq, decide_eq_false_iff_not, and_true] at hc; first | omega | (simp only [List.length_set, List.length_append, List.length_cons, List.length_nil, List.length_replicate, List.length_take, List.length_drop, List.length_map]; omega)) | (exfalso; simp_all [AllT]; done)))) ?_ | refine sw_step rfl rfl rfl (OpR.q (q_loadF rfl rfl rfl (by first | exact fun w hw => Stb.cl (by assumption) hw | exact fun w hw => rd_own hw (by first | assumption | (repeat first | exact .head _ | apply List.Mem.tail)) | assumption) (by intro hc; first | omega | (simp only [List.length_set, List.length_append, List.length_cons, List.length_nil, List.length_replicate, List.length_take, List.length_drop, List.length_map]; omega) | (simp only [AllT.iff, List.all_cons, List.all_nil, id, Bool.and_eq_true, Bool.not_eq_true', decide_eq_true_eq, decide_eq_false_iff_not, and_true] at hc; first | omega | (simp only [List.length_set, List.length_append, List.length_cons, List.length_nil, List.length_replicate, List.length_take, List.length_drop, List.length_map]; omega)) | (exfalso; simp_all [AllT]; done)) rfl)) ?_ | refine sw_step rfl rfl rfl (OpR.q (q_loadS rfl rfl (fun w hw => Stb.cl (by assumption) hw) rfl)) ?_
              refine sw_step rfl rfl rfl (OpR.q (q_move rfl rfl)) ?_
              refine sw_step rfl rfl rfl (OpR.q (q_neg rfl rfl (by intro hc; first | omega | (simp only [List.length_set, List.length_append, List.length_cons, List.length_nil, List.length_replicate, List.length_take, List.length_drop, List.length_map]; omega) | (simp only [AllT.iff, List.all_cons, List.all_nil, id, Bool.and_eq_true, Bool.not_eq_true', decide_eq_true_eq, decide_eq_false_iff_not, and_true] at hc; first | omega | (simp only [List.length_set, List.length_append, List.length_cons, List.length_nil, List.length_replicate, List.length_take, List.length_drop, List.length_map]; omega)) | (exfalso; simp_all [AllT]; done)))) ?_
              refine sw_step rfl rfl rfl (OpR.q (q_lss rfl rfl rfl)) ?_
              refine sw_step rfl rfl rfl (OpR.q (q_move rfl rfl)) ?_
              refine sw_step rfl rfl rfl (OpR.q (q_move rfl rfl)) ?_
              refine sw_step rfl rfl rfl (OpR.q (q_move rfl rfl)) ?_
              first | refine sw_step rfl rfl rfl (OpR.q (q_indexN rfl rfl rfl (by first | exact fun w hw => Stb.cl (by assumption) hw | exact fun w hw => rd_own hw (by first | assumption | (repeat first | exact .head _ | apply List.Mem.tail)) | assumption) (by intro hc; first | omega | (simp only [List.length_set, List.length_append, List.length_cons, List.length_nil, List.length_replicate, List.length_take, List.length_drop, List.length_map]; omega) | (simp only [AllT.iff, List.all_cons, List.all_nil, id, Bool.and_eq_true, Bool.not_eq_true', decide_eq_true_eq, decide_eq_false_iff_not, and_true] at hc; first | omega | (simp only [List.length_set, List.length_append, List.length_cons, List.length_nil, List.length_replicate, List.length_take, List.length_drop, List.length_map]; omega)) | (exfalso; simp_all [AllT]; done)))) ?_ | refine sw_step rfl rfl rfl (OpR.q (q_index rfl rfl rfl (by first | exact fun w hw => Stb.cl (by assumption) hw | exact fun w hw => rd_own hw (by first | assumption | (repeat first | exact .head _ | apply List.Mem.tail)) | assumption) (by intro hc; first | omega | (simp only [List.length_set, List.length_append, List.length_cons, List.length_nil, List.length_replicate, List.length_take, List.length_drop, List.length_map]; omega) | (simp only [AllT.iff, List.all_cons, List.all_nil, id, Bool.and_eq_true, Bool.not_eq_true', decide_eq_true_eq, decide_eq_false_iff_not, and_true] at hc; first | omega | (simp only [List.length_set, List.length_append, List.length_cons, List.length_nil, List.length_replicate, List.length_take, List.length_drop, List.length_map]; omega)) | (exfalso; simp_all [AllT]; done)))) ?_
              first | refine sw_step rfl rfl rfl (OpR.q (q_loadC rfl rfl (by first | assumption | (repeat first | exact .head _ | apply List.Mem.tail)) rfl)) ?_ | refine sw_step rfl rfl rfl (OpR.q (q_loadA rfl rfl (by first | assumption | (repeat first | exact .head _ | apply List.Mem.tail)) rfl)) ?_ | refine sw_step rfl rfl rfl (OpR.q (q_loadEl rfl rfl rfl (by first | exact fun w hw => Stb.cl (by assumption) hw | exact fun w hw => rd_own hw (by first | assumption | (repeat first | exact .head _ | apply List.Mem.tail)) | assumption) (by intro hc; first | omega | (simp only [List.length_set, List.length_append, List.length_cons, List.length_nil, List.length_replicate, List.length_take, List.length_drop, List.length_map]; omega) | (simp only [AllT.iff, List.all_cons, List.all_nil, id, Bool.and_eq_true, Bool.not_eq_true', decide_eq_true_eq, decide_eq_false_iff_not, and_true] at hc; first | omega | (simp only [List.length_set, List.length_append, List.length_cons, List.length_nil, List.length_replicate, List.length_take, List.length_drop, List.length_map]; omega)) | (exfalso; simp_all [AllT]; done)))) ?_ | refine sw_step rfl rfl rfl (OpR.q (q_loadF rfl rfl rfl (by first | exact fun w hw => Stb.cl (by assumption) hw | exact fun w hw => rd_own hw (by first | assumption | (repeat first | exact .head _ | apply List.Mem.tail)) | assumption) (by intro hc; first | omega | (simp only [List.length_set, List.length_append, List.length_cons, List.length_nil, List.length_replicate, List.length_take, List.length_drop, List.length_map]; omega) | (simp only [AllT.iff, List.all_cons, List.all_nil, id, Bool.and_eq_true, Bool.not_eq_true', decide_eq_true_eq, decide_eq_false_iff_not, and_true] at hc; first | omega | (simp only [List.length_set, List.length_append, List.length_cons, List.length_nil, List.length_replicate, List.length_take, List.length_drop, List.length_map]; omega)) | (exfalso; simp_all [AllT]; done)) rfl)) ?_ | refine sw_step rfl rfl rfl (OpR.q (q_loadS rfl rfl (fun w hw => Stb.cl (by assumption) hw) rfl)) ?_
              refine sw_step rfl rfl rfl (OpR.q (q_move rfl rfl)) ?_
              refine sw_step rfl rfl rfl (OpR.q (q_gtr rfl rfl rfl)) ?_
              refine sw_step rfl rfl rfl (OpR.q (q_or2 rfl rfl rfl)) ?_
              refine sw_nil ?_
              refine post_then ?_
              -- STOP at: cond
              refine cw_cond rfl (fun h8 => ?_) (fun h8 => ?_)
              · skip
                refine cw_seq ?_
                -- region 18
                refine cw_region ?_
                refine sw_step rfl rfl rfl (q_call (CanCall.mk Try.call15) rfl (.nil) (fun _ w hw => callq hw (known_spec w))) ?_
                refine sw_step rfl rfl rfl (OpR.q (q_assign rfl rfl)) ?_
                refine sw_nil ?_
                refine post_then ?_
                refine cw_ret ?_
                refine post_then_r ?_
                refine post_blk_r ?_
                refine post_then_r ?_
                refine post_then_r ?_
                refine post_blk_r ?_
                refine post_then_r ?_
                refine post_ret1 rfl (resOk_tmp rfl) ?_
                exact fun w' hw => ⟨rfl, (fun w h => Cl.sel (by (repeat first | exact Sel.nil _ | refine Sel.take 0 rfl ?_ | refine Sel.take 1 rfl ?_ | refine Sel.take 2 rfl ?_ | refine Sel.take 3 rfl ?_ | refine Sel.take 4 rfl ?_ | refine Sel.take 5 rfl ?_ | refine Sel.take 6 rfl ?_ | refine Sel.take 7 rfl ?_ | refine Sel.take 8 rfl ?_ | refine Sel.take 9 rfl ?_ | refine Sel.take 10 rfl ?_ | refine Sel.take 11 rfl ?_)) w h) _ hw⟩
              · skip
                have h9 : -most ≤ nth noise k ∧ nth noise k ≤ most := by
                  simp only [Bool.or_eq_false_iff, decide_eq_false_iff_not] at h8; omega
                refine cw_skip ?_
                refine post_then ?_
                -- region 19
                -- STOP: a region with effects that draws its order
                refine cw_region_a (Cl w [] [ownL 3 s181.v (addNoise (gainTo ws num den ws.length) noise k), blk b11 (enc m) 55]) [12] mixed_Try ?_
                refine aw_pure 0 rfl (by kernel_rfl) (by kernel_rfl) (by kernel_rfl) (by kernel_rfl) (by kernel_rfl) rfl rfl rfl (q_move rfl rfl) ?_
                refine aw_pure 1 rfl (by kernel_rfl) (by kernel_rfl) (by kernel_rfl) (by kernel_rfl) (by kernel_rfl) rfl rfl rfl (q_move rfl rfl) ?_
                refine aw_pure 2 rfl (by kernel_rfl) (by kernel_rfl) (by kernel_rfl) (by kernel_rfl) (by kernel_rfl) rfl rfl rfl (q_move rfl rfl) ?_
                refine aw_pure 3 rfl (by kernel_rfl) (by kernel_rfl) (by kernel_rfl) (by kernel_rfl) (by kernel_rfl) rfl rfl rfl (q_move rfl rfl) ?_
                first | refine aw_take 4 (fun w h => Cl.sel (by (repeat first | exact Sel.nil _ | refine Sel.take 0 rfl ?_ | refine Sel.take 1 rfl ?_ | refine Sel.take 2 rfl ?_ | refine Sel.take 3 rfl ?_ | refine Sel.take 4 rfl ?_ | refine Sel.take 5 rfl ?_ | refine Sel.take 6 rfl ?_ | refine Sel.take 7 rfl ?_ | refine Sel.take 8 rfl ?_ | refine Sel.take 9 rfl ?_ | refine Sel.take 10 rfl ?_ | refine Sel.take 11 rfl ?_)) w h) rfl (by kernel_rfl) (by kernel_rfl) (by kernel_rfl) (by kernel_rfl) (by kernel_rfl) (by kernel_rfl) rfl rfl rfl (q_indexN rfl rfl rfl (by first | exact fun w hw => Stb.cl (by assumption) hw | exact fun w hw => rd_own hw (by first | assumption | (repeat first | exact .head _ | apply List.Mem.tail)) | assumption) (by intro hc; first | omega | (simp only [List.length_set, List.length_append, List.length_cons, List.length_nil, List.length_replicate, List.length_take, List.length_drop, List.length_map]; omega) | (simp only [AllT.iff, List.all_cons, List.all_nil, id, Bool.and_eq_true, Bool.not_eq_true', decide_eq_true_eq, decide_eq_false_iff_not, and_true] at hc; first | omega | (simp only [List.length_set, List.length_append, List.length_cons, List.length_nil, List.length_replicate, List.length_take, List.length_drop, List.length_map]; omega)) | (exfalso; simp_all [AllT]; done))) ?_ | refine aw_take 4 (fun w h => Cl.sel (by (repeat first | exact Sel.nil _ | refine Sel.take 0 rfl ?_ | refine Sel.take 1 rfl ?_ | refine Sel.take 2 rfl ?_ | refine Sel.take 3 rfl ?_ | refine Sel.take 4 rfl ?_ | refine Sel.take 5 rfl ?_ | refine Sel.take 6 rfl ?_ | refine Sel.take 7 rfl ?_ | refine Sel.take 8 rfl ?_ | refine Sel.take 9 rfl ?_ | refine Sel.take 10 rfl ?_ | refine Sel.take 11 rfl ?_)) w h) rfl (by kernel_rfl) (by kernel_rfl) (by kernel_rfl) (by kernel_rfl) (by kernel_rfl) (by kernel_rfl) rfl rfl rfl (q_index rfl rfl rfl (by first | exact fun w hw => Stb.cl (by assumption) hw | exact fun w hw => rd_own hw (by first | assumption | (repeat first | exact .head _ | apply List.Mem.tail)) | assumption) (by intro hc; first | omega | (simp only [List.length_set, List.length_append, List.length_cons, List.length_nil, List.length_replicate, List.length_take, List.length_drop, List.length_map]; omega) | (simp only [AllT.iff, List.all_cons, List.all_nil, id, Bool.and_eq_true, Bool.not_eq_true', decide_eq_true_eq, decide_eq_false_iff_not, and_true] at hc; first | omega | (simp only [List.length_set, List.length_append, List.length_cons, List.length_nil, List.length_replicate, List.length_take, List.length_drop, List.length_map]; omega)) | (exfalso; simp_all [AllT]; done))) ?_
                first | refine aw_take 5 (fun w h => Cl.sel (by (repeat first | exact Sel.nil _ | refine Sel.take 0 rfl ?_ | refine Sel.take 1 rfl ?_ | refine Sel.take 2 rfl ?_ | refine Sel.take 3 rfl ?_ | refine Sel.take 4 rfl ?_ | refine Sel.take 5 rfl ?_ | refine Sel.take 6 rfl ?_ | refine Sel.take 7 rfl ?_ | refine Sel.take 8 rfl ?_ | refine Sel.take 9 rfl ?_ | refine Sel.take 10 rfl ?_ | refine Sel.take 11 rfl ?_)) w h) rfl (by kernel_rfl) (by kernel_rfl) (by kernel_rfl) (by kernel_rfl) (by kernel_rfl) (by kernel_rfl) rfl rfl rfl (q_loadC rfl rfl (by first | assumption | (repeat first | exact .head _ | apply List.Mem.tail)) rfl) ?_ | refine aw_take 5 (fun w h => Cl.sel (by (repeat first | exact Sel.nil _ | refine Sel.take 0 rfl ?_ | refine Sel.take 1 rfl ?_ | refine Sel.take 2 rfl ?_ | refine Sel.take 3 rfl ?_ | refine Sel.take 4 rfl ?_ | refine Sel.take 5 rfl ?_ | refine Sel.take 6 rfl ?_ | refine Sel.take 7 rfl ?_ | refine Sel.take 8 rfl ?_ | refine Sel.take 9 rfl ?_ | refine Sel.take 10 rfl ?_ | refine Sel.take 11 rfl ?_)) w h) rfl (by kernel_rfl) (by kernel_rfl) (by kernel_rfl) (by kernel_rfl) (by kernel_rfl) (by kernel_rfl) rfl rfl rfl (q_loadA rfl rfl (by first | assumption | (repeat first | exact .head _ | apply List.Mem.tail)) rfl) ?_ | refine aw_take 5 (fun w h => Cl.sel (by (repeat first | exact Sel.nil _ | refine Sel.take 0 rfl ?_ | refine Sel.take 1 rfl ?_ | refine Sel.take 2 rfl ?_ | refine Sel.take 3 rfl ?_ | refine Sel.take 4 rfl ?_ | refine Sel.take 5 rfl ?_ | refine Sel.take 6 rfl ?_ | refine Sel.take 7 rfl ?_ | refine Sel.take 8 rfl ?_ | refine Sel.take 9 rfl ?_ | refine Sel.take 10 rfl ?_ | refine Sel.take 11 rfl ?_)) w h) rfl (by kernel_rfl) (by kernel_rfl) (by kernel_rfl) (by kernel_rfl) (by kernel_rfl) (by kernel_rfl) rfl rfl rfl (q_loadEl rfl rfl rfl (by first | exact fun w hw => Stb.cl (by assumption) hw | exact fun w hw => rd_own hw (by first | assumption | (repeat first | exact .head _ | apply List.Mem.tail)) | assumption) (by intro hc; first | omega | (simp only [List.length_set, List.length_append, List.length_cons, List.length_nil, List.length_replicate, List.length_take, List.length_drop, List.length_map]; omega) | (simp only [AllT.iff, List.all_cons, List.all_nil, id, Bool.and_eq_true, Bool.not_eq_true', decide_eq_true_eq, decide_eq_false_iff_not, and_true] at hc; first | omega | (simp only [List.length_set, List.length_append, List.length_cons, List.length_nil, List.length_replicate, List.length_take, List.length_drop, List.length_map]; omega)) | (exfalso; simp_all [AllT]; done))) ?_ | refine aw_take 5 (fun w h => Cl.sel (by (repeat first | exact Sel.nil _ | refine Sel.take 0 rfl ?_ | refine Sel.take 1 rfl ?_ | refine Sel.take 2 rfl ?_ | refine Sel.take 3 rfl ?_ | refine Sel.take 4 rfl ?_ | refine Sel.take 5 rfl ?_ | refine Sel.take 6 rfl ?_ | refine Sel.take 7 rfl ?_ | refine Sel.take 8 rfl ?_ | refine Sel.take 9 rfl ?_ | refine Sel.take 10 rfl ?_ | refine Sel.take 11 rfl ?_)) w h) rfl (by kernel_rfl) (by kernel_rfl) (by kernel_rfl) (by kernel_rfl) (by kernel_rfl) (by kernel_rfl) rfl rfl rfl (q_loadF rfl rfl rfl (by first | exact fun w hw => Stb.cl (by assumption) hw | exact fun w hw => rd_own hw (by first | assumption | (repeat first | exact .head _ | apply List.Mem.tail)) | assumption) (by intro hc; first | omega | (simp only [List.length_set, List.length_append, List.length_cons, List.length_nil, List.length_replicate, List.length_take, List.length_drop, List.length_map]; omega) | (simp only [AllT.iff, List.all_cons, List.all_nil, id, Bool.and_eq_true, Bool.not_eq_true', decide_eq_true_eq, decide_eq_false_iff_not, and_true] at hc; first | omega | (simp only [List.length_set, List.length_append, List.length_cons, List.length_nil, List.length_replicate, List.length_take, List.length_drop, List.length_map]; omega)) | (exfalso; simp_all [AllT]; done)) rfl) ?_ | refine aw_take 5 (fun w h => Cl.sel (by (repeat first | exact Sel.nil _ | refine Sel.take 0 rfl ?_ | refine Sel.take 1 rfl ?_ | refine Sel.take 2 rfl ?_ | refine Sel.take 3 rfl ?_ | refine Sel.take 4 rfl ?_ | refine Sel.take 5 rfl ?_ | refine Sel.take 6 rfl ?_ | refine Sel.take 7 rfl ?_ | refine Sel.take 8 rfl ?_ | refine Sel.take 9 rfl ?_ | refine Sel.take 10 rfl ?_ | refine Sel.take 11 rfl ?_)) w h) rfl (by kernel_rfl) (by kernel_rfl) (by kernel_rfl) (by kernel_rfl) (by kernel_rfl) (by kernel_rfl) rfl rfl rfl (q_loadS rfl rfl (fun w hw => Stb.cl (by assumption) hw) rfl) ?_
                refine aw_pure 6 rfl (by kernel_rfl) (by kernel_rfl) (by kernel_rfl) (by kernel_rfl) (by kernel_rfl) rfl rfl rfl (q_move rfl rfl) ?_
                refine aw_pure 7 rfl (by kernel_rfl) (by kernel_rfl) (by kernel_rfl) (by kernel_rfl) (by kernel_rfl) rfl rfl rfl (q_move rfl rfl) ?_
                first | refine aw_take 8 (fun w h => Cl.sel (by (repeat first | exact Sel.nil _ | refine Sel.take 0 rfl ?_ | refine Sel.take 1 rfl ?_ | refine Sel.take 2 rfl ?_ | refine Sel.take 3 rfl ?_ | refine Sel.take 4 rfl ?_ | refine Sel.take 5 rfl ?_ | refine Sel.take 6 rfl ?_ | refine Sel.take 7 rfl ?_ | refine Sel.take 8 rfl ?_ | refine Sel.take 9 rfl ?_ | refine Sel.take 10 rfl ?_ | refine Sel.take 11 rfl ?_)) w h) rfl (by kernel_rfl) (by kernel_rfl) (by kernel_rfl) (by kernel_rfl) (by kernel_rfl) (by kernel_rfl) rfl rfl rfl (q_indexN rfl rfl rfl (by first | exact fun w hw => Stb.cl (by assumption) hw | exact fun w hw => rd_own hw (by first | assumption | (repeat first | exact .head _ | apply List.Mem.tail)) | assumption) (by intro hc; first | omega | (simp only [List.length_set, List.length_append, List.length_cons, List.length_nil, List.length_replicate, List.length_take, List.length_drop, List.length_map]; omega) | (simp only [AllT.iff, List.all_cons, List.all_nil, id, Bool.and_eq_true, Bool.not_eq_true', decide_eq_true_eq, decide_eq_false_iff_not, and_true] at hc; first | omega | (simp only [List.length_set, List.length_append, List.length_cons, List.length_nil, List.length_replicate, List.length_take, List.length_drop, List.length_map]; omega)) | (exfalso; simp_all [AllT]; done))) ?_ | refine aw_take 8 (fun w h => Cl.sel (by (repeat first | exact Sel.nil _ | refine Sel.take 0 rfl ?_ | refine Sel.take 1 rfl ?_ | refine Sel.take 2 rfl ?_ | refine Sel.take 3 rfl ?_ | refine Sel.take 4 rfl ?_ | refine Sel.take 5 rfl ?_ | refine Sel.take 6 rfl ?_ | refine Sel.take 7 rfl ?_ | refine Sel.take 8 rfl ?_ | refine Sel.take 9 rfl ?_ | refine Sel.take 10 rfl ?_ | refine Sel.take 11 rfl ?_)) w h) rfl (by kernel_rfl) (by kernel_rfl) (by kernel_rfl) (by kernel_rfl) (by kernel_rfl) (by kernel_rfl) rfl rfl rfl (q_index rfl rfl rfl (by first | exact fun w hw => Stb.cl (by assumption) hw | exact fun w hw => rd_own hw (by first | assumption | (repeat first | exact .head _ | apply List.Mem.tail)) | assumption) (by intro hc; first | omega | (simp only [List.length_set, List.length_append, List.length_cons, List.length_nil, List.length_replicate, List.length_take, List.length_drop, List.length_map]; omega) | (simp only [AllT.iff, List.all_cons, List.all_nil, id, Bool.and_eq_true, Bool.not_eq_true', decide_eq_true_eq, decide_eq_false_iff_not, and_true] at hc; first | omega | (simp only [List.length_set, List.length_append, List.length_cons, List.length_nil, List.length_replicate, List.length_take, List.length_drop, List.length_map]; omega)) | (exfalso; simp_all [AllT]; done))) ?_
                first | refine aw_take 9 (fun w h => Cl.sel (by (repeat first | exact Sel.nil _ | refine Sel.take 0 rfl ?_ | refine Sel.take 1 rfl ?_ | refine Sel.take 2 rfl ?_ | refine Sel.take 3 rfl ?_ | refine Sel.take 4 rfl ?_ | refine Sel.take 5 rfl ?_ | refine Sel.take 6 rfl ?_ | refine Sel.take 7 rfl ?_ | refine Sel.take 8 rfl ?_ | refine Sel.take 9 rfl ?_ | refine Sel.take 10 rfl ?_ | refine Sel.take 11 rfl ?_)) w h) rfl (by kernel_rfl) (by kernel_rfl) (by kernel_rfl) (by kernel_rfl) (by kernel_rfl) (by kernel_rfl) rfl rfl rfl (q_loadC rfl rfl (by first | assumption | (repeat first | exact .head _ | apply List.Mem.tail)) rfl) ?_ | refine aw_take 9 (fun w h => Cl.sel (by (repeat first | exact Sel.nil _ | refine Sel.take 0 rfl ?_ | refine Sel.take 1 rfl ?_ | refine Sel.take 2 rfl ?_ | refine Sel.take 3 rfl ?_ | refine Sel.take 4 rfl ?_ | refine Sel.take 5 rfl ?_ | refine Sel.take 6 rfl ?_ | refine Sel.take 7 rfl ?_ | refine Sel.take 8 rfl ?_ | refine Sel.take 9 rfl ?_ | refine Sel.take 10 rfl ?_ | refine Sel.take 11 rfl ?_)) w h) rfl (by kernel_rfl) (by kernel_rfl) (by kernel_rfl) (by kernel_rfl) (by kernel_rfl) (by kernel_rfl) rfl rfl rfl (q_loadA rfl rfl (by first | assumption | (repeat first | exact .head _ | apply List.Mem.tail)) rfl) ?_ | refine aw_take 9 (fun w h => Cl.sel (by (repeat first | exact Sel.nil _ | refine Sel.take 0 rfl ?_ | refine Sel.take 1 rfl ?_ | refine Sel.take 2 rfl ?_ | refine Sel.take 3 rfl ?_ | refine Sel.take 4 rfl ?_ | refine Sel.take 5 rfl ?_ | refine Sel.take 6 rfl ?_ | refine Sel.take 7 rfl ?_ | refine Sel.take 8 rfl ?_ | refine Sel.take 9 rfl ?_ | refine Sel.take 10 rfl ?_ | refine Sel.take 11 rfl ?_)) w h) rfl (by kernel_rfl) (by kernel_rfl) (by kernel_rfl) (by kernel_rfl) (by kernel_rfl) (by kernel_rfl) rfl rfl rfl (q_loadEl rfl rfl rfl (by first | exact fun w hw => Stb.cl (by assumption) hw | exact fun w hw => rd_own hw (by first | assumption | (repeat first | exact .head _ | apply List.Mem.tail)) | assumption) (by intro hc; first | omega | (simp only [List.length_set, List.length_append, List.length_cons, List.length_nil, List.length_replicate, List.length_take, List.length_drop, List.length_map]; omega) | (simp only [AllT.iff, List.all_cons, List.all_nil, id, Bool.and_eq_true, Bool.not_eq_true', decide_eq_true_eq, decide_eq_false_iff_not, and_true] at hc; first | omega | (simp only [List.length_set, List.length_append, List.length_cons, List.length_nil, List.length_replicate, List.length_take, List.length_drop, List.length_map]; omega)) | (exfalso; simp_all [AllT]; done))) ?_ | refine aw_take 9 (fun w h => Cl.sel (by (repeat first | exact Sel.nil _ | refine Sel.take 0 rfl ?_ | refine Sel.take 1 rfl ?_ | refine Sel.take 2 rfl ?_ | refine Sel.take 3 rfl ?_ | refine Sel.take 4 rfl ?_ | refine Sel.take 5 rfl ?_ | refine Sel.take 6 rfl ?_ | refine Sel.take 7 rfl ?_ | refine Sel.take 8 rfl ?_ | refine Sel.take 9 rfl ?_ | refine Sel.take 10 rfl ?_ | refine Sel.take 11 rfl ?_)) w h) rfl (by kernel_rfl) (by kernel_rfl) (by kernel_rfl) (by kernel_rfl) (by kernel_rfl) (by kernel_rfl) rfl rfl rfl (q_loadF rfl rfl rfl (by first | exact fun w hw => Stb.cl (by assumption) hw | exact fun w hw => rd_own hw (by first | assumption | (repeat first | exact .head _ | apply List.Mem.tail)) | assumption) (by intro hc; first | omega | (simp only [List.length_set, List.length_append, List.length_cons, List.length_nil, List.length_replicate, List.length_take, List.length_drop, List.length_map]; omega) | (simp only [AllT.iff, List.all_cons, List.all_nil, id, Bool.and_eq_true, Bool.not_eq_true', decide_eq_true_eq, decide_eq_false_iff_not, and_true] at hc; first | omega | (simp only [List.length_set, List.length_append, List.length_cons, List.length_nil, List.length_replicate, List.length_take, List.length_drop, List.length_map]; omega)) | (exfalso; simp_all [AllT]; done)) rfl) ?_ | refine aw_take 9 (fun w h => Cl.sel (by (repeat first | exact Sel.nil _ | refine Sel.take 0 rfl ?_ | refine Sel.take 1 rfl ?_ | refine Sel.take 2 rfl ?_ | refine Sel.take 3 rfl ?_ | refine Sel.take 4 rfl ?_ | refine Sel.take 5 rfl ?_ | refine Sel.take 6 rfl ?_ | refine Sel.take 7 rfl ?_ | refine Sel.take 8 rfl ?_ | refine Sel.take 9 rfl ?_ | refine Sel.take 10 rfl ?_ | refine Sel.take 11 rfl ?_)) w h) rfl (by kernel_rfl) (by kernel_rfl) (by kernel_rfl) (by kernel_rfl) (by kernel_rfl) (by kernel_rfl) rfl rfl rfl (q_loadS rfl rfl (fun w hw => Stb.cl (by assumption) hw) rfl) ?_
                refine aw_pure 10 rfl (by kernel_rfl) (by kernel_rfl) (by kernel_rfl) (by kernel_rfl) (by kernel_rfl) rfl rfl rfl (q_add rfl rfl rfl (by intro hc; first | omega | (simp only [List.length_set, List.length_append, List.length_cons, List.length_nil, List.length_replicate, List.length_take, List.length_drop, List.length_map]; omega) | (simp only [AllT.iff, List.all_cons, List.all_nil, id, Bool.and_eq_true, Bool.not_eq_true', decide_eq_true_eq, decide_eq_false_iff_not, and_true] at hc; first | omega | (simp only [List.length_set, List.length_append, List.length_cons, List.length_nil, List.length_replicate, List.length_take, List.length_drop, List.length_map]; omega)) | (exfalso; simp_all [AllT]; done))) ?_
                first | refine aw_take 11 (fun w h => Cl.sel (by (repeat first | exact Sel.nil _ | refine Sel.take 0 rfl ?_ | refine Sel.take 1 rfl ?_ | refine Sel.take 2 rfl ?_ | refine Sel.take 3 rfl ?_ | refine Sel.take 4 rfl ?_ | refine Sel.take 5 rfl ?_ | refine Sel.take 6 rfl ?_ | refine Sel.take 7 rfl ?_ | refine Sel.take 8 rfl ?_ | refine Sel.take 9 rfl ?_ | refine Sel.take 10 rfl ?_ | refine Sel.take 11 rfl ?_)) w h) rfl (by kernel_rfl) (by kernel_rfl) (by kernel_rfl) (by kernel_rfl) (by kernel_rfl) (by kernel_rfl) rfl rfl rfl (q_indexN rfl rfl rfl (by first | exact fun w hw => Stb.cl (by assumption) hw | exact fun w hw => rd_own hw (by first | assumption | (repeat first | exact .head _ | apply List.Mem.tail)) | assumption) (by intro hc; first | omega | (simp only [List.length_set, List.length_append, List.length_cons, List.length_nil, List.length_replicate, List.length_take, List.length_drop, List.length_map]; omega) | (simp only [AllT.iff, List.all_cons, List.all_nil, id, Bool.and_eq_true, Bool.not_eq_true', decide_eq_true_eq, decide_eq_false_iff_not, and_true] at hc; first | omega | (simp only [List.length_set, List.length_append, List.length_cons, List.length_nil, List.length_replicate, List.length_take, List.length_drop, List.length_map]; omega)) | (exfalso; simp_all [AllT]; done))) ?_ | refine aw_take 11 (fun w h => Cl.sel (by (repeat first | exact Sel.nil _ | refine Sel.take 0 rfl ?_ | refine Sel.take 1 rfl ?_ | refine Sel.take 2 rfl ?_ | refine Sel.take 3 rfl ?_ | refine Sel.take 4 rfl ?_ | refine Sel.take 5 rfl ?_ | refine Sel.take 6 rfl ?_ | refine Sel.take 7 rfl ?_ | refine Sel.take 8 rfl ?_ | refine Sel.take 9 rfl ?_ | refine Sel.take 10 rfl ?_ | refine Sel.take 11 rfl ?_)) w h) rfl (by kernel_rfl) (by kernel_rfl) (by kernel_rfl) (by kernel_rfl) (by kernel_rfl) (by kernel_rfl) rfl rfl rfl (q_index rfl rfl rfl (by first | exact fun w hw => Stb.cl (by assumption) hw | exact fun w hw => rd_own hw (by first | assumption | (repeat first | exact .head _ | apply List.Mem.tail)) | assumption) (by intro hc; first | omega | (simp only [List.length_set, List.length_append, List.length_cons, List.length_nil, List.length_replicate, List.length_take, List.length_drop, List.length_map]; omega) | (simp only [AllT.iff, List.all_cons, List.all_nil, id, Bool.and_eq_true, Bool.not_eq_true', decide_eq_true_eq, decide_eq_false_iff_not, and_true] at hc; first | omega | (simp only [List.length_set, List.length_append, List.length_cons, List.length_nil, List.length_replicate, List.length_take, List.length_drop, List.length_map]; omega)) | (exfalso; simp_all [AllT]; done))) ?_
                first | refine aw_one0 12 (by kernel_rfl) rfl rfl rfl (e_store (i := 0) rfl rfl rfl rfl rfl rfl rfl rfl) (by intro hb; first | (exact absurd hb (by decide)) | exact (fun w h => Cl.sel (by (repeat first | exact Sel.nil _ | refine Sel.take 0 rfl ?_ | refine Sel.take 1 rfl ?_ | refine Sel.take 2 rfl ?_ | refine Sel.take 3 rfl ?_ | refine Sel.take 4 rfl ?_ | refine Sel.take 5 rfl ?_ | refine Sel.take 6 rfl ?_ | refine Sel.take 7 rfl ?_ | refine Sel.take 8 rfl ?_ | refine Sel.take 9 rfl ?_ | refine Sel.take 10 rfl ?_ | refine Sel.take 11 rfl ?_)) w h)) ?_ | refine aw_one0 12 (by kernel_rfl) rfl rfl rfl (e_store (i := 1) rfl rfl rfl rfl rfl rfl rfl rfl) (by intro hb; first | (exact absurd hb (by decide)) | exact (fun w h => Cl.sel (by (repeat first | exact Sel.nil _ | refine Sel.take 0 rfl ?_ | refine Sel.take 1 rfl ?_ | refine Sel.take 2 rfl ?_ | refine Sel.take 3 rfl ?_ | refine Sel.take 4 rfl ?_ | refine Sel.take 5 rfl ?_ | refine Sel.take 6 rfl ?_ | refine Sel.take 7 rfl ?_ | refine Sel.take 8 rfl ?_ | refine Sel.take 9 rfl ?_ | refine Sel.take 10 rfl ?_ | refine Sel.take 11 rfl ?_)) w h)) ?_ | refine aw_one0 12 (by kernel_rfl) rfl rfl rfl (e_store (i := 2) rfl rfl rfl rfl rfl rfl rfl rfl) (by intro hb; first | (exact absurd hb (by decide)) | exact (fun w h => Cl.sel (by (repeat first | exact Sel.nil _ | refine Sel.take 0 rfl ?_ | refine Sel.take 1 rfl ?_ | refine Sel.take 2 rfl ?_ | refine Sel.take 3 rfl ?_ | refine Sel.take 4 rfl ?_ | refine Sel.take 5 rfl ?_ | refine Sel.take 6 rfl ?_ | refine Sel.take 7 rfl ?_ | refine Sel.take 8 rfl ?_ | refine Sel.take 9 rfl ?_ | refine Sel.take 10 rfl ?_ | refine Sel.take 11 rfl ?_)) w h)) ?_ | refine aw_one0 12 (by kernel_rfl) rfl rfl rfl (e_store (i := 3) rfl rfl rfl rfl rfl rfl rfl rfl) (by intro hb; first | (exact absurd hb (by decide)) | exact (fun w h => Cl.sel (by (repeat first | exact Sel.nil _ | refine Sel.take 0 rfl ?_ | refine Sel.take 1 rfl ?_ | refine Sel.take 2 rfl ?_ | refine Sel.take 3 rfl ?_ | refine Sel.take 4 rfl ?_ | refine Sel.take 5 rfl ?_ | refine Sel.take 6 rfl ?_ | refine Sel.take 7 rfl ?_ | refine Sel.take 8 rfl ?_ | refine Sel.take 9 rfl ?_ | refine Sel.take 10 rfl ?_ | refine Sel.take 11 rfl ?_)) w h)) ?_ | refine aw_one0 12 (by kernel_rfl) rfl rfl rfl (e_store (i := 4) rfl rfl rfl rfl rfl rfl rfl rfl) (by intro hb; first | (exact absurd hb (by decide)) | exact (fun w h => Cl.sel (by (repeat first | exact Sel.nil _ | refine Sel.take 0 rfl ?_ | refine Sel.take 1 rfl ?_ | refine Sel.take 2 rfl ?_ | refine Sel.take 3 rfl ?_ | refine Sel.take 4 rfl ?_ | refine Sel.take 5 rfl ?_ | refine Sel.take 6 rfl ?_ | refine Sel.take 7 rfl ?_ | refine Sel.take 8 rfl ?_ | refine Sel.take 9 rfl ?_ | refine Sel.take 10 rfl ?_ | refine Sel.take 11 rfl ?_)) w h)) ?_ | refine aw_one0 12 (by kernel_rfl) rfl rfl rfl (e_store (i := 5) rfl rfl rfl rfl rfl rfl rfl rfl) (by intro hb; first | (exact absurd hb (by decide)) | exact (fun w h => Cl.sel (by (repeat first | exact Sel.nil _ | refine Sel.take 0 rfl ?_ | refine Sel.take 1 rfl ?_ | refine Sel.take 2 rfl ?_ | refine Sel.take 3 rfl ?_ | refine Sel.take 4 rfl ?_ | refine Sel.take 5 rfl ?_ | refine Sel.take 6 rfl ?_ | refine Sel.take 7 rfl ?_ | refine Sel.take 8 rfl ?_ | refine Sel.take 9 rfl ?_ | refine Sel.take 10 rfl ?_ | refine Sel.take 11 rfl ?_)) w h)) ?_ | refine aw_one0 12 (by kernel_rfl) rfl rfl rfl (e_store (i := 6) rfl rfl rfl rfl rfl rfl rfl rfl) (by intro hb; first | (exact absurd hb (by decide)) | exact (fun w h => Cl.sel (by (repeat first | exact Sel.nil _ | refine Sel.take 0 rfl ?_ | refine Sel.take 1 rfl ?_ | refine Sel.take 2 rfl ?_ | refine Sel.take 3 rfl ?_ | refine Sel.take 4 rfl ?_ | refine Sel.take 5 rfl ?_ | refine Sel.take 6 rfl ?_ | refine Sel.take 7 rfl ?_ | refine Sel.take 8 rfl ?_ | refine Sel.take 9 rfl ?_ | refine Sel.take 10 rfl ?_ | refine Sel.take 11 rfl ?_)) w h)) ?_ | refine aw_one0 12 (by kernel_rfl) rfl rfl rfl (e_store (i := 7) rfl rfl rfl rfl rfl rfl rfl rfl) (by intro hb; first | (exact absurd hb (by decide)) | exact (fun w h => Cl.sel (by (repeat first | exact Sel.nil _ | refine Sel.take 0 rfl ?_ | refine Sel.take 1 rfl ?_ | refine Sel.take 2 rfl ?_ | refine Sel.take 3 rfl ?_ | refine Sel.take 4 rfl ?_ | refine Sel.take 5 rfl ?_ | refine Sel.take 6 rfl ?_ | refine Sel.take 7 rfl ?_ | refine Sel.take 8 rfl ?_ | refine Sel.take 9 rfl ?_ | refine Sel.take 10 rfl ?_ | refine Sel.take 11 rfl ?_)) w h)) ?_ | refine aw_one0 12 (by kernel_rfl) rfl rfl rfl (e_store (i := 8) rfl rfl rfl rfl rfl rfl rfl rfl) (by intro hb; first | (exact absurd hb (by decide)) | exact (fun w h => Cl.sel (by (repeat first | exact Sel.nil _ | refine Sel.take 0 rfl ?_ | refine Sel.take 1 rfl ?_ | refine Sel.take 2 rfl ?_ | refine Sel.take 3 rfl ?_ | refine Sel.take 4 rfl ?_ | refine Sel.take 5 rfl ?_ | refine Sel.take 6 rfl ?_ | refine Sel.take 7 rfl ?_ | refine Sel.take 8 rfl ?_ | refine Sel.take 9 rfl ?_ | refine Sel.take 10 rfl ?_ | refine Sel.take 11 rfl ?_)) w h)) ?_ | refine aw_one0 12 (by kernel_rfl) rfl rfl rfl (e_store (i := 9) rfl rfl rfl rfl rfl rfl rfl rfl) (by intro hb; first | (exact absurd hb (by decide)) | exact (fun w h => Cl.sel (by (repeat first | exact Sel.nil _ | refine Sel.take 0 rfl ?_ | refine Sel.take 1 rfl ?_ | refine Sel.take 2 rfl ?_ | refine Sel.take 3 rfl ?_ | refine Sel.take 4 rfl ?_ | refine Sel.take 5 rfl ?_ | refine Sel.take 6 rfl ?_ | refine Sel.take 7 rfl ?_ | refine Sel.take 8 rfl ?_ | refine Sel.take 9 rfl ?_ | refine Sel.take 10 rfl ?_ | refine Sel.take 11 rfl ?_)) w h)) ?_ | refine aw_one0 12 (by kernel_rfl) rfl rfl rfl (e_store (i := 10) rfl rfl rfl rfl rfl rfl rfl rfl) (by intro hb; first | (exact absurd hb (by decide)) | exact (fun w h => Cl.sel (by (repeat first | exact Sel.nil _ | refine Sel.take 0 rfl ?_ | refine Sel.take 1 rfl ?_ | refine Sel.take 2 rfl ?_ | refine Sel.take 3 rfl ?_ | refine Sel.take 4 rfl ?_ | refine Sel.take 5 rfl ?_ | refine Sel.take 6 rfl ?_ | refine Sel.take 7 rfl ?_ | refine Sel.take 8 rfl ?_ | refine Sel.take 9 rfl ?_ | refine Sel.take 10 rfl ?_ | refine Sel.take 11 rfl ?_)) w h)) ?_ | refine aw_one0 12 (by kernel_rfl) rfl rfl rfl (e_store (i := 11) rfl rfl rfl rfl rfl rfl rfl rfl) (by intro hb; first | (exact absurd hb (by decide)) | exact (fun w h => Cl.sel (by (repeat first | exact Sel.nil _ | refine Sel.take 0 rfl ?_ | refine Sel.take 1 rfl ?_ | refine Sel.take 2 rfl ?_ | refine Sel.take 3 rfl ?_ | refine Sel.take 4 rfl ?_ | refine Sel.take 5 rfl ?_ | refine Sel.take 6 rfl ?_ | refine Sel.take 7 rfl ?_ | refine Sel.take 8 rfl ?_ | refine Sel.take 9 rfl ?_ | refine Sel.take 10 rfl ?_ | refine Sel.take 11 rfl ?_)) w h)) ?_ | refine aw_one0 12 (by kernel_rfl) rfl rfl rfl (e_store (i := 12) rfl rfl rfl rfl rfl rfl rfl rfl) (by intro hb; first | (exact absurd hb (by decide)) | exact (fun w h => Cl.sel (by (repeat first | exact Sel.nil _ | refine Sel.take 0 rfl ?_ | refine Sel.take 1 rfl ?_ | refine Sel.take 2 rfl ?_ | refine Sel.take 3 rfl ?_ | refine Sel.take 4 rfl ?_ | refine Sel.take 5 rfl ?_ | refine Sel.take 6 rfl ?_ | refine Sel.take 7 rfl ?_ | refine Sel.take 8 rfl ?_ | refine Sel.take 9 rfl ?_ | refine Sel.take 10 rfl ?_ | refine Sel.take 11 rfl ?_)) w h)) ?_ | refine aw_one0 12 (by kernel_rfl) rfl rfl rfl (e_store (i := 13) rfl rfl rfl rfl rfl rfl rfl rfl) (by intro hb; first | (exact absurd hb (by decide)) | exact (fun w h => Cl.sel (by (repeat first | exact Sel.nil _ | refine Sel.take 0 rfl ?_ | refine Sel.take 1 rfl ?_ | refine Sel.take 2 rfl ?_ | refine Sel.take 3 rfl ?_ | refine Sel.take 4 rfl ?_ | refine Sel.take 5 rfl ?_ | refine Sel.take 6 rfl ?_ | refine Sel.take 7 rfl ?_ | refine Sel.take 8 rfl ?_ | refine Sel.take 9 rfl ?_ | refine Sel.take 10 rfl ?_ | refine Sel.take 11 rfl ?_)) w h)) ?_ | refine aw_one0 12 (by kernel_rfl) rfl rfl rfl (e_store (i := 14) rfl rfl rfl rfl rfl rfl rfl rfl) (by intro hb; first | (exact absurd hb (by decide)) | exact (fun w h => Cl.sel (by (repeat first | exact Sel.nil _ | refine Sel.take 0 rfl ?_ | refine Sel.take 1 rfl ?_ | refine Sel.take 2 rfl ?_ | refine Sel.take 3 rfl ?_ | refine Sel.take 4 rfl ?_ | refine Sel.take 5 rfl ?_ | refine Sel.take 6 rfl ?_ | refine Sel.take 7 rfl ?_ | refine Sel.take 8 rfl ?_ | refine Sel.take 9 rfl ?_ | refine Sel.take 10 rfl ?_ | refine Sel.take 11 rfl ?_)) w h)) ?_ | refine aw_one0 12 (by kernel_rfl) rfl rfl rfl (e_store (i := 15) rfl rfl rfl rfl rfl rfl rfl rfl) (by intro hb; first | (exact absurd hb (by decide)) | exact (fun w h => Cl.sel (by (repeat first | exact Sel.nil _ | refine Sel.take 0 rfl ?_ | refine Sel.take 1 rfl ?_ | refine Sel.take 2 rfl ?_ | refine Sel.take 3 rfl ?_ | refine Sel.take 4 rfl ?_ | refine Sel.take 5 rfl ?_ | refine Sel.take 6 rfl ?_ | refine Sel.take 7 rfl ?_ | refine Sel.take 8 rfl ?_ | refine Sel.take 9 rfl ?_ | refine Sel.take 10 rfl ?_ | refine Sel.take 11 rfl ?_)) w h)) ?_ | refine aw_one0 12 (by kernel_rfl) rfl rfl rfl (e_storeEl1 (i := 0) rfl rfl rfl rfl rfl (by first | omega | (simp only [List.length_set, List.length_append, List.length_cons, List.length_nil, List.length_replicate, List.length_take, List.length_drop, List.length_map]; omega))) (by intro hb; first | (exact absurd hb (by decide)) | exact (fun w h => Cl.sel (by (repeat first | exact Sel.nil _ | refine Sel.take 0 rfl ?_ | refine Sel.take 1 rfl ?_ | refine Sel.take 2 rfl ?_ | refine Sel.take 3 rfl ?_ | refine Sel.take 4 rfl ?_ | refine Sel.take 5 rfl ?_ | refine Sel.take 6 rfl ?_ | refine Sel.take 7 rfl ?_ | refine Sel.take 8 rfl ?_ | refine Sel.take 9 rfl ?_ | refine Sel.take 10 rfl ?_ | refine Sel.take 11 rfl ?_)) w h)) ?_ | refine aw_one0 12 (by kernel_rfl) rfl rfl rfl (e_storeEl1 (i := 1) rfl rfl rfl rfl rfl (by first | omega | (simp only [List.length_set, List.length_append, List.length_cons, List.length_nil, List.length_replicate, List.length_take, List.length_drop, List.length_map]; omega))) (by intro hb; first | (exact absurd hb (by decide)) | exact (fun w h => Cl.sel (by (repeat first | exact Sel.nil _ | refine Sel.take 0 rfl ?_ | refine Sel.take 1 rfl ?_ | refine Sel.take 2 rfl ?_ | refine Sel.take 3 rfl ?_ | refine Sel.take 4 rfl ?_ | refine Sel.take 5 rfl ?_ | refine Sel.take 6 rfl ?_ | refine Sel.take 7 rfl ?_ | refine Sel.take 8 rfl ?_ | refine Sel.take 9 rfl ?_ | refine Sel.take 10 rfl ?_ | refine Sel.take 11 rfl ?_)) w h)) ?_ | refine aw_one0 12 (by kernel_rfl) rfl rfl rfl (e_storeEl1 (i := 2) rfl rfl rfl rfl rfl (by first | omega | (simp only [List.length_set, List.length_append, List.length_cons, List.length_nil, List.length_replicate, List.length_take, List.length_drop, List.length_map]; omega))) (by intro hb; first | (exact absurd hb (by decide)) | exact (fun w h => Cl.sel (by (repeat first | exact Sel.nil _ | refine Sel.take 0 rfl ?_ | refine Sel.take 1 rfl ?_ | refine Sel.take 2 rfl ?_ | refine Sel.take 3 rfl ?_ | refine Sel.take 4 rfl ?_ | refine Sel.take 5 rfl ?_ | refine Sel.take 6 rfl ?_ | refine Sel.take 7 rfl ?_ | refine Sel.take 8 rfl ?_ | refine Sel.take 9 rfl ?_ | refine Sel.take 10 rfl ?_ | refine Sel.take 11 rfl ?_)) w h)) ?_ | refine aw_one0 12 (by kernel_rfl) rfl rfl rfl (e_storeEl1 (i := 3) rfl rfl rfl rfl rfl (by first | omega | (simp only [List.length_set, List.length_append, List.length_cons, List.length_nil, List.length_replicate, List.length_take, List.length_drop, List.length_map]; omega))) (by intro hb; first | (exact absurd hb (by decide)) | exact (fun w h => Cl.sel (by (repeat first | exact Sel.nil _ | refine Sel.take 0 rfl ?_ | refine Sel.take 1 rfl ?_ | refine Sel.take 2 rfl ?_ | refine Sel.take 3 rfl ?_ | refine Sel.take 4 rfl ?_ | refine Sel.take 5 rfl ?_ | refine Sel.take 6 rfl ?_ | refine Sel.take 7 rfl ?_ | refine Sel.take 8 rfl ?_ | refine Sel.take 9 rfl ?_ | refine Sel.take 10 rfl ?_ | refine Sel.take 11 rfl ?_)) w h)) ?_ | refine aw_one0 12 (by kernel_rfl) rfl rfl rfl (e_storeEl1 (i := 4) rfl rfl rfl rfl rfl (by first | omega | (simp only [List.length_set, List.length_append, List.length_cons, List.length_nil, List.length_replicate, List.length_take, List.length_drop, List.length_map]; omega))) (by intro hb; first | (exact absurd hb (by decide)) | exact (fun w h => Cl.sel (by (repeat first | exact Sel.nil _ | refine Sel.take 0 rfl ?_ | refine Sel.take 1 rfl ?_ | refine Sel.take 2 rfl ?_ | refine Sel.take 3 rfl ?_ | refine Sel.take 4 rfl ?_ | refine Sel.take 5 rfl ?_ | refine Sel.take 6 rfl ?_ | refine Sel.take 7 rfl ?_ | refine Sel.take 8 rfl ?_ | refine Sel.take 9 rfl ?_ | refine Sel.take 10 rfl ?_ | refine Sel.take 11 rfl ?_)) w h)) ?_ | refine aw_one0 12 (by kernel_rfl) rfl rfl rfl (e_storeEl1 (i := 5) rfl rfl rfl rfl rfl (by first | omega | (simp only [List.length_set, List.length_append, List.length_cons, List.length_nil, List.length_replicate, List.length_take, List.length_drop, List.length_map]; omega))) (by intro hb; first | (exact absurd hb (by decide)) | exact (fun w h => Cl.sel (by (repeat first | exact Sel.nil _ | refine Sel.take 0 rfl ?_ | refine Sel.take 1 rfl ?_ | refine Sel.take 2 rfl ?_ | refine Sel.take 3 rfl ?_ | refine Sel.take 4 rfl ?_ | refine Sel.take 5 rfl ?_ | refine Sel.take 6 rfl ?_ | refine Sel.take 7 rfl ?_ | refine Sel.take 8 rfl ?_ | refine Sel.take 9 rfl ?_ | refine Sel.take 10 rfl ?_ | refine Sel.take 11 rfl ?_)) w h)) ?_ | refine aw_one0 12 (by kernel_rfl) rfl rfl rfl (e_storeEl1 (i := 6) rfl rfl rfl rfl rfl (by first | omega | (simp only [List.length_set, List.length_append, List.length_cons, List.length_nil, List.length_replicate, List.length_take, List.length_drop, List.length_map]; omega))) (by intro hb; first | (exact absurd hb (by decide)) | exact (fun w h => Cl.sel (by (repeat first | exact Sel.nil _ | refine Sel.take 0 rfl ?_ | refine Sel.take 1 rfl ?_ | refine Sel.take 2 rfl ?_ | refine Sel.take 3 rfl ?_ | refine Sel.take 4 rfl ?_ | refine Sel.take 5 rfl ?_ | refine Sel.take 6 rfl ?_ | refine Sel.take 7 rfl ?_ | refine Sel.take 8 rfl ?_ | refine Sel.take 9 rfl ?_ | refine Sel.take 10 rfl ?_ | refine Sel.take 11 rfl ?_)) w h)) ?_ | refine aw_one0 12 (by kernel_rfl) rfl rfl rfl (e_storeEl1 (i := 7) rfl rfl rfl rfl rfl (by first | omega | (simp only [List.length_set, List.length_append, List.length_cons, List.length_nil, List.length_replicate, List.length_take, List.length_drop, List.length_map]; omega))) (by intro hb; first | (exact absurd hb (by decide)) | exact (fun w h => Cl.sel (by (repeat first | exact Sel.nil _ | refine Sel.take 0 rfl ?_ | refine Sel.take 1 rfl ?_ | refine Sel.take 2 rfl ?_ | refine Sel.take 3 rfl ?_ | refine Sel.take 4 rfl ?_ | refine Sel.take 5 rfl ?_ | refine Sel.take 6 rfl ?_ | refine Sel.take 7 rfl ?_ | refine Sel.take 8 rfl ?_ | refine Sel.take 9 rfl ?_ | refine Sel.take 10 rfl ?_ | refine Sel.take 11 rfl ?_)) w h)) ?_ | refine aw_one0 12 (by kernel_rfl) rfl rfl rfl (e_storeEl1 (i := 8) rfl rfl rfl rfl rfl (by first | omega | (simp only [List.length_set, List.length_append, List.length_cons, List.length_nil, List.length_replicate, List.length_take, List.length_drop, List.length_map]; omega))) (by intro hb; first | (exact absurd hb (by decide)) | exact (fun w h => Cl.sel (by (repeat first | exact Sel.nil _ | refine Sel.take 0 rfl ?_ | refine Sel.take 1 rfl ?_ | refine Sel.take 2 rfl ?_ | refine Sel.take 3 rfl ?_ | refine Sel.take 4 rfl ?_ | refine Sel.take 5 rfl ?_ | refine Sel.take 6 rfl ?_ | refine Sel.take 7 rfl ?_ | refine Sel.take 8 rfl ?_ | refine Sel.take 9 rfl ?_ | refine Sel.take 10 rfl ?_ | refine Sel.take 11 rfl ?_)) w h)) ?_ | refine aw_one0 12 (by kernel_rfl) rfl rfl rfl (e_storeEl1 (i := 9) rfl rfl rfl rfl rfl (by first | omega | (simp only [List.length_set, List.length_append, List.length_cons, List.length_nil, List.length_replicate, List.length_take, List.length_drop, List.length_map]; omega))) (by intro hb; first | (exact absurd hb (by decide)) | exact (fun w h => Cl.sel (by (repeat first | exact Sel.nil _ | refine Sel.take 0 rfl ?_ | refine Sel.take 1 rfl ?_ | refine Sel.take 2 rfl ?_ | refine Sel.take 3 rfl ?_ | refine Sel.take 4 rfl ?_ | refine Sel.take 5 rfl ?_ | refine Sel.take 6 rfl ?_ | refine Sel.take 7 rfl ?_ | refine Sel.take 8 rfl ?_ | refine Sel.take 9 rfl ?_ | refine Sel.take 10 rfl ?_ | refine Sel.take 11 rfl ?_)) w h)) ?_ | refine aw_one0 12 (by kernel_rfl) rfl rfl rfl (e_storeEl1 (i := 10) rfl rfl rfl rfl rfl (by first | omega | (simp only [List.length_set, List.length_append, List.length_cons, List.length_nil, List.length_replicate, List.length_take, List.length_drop, List.length_map]; omega))) (by intro hb; first | (exact absurd hb (by decide)) | exact (fun w h => Cl.sel (by (repeat first | exact Sel.nil _ | refine Sel.take 0 rfl ?_ | refine Sel.take 1 rfl ?_ | refine Sel.take 2 rfl ?_ | refine Sel.take 3 rfl ?_ | refine Sel.take 4 rfl ?_ | refine Sel.take 5 rfl ?_ | refine Sel.take 6 rfl ?_ | refine Sel.take 7 rfl ?_ | refine Sel.take 8 rfl ?_ | refine Sel.take 9 rfl ?_ | refine Sel.take 10 rfl ?_ | refine Sel.take 11 rfl ?_)) w h)) ?_ | refine aw_one0 12 (by kernel_rfl) rfl rfl rfl (e_storeEl1 (i := 11) rfl rfl rfl rfl rfl (by first | omega | (simp only [List.length_set, List.length_append, List.length_cons, List.length_nil, List.length_replicate, List.length_take, List.length_drop, List.length_map]; omega))) (by intro hb; first | (exact absurd hb (by decide)) | exact (fun w h => Cl.sel (by (repeat first | exact Sel.nil _ | refine Sel.take 0 rfl ?_ | refine Sel.take 1 rfl ?_ | refine Sel.take 2 rfl ?_ | refine Sel.take 3 rfl ?_ | refine Sel.take 4 rfl ?_ | refine Sel.take 5 rfl ?_ | refine Sel.take 6 rfl ?_ | refine Sel.take 7 rfl ?_ | refine Sel.take 8 rfl ?_ | refine Sel.take 9 rfl ?_ | refine Sel.take 10 rfl ?_ | refine Sel.take 11 rfl ?_)) w h)) ?_ | refine aw_one0 12 (by kernel_rfl) rfl rfl rfl (e_storeEl1 (i := 12) rfl rfl rfl rfl rfl (by first | omega | (simp only [List.length_set, List.length_append, List.length_cons, List.length_nil, List.length_replicate, List.length_take, List.length_drop, List.length_map]; omega))) (by intro hb; first | (exact absurd hb (by decide)) | exact (fun w h => Cl.sel (by (repeat first | exact Sel.nil _ | refine Sel.take 0 rfl ?_ | refine Sel.take 1 rfl ?_ | refine Sel.take 2 rfl ?_ | refine Sel.take 3 rfl ?_ | refine Sel.take 4 rfl ?_ | refine Sel.take 5 rfl ?_ | refine Sel.take 6 rfl ?_ | refine Sel.take 7 rfl ?_ | refine Sel.take 8 rfl ?_ | refine Sel.take 9 rfl ?_ | refine Sel.take 10 rfl ?_ | refine Sel.take 11 rfl ?_)) w h)) ?_ | refine aw_one0 12 (by kernel_rfl) rfl rfl rfl (e_storeEl1 (i := 13) rfl rfl rfl rfl rfl (by first | omega | (simp only [List.length_set, List.length_append, List.length_cons, List.length_nil, List.length_replicate, List.length_take, List.length_drop, List.length_map]; omega))) (by intro hb; first | (exact absurd hb (by decide)) | exact (fun w h => Cl.sel (by (repeat first | exact Sel.nil _ | refine Sel.take 0 rfl ?_ | refine Sel.take 1 rfl ?_ | refine Sel.take 2 rfl ?_ | refine Sel.take 3 rfl ?_ | refine Sel.take 4 rfl ?_ | refine Sel.take 5 rfl ?_ | refine Sel.take 6 rfl ?_ | refine Sel.take 7 rfl ?_ | refine Sel.take 8 rfl ?_ | refine Sel.take 9 rfl ?_ | refine Sel.take 10 rfl ?_ | refine Sel.take 11 rfl ?_)) w h)) ?_ | refine aw_one0 12 (by kernel_rfl) rfl rfl rfl (e_storeEl1 (i := 14) rfl rfl rfl rfl rfl (by first | omega | (simp only [List.length_set, List.length_append, List.length_cons, List.length_nil, List.length_replicate, List.length_take, List.length_drop, List.length_map]; omega))) (by intro hb; first | (exact absurd hb (by decide)) | exact (fun w h => Cl.sel (by (repeat first | exact Sel.nil _ | refine Sel.take 0 rfl ?_ | refine Sel.take 1 rfl ?_ | refine Sel.take 2 rfl ?_ | refine Sel.take 3 rfl ?_ | refine Sel.take 4 rfl ?_ | refine Sel.take 5 rfl ?_ | refine Sel.take 6 rfl ?_ | refine Sel.take 7 rfl ?_ | refine Sel.take 8 rfl ?_ | refine Sel.take 9 rfl ?_ | refine Sel.take 10 rfl ?_ | refine Sel.take 11 rfl ?_)) w h)) ?_ | refine aw_one0 12 (by kernel_rfl) rfl rfl rfl (e_storeEl1 (i := 15) rfl rfl rfl rfl rfl (by first | omega | (simp only [List.length_set, List.length_append, List.length_cons, List.length_nil, List.length_replicate, List.length_take, List.length_drop, List.length_map]; omega))) (by intro hb; first | (exact absurd hb (by decide)) | exact (fun w h => Cl.sel (by (repeat first | exact Sel.nil _ | refine Sel.take 0 rfl ?_ | refine Sel.take 1 rfl ?_ | refine Sel.take 2 rfl ?_ | refine Sel.take 3 rfl ?_ | refine Sel.take 4 rfl ?_ | refine Sel.take 5 rfl ?_ | refine Sel.take 6 rfl ?_ | refine Sel.take 7 rfl ?_ | refine Sel.take 8 rfl ?_ | refine Sel.take 9 rfl ?_ | refine Sel.take 10 rfl ?_ | refine Sel.take 11 rfl ?_)) w h)) ?_
                refine aw_end (by kernel_rfl) ?_
                refine post_blk ?_
                refine post_then ?_
                -- region 16
                refine cw_region ?_
                refine sw_step rfl rfl rfl (OpR.q (q_move rfl rfl)) ?_
                refine sw_step rfl rfl rfl (OpR.q (q_add rfl rfl rfl (by intro hc; first | omega | (simp only [List.length_set, List.length_append, List.length_cons, List.length_nil, List.length_replicate, List.length_take, List.length_drop, List.length_map]; omega) | (simp only [AllT.iff, List.all_cons, List.all_nil, id, Bool.and_eq_true, Bool.not_eq_true', decide_eq_true_eq, decide_eq_false_iff_not, and_true] at hc; first | omega | (simp only [List.length_set, List.length_append, List.length_cons, List.length_nil, List.length_replicate, List.length_take, List.length_drop, List.length_map]; omega)) | (exfalso; simp_all [AllT]; done)))) ?_
                refine sw_step rfl rfl rfl (OpR.q (q_assign rfl rfl)) ?_
                refine sw_nil ?_
                refine post_next (k + 1) (by (repeat first | exact Le.nil | refine Le.cons rfl ?_ | refine Le.cons' rfl (by congr 1; first | omega | (simp only; omega)) ?_)) (fun _ h => h) ⟨by omega, fun i hi => ?_⟩ (by omega)
                by_cases hik : i = k
                · rw [hik]; exact h9
                · exact hnb i (by omega)
            · skip
              have hk' : k = ws.length := by simp only [decide_eq_false_iff_not] at h7; omega
              subst hk'
              generalize hX : addNoise (gainTo ws num den ws.length) noise ws.length = x at hal
              have hxn : ∀ i, i < ws.length → -(den + 2 * den * most) ≤ 2 * den * nth x i - 2 * num * nth ws i ∧ 2 * den * nth x i - 2 * num * nth ws i ≤ den + 2 * den * most := fun i hi => by
                have e1 : nth x i = rnd (nth ws i * num) den + nth noise i := by rw [← hX, addNoise_nth _ _ _ (by omega), if_pos hi, gainTo_nth hi, hcl i hi]
                have e2 := rnd_near (a := nth ws i * num) b3.1
                have e3 := hnb i hi
                have e4 := prod_bd2 (a := nth noise i) (b := 2 * den) (A := most) (B := 2 * den) e3 (by omega) b4.1
                rw [e1, Int.mul_add, Int.mul_assoc 2 num, Int.mul_comm num]
                rw [Int.mul_comm (nth noise i), Int.mul_comm most] at e4
                omega
              refine cw_exit ?_
              refine post_then_x ?_
              refine post_then_x ?_
              refine post_blk_eq ?_
              refine post_then ?_
              refine cw_seq ?_
              refine cw_seq ?_
              -- region 20
              refine cw_region ?_
              refine sw_step rfl rfl rfl (OpR.q (q_move rfl rfl)) ?_
              refine sw_step rfl rfl rfl (q_call (CanCall.mk Try.call24) rfl (.cons rfl inferInstance (.nil)) (fun _ w hw => callq hw (samples_spec _ _ w (by first | exact stb_arg hw (by assumption) | exact stb_own hw (by first | assumption | (repeat first | exact .head _ | apply List.Mem.tail)))))) ?_
              refine sw_step rfl rfl rfl (OpR.q (q_not rfl rfl)) ?_
              refine sw_nil ?_
              refine post_then ?_
              -- STOP at: cond
              refine cw_cond rfl (fun h8 => ?_) (fun h8 => ?_)
              · skip
                refine cw_seq ?_
                -- region 21
                refine cw_region ?_
                refine sw_step rfl rfl rfl (q_call (CanCall.mk Try.call15) rfl (.nil) (fun _ w hw => callq hw (known_spec w))) ?_
                refine sw_step rfl rfl rfl (OpR.q (q_assign rfl rfl)) ?_
                refine sw_nil ?_
                refine post_then ?_
                refine cw_ret ?_
                refine post_then_r ?_
                refine post_ret1 rfl (resOk_tmp rfl) ?_
                exact fun w' hw => ⟨rfl, (fun w h => Cl.sel (by (repeat first | exact Sel.nil _ | refine Sel.take 0 rfl ?_ | refine Sel.take 1 rfl ?_ | refine Sel.take 2 rfl ?_ | refine Sel.take 3 rfl ?_ | refine Sel.take 4 rfl ?_ | refine Sel.take 5 rfl ?_ | refine Sel.take 6 rfl ?_ | refine Sel.take 7 rfl ?_ | refine Sel.take 8 rfl ?_ | refine Sel.take 9 rfl ?_ | refine Sel.take 10 rfl ?_ | refine Sel.take 11 rfl ?_)) w h) _ hw⟩
              · skip
                have hox : okS x = true := by simpa using h8
                have hoz := okS_sub hox lo hi
                have hzl : ((x.take hi).drop lo).length = hi - lo := by simp; omega
                have hwz := wave_of hoz (by omega)
                have hfe : findE ((x.take hi).drop lo) m thr = 0 := by
                  simp only [findE, hwz, hm]; simp [inB]; omega
                have hfound : ∀ j, j < a.length / frameN m → lo ≤ j * frameN m → j * frameN m + frameN m ≤ hi → (⟨(j * frameN m - lo : Nat), msg⟩ : Find) ∈ findL ((x.take hi).drop lo) m thr := fun j hj h1 h2 =>
                  survive_found hm hg hsv hs (by have := frame_le (m := m) hj; omega) (by omega) (hmarks j hj) hxn h1 h2 (by omega)
                refine cw_skip ?_
                refine post_then ?_
                refine cw_seq ?_
                -- region 22
                -- STOP: a region with effects that draws its order
                refine cw_region_a (Cl w [] [ownL 3 s181.v x, blk b11 (enc m) 55]) [] mixed_Try ?_
                refine aw_pure 0 rfl (by kernel_rfl) (by kernel_rfl) (by kernel_rfl) (by kernel_rfl) (by kernel_rfl) rfl rfl rfl (q_move rfl rfl) ?_
                refine aw_pure 1 rfl (by kernel_rfl) (by kernel_rfl) (by kernel_rfl) (by kernel_rfl) (by kernel_rfl) rfl rfl rfl (q_move rfl rfl) ?_
                refine aw_pure 2 rfl (by kernel_rfl) (by kernel_rfl) (by kernel_rfl) (by kernel_rfl) (by kernel_rfl) rfl rfl rfl (q_move rfl rfl) ?_
                refine aw_take 3 (fun w h => Cl.sel (by (repeat first | exact Sel.nil _ | refine Sel.take 0 rfl ?_ | refine Sel.take 1 rfl ?_ | refine Sel.take 2 rfl ?_ | refine Sel.take 3 rfl ?_ | refine Sel.take 4 rfl ?_ | refine Sel.take 5 rfl ?_ | refine Sel.take 6 rfl ?_ | refine Sel.take 7 rfl ?_ | refine Sel.take 8 rfl ?_ | refine Sel.take 9 rfl ?_ | refine Sel.take 10 rfl ?_ | refine Sel.take 11 rfl ?_)) w h) rfl (by kernel_rfl) (by kernel_rfl) (by kernel_rfl) (by kernel_rfl) (by kernel_rfl) (by kernel_rfl) rfl rfl rfl (q_slice2 rfl rfl rfl rfl (by first | exact fun w hw => Stb.cl (by assumption) hw | exact fun w hw => rd_own hw (by first | assumption | (repeat first | exact .head _ | apply List.Mem.tail)) | assumption) (by intro hc; first | omega | (simp only [List.length_set, List.length_append, List.length_cons, List.length_nil, List.length_replicate, List.length_take, List.length_drop, List.length_map]; omega) | (simp only [AllT.iff, List.all_cons, List.all_nil, id, Bool.and_eq_true, Bool.not_eq_true', decide_eq_true_eq, decide_eq_false_iff_not, and_true] at hc; first | omega | (simp only [List.length_set, List.length_append, List.length_cons, List.length_nil, List.length_replicate, List.length_take, List.length_drop, List.length_map]; omega)) | (exfalso; simp_all [AllT]; done))) ?_
                first | refine aw_take 4 (fun w h => Cl.sel (by (repeat first | exact Sel.nil _ | refine Sel.take 0 rfl ?_ | refine Sel.take 1 rfl ?_ | refine Sel.take 2 rfl ?_ | refine Sel.take 3 rfl ?_ | refine Sel.take 4 rfl ?_ | refine Sel.take 5 rfl ?_ | refine Sel.take 6 rfl ?_ | refine Sel.take 7 rfl ?_ | refine Sel.take 8 rfl ?_ | refine Sel.take 9 rfl ?_ | refine Sel.take 10 rfl ?_ | refine Sel.take 11 rfl ?_)) w h) rfl (by kernel_rfl) (by kernel_rfl) (by kernel_rfl) (by kernel_rfl) (by kernel_rfl) (by kernel_rfl) rfl rfl rfl (q_loadC rfl rfl (by first | assumption | (repeat first | exact .head _ | apply List.Mem.tail)) rfl) ?_ | refine aw_take 4 (fun w h => Cl.sel (by (repeat first | exact Sel.nil _ | refine Sel.take 0 rfl ?_ | refine Sel.take 1 rfl ?_ | refine Sel.take 2 rfl ?_ | refine Sel.take 3 rfl ?_ | refine Sel.take 4 rfl ?_ | refine Sel.take 5 rfl ?_ | refine Sel.take 6 rfl ?_ | refine Sel.take 7 rfl ?_ | refine Sel.take 8 rfl ?_ | refine Sel.take 9 rfl ?_ | refine Sel.take 10 rfl ?_ | refine Sel.take 11 rfl ?_)) w h) rfl (by kernel_rfl) (by kernel_rfl) (by kernel_rfl) (by kernel_rfl) (by kernel_rfl) (by kernel_rfl) rfl rfl rfl (q_loadA rfl rfl (by first | assumption | (repeat first | exact .head _ | apply List.Mem.tail)) rfl) ?_ | refine aw_take 4 (fun w h => Cl.sel (by (repeat first | exact Sel.nil _ | refine Sel.take 0 rfl ?_ | refine Sel.take 1 rfl ?_ | refine Sel.take 2 rfl ?_ | refine Sel.take 3 rfl ?_ | refine Sel.take 4 rfl ?_ | refine Sel.take 5 rfl ?_ | refine Sel.take 6 rfl ?_ | refine Sel.take 7 rfl ?_ | refine Sel.take 8 rfl ?_ | refine Sel.take 9 rfl ?_ | refine Sel.take 10 rfl ?_ | refine Sel.take 11 rfl ?_)) w h) rfl (by kernel_rfl) (by kernel_rfl) (by kernel_rfl) (by kernel_rfl) (by kernel_rfl) (by kernel_rfl) rfl rfl rfl (q_loadEl rfl rfl rfl (by first | exact fun w hw => Stb.cl (by assumption) hw | exact fun w hw => rd_own hw (by first | assumption | (repeat first | exact .head _ | apply List.Mem.tail)) | assumption) (by intro hc; first | omega | (simp only [List.length_set, List.length_append, List.length_cons, List.length_nil, List.length_replicate, List.length_take, List.length_drop, List.length_map]; omega) | (simp only [AllT.iff, List.all_cons, List.all_nil, id, Bool.and_eq_true, Bool.not_eq_true', decide_eq_true_eq, decide_eq_false_iff_not, and_true] at hc; first | omega | (simp only [List.length_set, List.length_append, List.length_cons, List.length_nil, List.length_replicate, List.length_take, List.length_drop, List.length_map]; omega)) | (exfalso; simp_all [AllT]; done))) ?_ | refine aw_take 4 (fun w h => Cl.sel (by (repeat first | exact Sel.nil _ | refine Sel.take 0 rfl ?_ | refine Sel.take 1 rfl ?_ | refine Sel.take 2 rfl ?_ | refine Sel.take 3 rfl ?_ | refine Sel.take 4 rfl ?_ | refine Sel.take 5 rfl ?_ | refine Sel.take 6 rfl ?_ | refine Sel.take 7 rfl ?_ | refine Sel.take 8 rfl ?_ | refine Sel.take 9 rfl ?_ | refine Sel.take 10 rfl ?_ | refine Sel.take 11 rfl ?_)) w h) rfl (by kernel_rfl) (by kernel_rfl) (by kernel_rfl) (by kernel_rfl) (by kernel_rfl) (by kernel_rfl) rfl rfl rfl (q_loadF rfl rfl rfl (by first | exact fun w hw => Stb.cl (by assumption) hw | exact fun w hw => rd_own hw (by first | assumption | (repeat first | exact .head _ | apply List.Mem.tail)) | assumption) (by intro hc; first | omega | (simp only [List.length_set, List.length_append, List.length_cons, List.length_nil, List.length_replicate, List.length_take, List.length_drop, List.length_map]; omega) | (simp only [AllT.iff, List.all_cons, List.all_nil, id, Bool.and_eq_true, Bool.not_eq_true', decide_eq_true_eq, decide_eq_false_iff_not, and_true] at hc; first | omega | (simp only [List.length_set, List.length_append, List.length_cons, List.length_nil, List.length_replicate, List.length_take, List.length_drop, List.length_map]; omega)) | (exfalso; simp_all [AllT]; done)) rfl) ?_ | refine aw_take 4 (fun w h => Cl.sel (by (repeat first | exact Sel.nil _ | refine Sel.take 0 rfl ?_ | refine Sel.take 1 rfl ?_ | refine Sel.take 2 rfl ?_ | refine Sel.take 3 rfl ?_ | refine Sel.take 4 rfl ?_ | refine Sel.take 5 rfl ?_ | refine Sel.take 6 rfl ?_ | refine Sel.take 7 rfl ?_ | refine Sel.take 8 rfl ?_ | refine Sel.take 9 rfl ?_ | refine Sel.take 10 rfl ?_ | refine Sel.take 11 rfl ?_)) w h) rfl (by kernel_rfl) (by kernel_rfl) (by kernel_rfl) (by kernel_rfl) (by kernel_rfl) (by kernel_rfl) rfl rfl rfl (q_loadS rfl rfl (fun w hw => Stb.cl (by assumption) hw) rfl) ?_
                refine aw_pure 5 rfl (by kernel_rfl) (by kernel_rfl) (by kernel_rfl) (by kernel_rfl) (by kernel_rfl) rfl rfl rfl (q_move rfl rfl) ?_
                -- STOP at: 6 t232 := call {callee=(value F46), args=[t229, t230, t231], argTypes=[37, 55, 3]} :77
                refine aw_x 6 (by kernel_rfl) rfl rfl rfl rfl (e_call (CanCall.mk Try.call46) rfl (.cons rfl inferInstance (.cons rfl inferInstance (.cons rfl inferInstance (.nil)))) (fun w hw => houseFind_spec (s181.sub 1 lo hi) ((x.take hi).drop lo) m thr w (stb_sub (stb_own (e := 3) hw (by first | assumption | (repeat first | exact .head _ | apply List.Mem.tail))) (by omega) (by omega)) (.inl (by omega)))) (by intro hb; first | (exact absurd hb (by decide)) | exact fun _ => (fun w h => Cl.sel (by (repeat first | exact Sel.nil _ | refine Sel.take 0 rfl ?_ | refine Sel.take 1 rfl ?_ | refine Sel.take 2 rfl ?_ | refine Sel.take 3 rfl ?_ | refine Sel.take 4 rfl ?_ | refine Sel.take 5 rfl ?_ | refine Sel.take 6 rfl ?_ | refine Sel.take 7 rfl ?_ | refine Sel.take 8 rfl ?_ | refine Sel.take 9 rfl ?_ | refine Sel.take 10 rfl ?_ | refine Sel.take 11 rfl ?_)) w h) | exact fun _ w h => (fun w h => Cl.sel (by (repeat first | exact Sel.nil _ | refine Sel.take 0 rfl ?_ | refine Sel.take 1 rfl ?_ | refine Sel.take 2 rfl ?_ | refine Sel.take 3 rfl ?_ | refine Sel.take 4 rfl ?_ | refine Sel.take 5 rfl ?_ | refine Sel.take 6 rfl ?_ | refine Sel.take 7 rfl ?_ | refine Sel.take 8 rfl ?_ | refine Sel.take 9 rfl ?_ | refine Sel.take 10 rfl ?_ | refine Sel.take 11 rfl ?_)) w h) w h.2) (fun s232 => ?_)
                refine aw_imp fun _ => ?_
                rw [hfe]
                refine aw_pure 7 rfl (by kernel_rfl) (by kernel_rfl) (by kernel_rfl) (by kernel_rfl) (by kernel_rfl) rfl rfl rfl (q_move rfl rfl) ?_
                first | refine aw_take 8 (fun w h => Cl.sel (by (repeat first | exact Sel.nil _ | refine Sel.take 0 rfl ?_ | refine Sel.take 1 rfl ?_ | refine Sel.take 2 rfl ?_ | refine Sel.take 3 rfl ?_ | refine Sel.take 4 rfl ?_ | refine Sel.take 5 rfl ?_ | refine Sel.take 6 rfl ?_ | refine Sel.take 7 rfl ?_ | refine Sel.take 8 rfl ?_ | refine Sel.take 9 rfl ?_ | refine Sel.take 10 rfl ?_ | refine Sel.take 11 rfl ?_)) w h) rfl (by kernel_rfl) (by kernel_rfl) (by kernel_rfl) (by kernel_rfl) (by kernel_rfl) (by kernel_rfl) rfl rfl rfl (q_extract rfl rfl rfl) ?_ | refine aw_take 8 (fun w h => Cl.sel (by (repeat first | exact Sel.nil _ | refine Sel.take 0 rfl ?_ | refine Sel.take 1 rfl ?_ | refine Sel.take 2 rfl ?_ | refine Sel.take 3 rfl ?_ | refine Sel.take 4 rfl ?_ | refine Sel.take 5 rfl ?_ | refine Sel.take 6 rfl ?_ | refine Sel.take 7 rfl ?_ | refine Sel.take 8 rfl ?_ | refine Sel.take 9 rfl ?_ | refine Sel.take 10 rfl ?_ | refine Sel.take 11 rfl ?_)) w h) rfl (by kernel_rfl) (by kernel_rfl) (by kernel_rfl) (by kernel_rfl) (by kernel_rfl) (by kernel_rfl) rfl rfl rfl (q_extract rfl rfl (nextV_0 _)) ?_
                first | refine aw_take 9 (fun w h => Cl.sel (by (repeat first | exact Sel.nil _ | refine Sel.take 0 rfl ?_ | refine Sel.take 1 rfl ?_ | refine Sel.take 2 rfl ?_ | refine Sel.take 3 rfl ?_ | refine Sel.take 4 rfl ?_ | refine Sel.take 5 rfl ?_ | refine Sel.take 6 rfl ?_ | refine Sel.take 7 rfl ?_ | refine Sel.take 8 rfl ?_ | refine Sel.take 9 rfl ?_ | refine Sel.take 10 rfl ?_ | refine Sel.take 11 rfl ?_)) w h) rfl (by kernel_rfl) (by kernel_rfl) (by kernel_rfl) (by kernel_rfl) (by kernel_rfl) (by kernel_rfl) rfl rfl rfl (q_extract rfl rfl rfl) ?_ | refine aw_take 9 (fun w h => Cl.sel (by (repeat first | exact Sel.nil _ | refine Sel.take 0 rfl ?_ | refine Sel.take 1 rfl ?_ | refine Sel.take 2 rfl ?_ | refine Sel.take 3 rfl ?_ | refine Sel.take 4 rfl ?_ | refine Sel.take 5 rfl ?_ | refine Sel.take 6 rfl ?_ | refine Sel.take 7 rfl ?_ | refine Sel.take 8 rfl ?_ | refine Sel.take 9 rfl ?_ | refine Sel.take 10 rfl ?_ | refine Sel.take 11 rfl ?_)) w h) rfl (by kernel_rfl) (by kernel_rfl) (by kernel_rfl) (by kernel_rfl) (by kernel_rfl) (by kernel_rfl) rfl rfl rfl (q_extract rfl rfl (nextV_0 _)) ?_
                refine aw_pure 10 rfl (by kernel_rfl) (by kernel_rfl) (by kernel_rfl) (by kernel_rfl) (by kernel_rfl) rfl rfl rfl (q_assign rfl rfl) ?_
                refine aw_pure 11 rfl (by kernel_rfl) (by kernel_rfl) (by kernel_rfl) (by kernel_rfl) (by kernel_rfl) rfl rfl rfl (q_assign rfl rfl) ?_
                refine aw_end (by kernel_rfl) ?_
                refine post_then ?_
                refine cw_seq ?_
                -- region 23
                refine cw_region ?_
                first | refine sw_step rfl rfl rfl (OpR.q (q_loadC rfl rfl (by first | assumption | (repeat first | exact .head _ | apply List.Mem.tail)) rfl)) ?_ | refine sw_step rfl rfl rfl (OpR.q (q_loadA rfl rfl (by first | assumption | (repeat first | exact .head _ | apply List.Mem.tail)) rfl)) ?_ | refine sw_step rfl rfl rfl (OpR.q (q_loadEl rfl rfl rfl (by first | exact fun w hw => Stb.cl (by assumption) hw | exact fun w hw => rd_own hw (by first | assumption | (repeat first | exact .head _ | apply List.Mem.tail)) | assumption) (by intro hc; first | omega | (simp only [List.length_set, List.length_append, List.length_cons, List.length_nil, List.length_replicate, List.length_take, List.length_drop, List.length_map]; omega) | (simp only [AllT.iff, List.all_cons, List.all_nil, id, Bool.and_eq_true, Bool.not_eq_true', decide_eq_true_eq, decide_eq_false_iff_not, and_true] at hc; first | omega | (simp only [List.length_set, List.length_append, List.length_cons, List.length_nil, List.length_replicate, List.length_take, List.length_drop, List.length_map]; omega)) | (exfalso; simp_all [AllT]; done)))) ?_ | refine sw_step rfl rfl rfl (OpR.q (q_loadF rfl rfl rfl (by first | exact fun w hw => Stb.cl (by assumption) hw | exact fun w hw => rd_own hw (by first | assumption | (repeat first | exact .head _ | apply List.Mem.tail)) | assumption) (by intro hc; first | omega | (simp only [List.length_set, List.length_append, List.length_cons, List.length_nil, List.length_replicate, List.length_take, List.length_drop, List.length_map]; omega) | (simp only [AllT.iff, List.all_cons, List.all_nil, id, Bool.and_eq_true, Bool.not_eq_true', decide_eq_true_eq, decide_eq_false_iff_not, and_true] at hc; first | omega | (simp only [List.length_set, List.length_append, List.length_cons, List.length_nil, List.length_replicate, List.length_take, List.length_drop, List.length_map]; omega)) | (exfalso; simp_all [AllT]; done)) rfl)) ?_ | refine sw_step rfl rfl rfl (OpR.q (q_loadS rfl rfl (fun w hw => Stb.cl (by assumption) hw) rfl)) ?_
                refine sw_step rfl rfl rfl (q_call (CanCall.mk Try.call48) rfl (.cons rfl inferInstance (.nil)) (fun _ w hw => callq hw (frame_spec _ (by assumption) w))) ?_
                refine sw_step rfl rfl rfl (OpR.q (q_assign rfl rfl)) ?_
                refine sw_nil ?_
                refine post_then ?_
                refine cw_seq ?_
                refine cw_seq ?_
                -- region 24
                refine cw_region ?_
                refine sw_step rfl rfl rfl (OpR.q (q_assign rfl rfl)) ?_
                refine sw_nil ?_
                refine post_then ?_
                refine cw_block ?_
                -- STOP at: loop
                refine cw_loop (S := Nat) (fun j => [(0, [], sa.v), (2, [], .int .i64 msg), (8, [], .int .i64 lo), (9, [], .int .i64 hi), (29, [], s232.v), (30, [], .int .i64 0), (31, [], .int .i64 (frameN m)), (32, [], .int .i64 (j * frameN m : Nat))]) (fun _ => Cl w [] [ownL 81 s232.v (findL ((x.take hi).drop lo) m thr)]) (fun j => j ≤ a.length / frameN m) (fun j => a.length / frameN m - j) 0 (Nat.zero_le _) (Le.cons rfl (Le.cons rfl (Le.cons rfl (Le.cons rfl (Le.cons rfl (Le.cons rfl (Le.cons rfl (Le.cons' rfl (by simp) Le.nil)))))))) (fun w h => by rw [if_pos rfl] at h; exact (fun w h => Cl.sel (by (repeat first | exact Sel.nil _ | refine Sel.take 0 rfl ?_ | refine Sel.take 1 rfl ?_ | refine Sel.take 2 rfl ?_ | refine Sel.take 3 rfl ?_ | refine Sel.take 4 rfl ?_ | refine Sel.take 5 rfl ?_ | refine Sel.take 6 rfl ?_ | refine Sel.take 7 rfl ?_ | refine Sel.take 8 rfl ?_ | refine Sel.take 9 rfl ?_ | refine Sel.take 10 rfl ?_ | refine Sel.take 11 rfl ?_)) w h) _ h) ?_
                intro j hj
                have hjl : j * frameN m ≤ a.length := Nat.le_trans (Nat.mul_le_mul_right _ hj) (Nat.div_mul_le_self _ _)
                refine cw_seq ?_
                refine cw_seq ?_
                -- region 25
                refine cw_region ?_
                refine sw_step rfl rfl rfl (OpR.q (q_move rfl rfl)) ?_
                refine sw_step rfl rfl rfl (OpR.q (q_move rfl rfl)) ?_
                refine sw_step rfl rfl rfl (OpR.q (q_add rfl rfl rfl (by intro hc; first | omega | (simp only [List.length_set, List.length_append, List.length_cons, List.length_nil, List.length_replicate, List.length_take, List.length_drop, List.length_map]; omega) | (simp only [AllT.iff, List.all_cons, List.all_nil, id, Bool.and_eq_true, Bool.not_eq_true', decide_eq_true_eq, decide_eq_false_iff_not, and_true] at hc; first | omega | (simp only [List.length_set, List.length_append, List.length_cons, List.length_nil, List.length_replicate, List.length_take, List.length_drop, List.length_map]; omega)) | (exfalso; simp_all [AllT]; done)))) ?_
                refine sw_step rfl rfl rfl (OpR.q (q_move rfl rfl)) ?_
                first | refine sw_step rfl rfl rfl (OpR.q (q_len rfl (.cons rfl inferInstance (.nil)) (by first | exact fun w hw => Stb.cl (by assumption) hw | exact fun w hw => rd_own hw (by first | assumption | (repeat first | exact .head _ | apply List.Mem.tail)) | assumption))) ?_ | refine sw_step rfl rfl rfl (OpR.q (q_lenV rfl (.cons rfl inferInstance (.nil)))) ?_
                refine sw_step rfl rfl rfl (OpR.q (q_leq rfl rfl rfl)) ?_
                refine sw_nil ?_
                refine post_then ?_
                -- STOP at: cond
                refine cw_cond rfl (fun h9 => ?_) (fun h9 => ?_)
                · skip
                  have h10 : j * frameN m + frameN m ≤ a.length := by simp only [decide_eq_true_eq] at h9; omega
                  have h11 := (frame_lt hm a.length j).1 h10
                  refine cw_skip ?_
                  refine post_then ?_
                  refine cw_seq ?_
                  refine cw_block ?_
                  refine cw_seq ?_
                  -- region 27
                  refine cw_region ?_
                  refine sw_step rfl rfl rfl (OpR.q (q_move rfl rfl)) ?_
                  refine sw_step rfl rfl rfl (OpR.q (q_move rfl rfl)) ?_
                  refine sw_step rfl rfl rfl (OpR.q (q_geq rfl rfl rfl)) ?_
                  refine sw_step rfl rfl rfl (OpR.q (q_move rfl rfl)) ?_
                  refine sw_step rfl rfl rfl (OpR.q (q_move rfl rfl)) ?_
                  refine sw_step rfl rfl rfl (OpR.q (q_move rfl rfl)) ?_
                  refine sw_step rfl rfl rfl (OpR.q (q_add rfl rfl rfl (by intro hc; first | omega | (simp only [List.length_set, List.length_append, List.length_cons, List.length_nil, List.length_replicate, List.length_take, List.length_drop, List.length_map]; omega) | (simp only [AllT.iff, List.all_cons, List.all_nil, id, Bool.and_eq_true, Bool.not_eq_true', decide_eq_true_eq, decide_eq_false_iff_not, and_true] at hc; first | omega | (simp only [List.length_set, List.length_append, List.length_cons, List.length_nil, List.length_replicate, List.length_take, List.length_drop, List.length_map]; omega)) | (exfalso; simp_all [AllT]; done)))) ?_
                  refine sw_step rfl rfl rfl (OpR.q (q_move rfl rfl)) ?_
                  refine sw_step rfl rfl rfl (OpR.q (q_leq rfl rfl rfl)) ?_
                  refine sw_step rfl rfl rfl (OpR.q (q_and2 rfl rfl rfl)) ?_
                  refine sw_step rfl rfl rfl (OpR.q (q_move rfl rfl)) ?_
                  refine sw_step rfl rfl rfl (OpR.q (q_move rfl rfl)) ?_
                  refine sw_step rfl rfl rfl (OpR.q (q_move rfl rfl)) ?_
                  refine sw_step rfl rfl rfl (OpR.q (q_move rfl rfl)) ?_
                  refine sw_step rfl rfl rfl (OpR.q (q_sub rfl rfl rfl (by intro hc; first | omega | (simp only [List.length_set, List.length_append, List.length_cons, List.length_nil, List.length_replicate, List.length_take, List.length_drop, List.length_map]; omega) | (simp only [AllT.iff, List.all_cons, List.all_nil, id, Bool.and_eq_true, Bool.not_eq_true', decide_eq_true_eq, decide_eq_false_iff_not, and_true] at hc; first | omega | (simp only [List.length_set, List.length_append, List.length_cons, List.length_nil, List.length_replicate, List.length_take, List.length_drop, List.length_map]; omega)) | (exfalso; simp_all [AllT]; done)))) ?_
                  refine sw_step rfl rfl rfl (OpR.q (q_move rfl rfl)) ?_
                  refine sw_step rfl rfl rfl (q_call (CanCall.mk Try.call49) rfl (.cons rfl inferInstance (.cons rfl inferInstance (.cons rfl inferInstance (.nil)))) (fun _ w hw => callq hw (has_spec _ _ _ _ w (by first | exact stb_arg hw (by assumption) | exact stb_own hw (by first | assumption | (repeat first | exact .head _ | apply List.Mem.tail)))))) ?_
                  refine sw_step rfl rfl rfl (OpR.q (q_not rfl rfl)) ?_
                  refine sw_step rfl rfl rfl (OpR.q (q_and2 rfl rfl rfl)) ?_
                  refine sw_nil ?_
                  refine post_then ?_
                  -- STOP at: cond
                  refine cw_cond rfl (fun h12 => ?_) (fun h12 => ?_)
                  · skip
                    exfalso
                    simp only [Bool.and_eq_true, Bool.not_eq_true', decide_eq_true_eq, decide_eq_false_iff_not] at h12
                    have h13 := hfound j h11 (by omega) (by omega)
                    rw [show (((j * frameN m - lo : Nat)) : Int) = (j * frameN m : Nat) - (lo : Int) by omega] at h13
                    exact h12.2 h13
                  · skip
                    refine cw_skip ?_
                    refine post_blk ?_
                    refine post_then ?_
                    -- region 26
                    refine cw_region ?_
                    refine sw_step rfl rfl rfl (OpR.q (q_move rfl rfl)) ?_
                    refine sw_step rfl rfl rfl (OpR.q (q_move rfl rfl)) ?_
                    refine sw_step rfl rfl rfl (OpR.q (q_add rfl rfl rfl (by intro hc; first | omega | (simp only [List.length_set, List.length_append, List.length_cons, List.length_nil, List.length_replicate, List.length_take, List.length_drop, List.length_map]; omega) | (simp only [AllT.iff, List.all_cons, List.all_nil, id, Bool.and_eq_true, Bool.not_eq_true', decide_eq_true_eq, decide_eq_false_iff_not, and_true] at hc; first | omega | (simp only [List.length_set, List.length_append, List.length_cons, List.length_nil, List.length_replicate, List.length_take, List.length_drop, List.length_map]; omega)) | (exfalso; simp_all [AllT]; done)))) ?_
                    refine sw_step rfl rfl rfl (OpR.q (q_assign rfl rfl)) ?_
                    refine sw_nil ?_
                    exact post_next (j + 1) (Le.cons rfl (Le.cons rfl (Le.cons rfl (Le.cons rfl (Le.cons rfl (Le.cons rfl (Le.cons rfl (Le.cons' rfl (by rw [Nat.add_mul, Nat.one_mul]; rfl) Le.nil)))))))) (fun _ h => h) (by omega) (by omega)
                · skip
                  refine cw_exit ?_
                  refine post_then_x ?_
                  refine post_then_x ?_
                  refine post_blk_eq ?_
                  refine post_then ?_
                  refine cw_seq ?_
                  -- region 29
                  refine cw_region ?_
                  refine sw_step rfl rfl rfl (OpR.q (q_move rfl rfl)) ?_
                  refine sw_step rfl rfl rfl (OpR.q (q_eql rfl rfl rfl)) ?_
                  refine sw_step rfl rfl rfl (OpR.q (q_move rfl rfl)) ?_
                  refine sw_step rfl rfl rfl (q_call (CanCall.mk Try.call15) rfl (.nil) (fun _ w hw => callq hw (known_spec w))) ?_
                  refine sw_step rfl rfl rfl (OpR.q (q_and2 rfl rfl rfl)) ?_
                  refine sw_step rfl rfl rfl (OpR.q (q_assign rfl rfl)) ?_
                  refine sw_nil ?_
                  refine post_then ?_
                  refine cw_ret ?_
                  refine post_ret1 rfl (resOk_tmp rfl) ?_
                  exact fun w' hw => ⟨by simp, (fun w h => Cl.sel (by (repeat first | exact Sel.nil _ | refine Sel.take 0 rfl ?_ | refine Sel.take 1 rfl ?_ | refine Sel.take 2 rfl ?_ | refine Sel.take 3 rfl ?_ | refine Sel.take 4 rfl ?_ | refine Sel.take 5 rfl ?_ | refine Sel.take 6 rfl ?_ | refine Sel.take 7 rfl ?_ | refine Sel.take 8 rfl ?_ | refine Sel.take 9 rfl ?_ | refine Sel.take 10 rfl ?_ | refine Sel.take 11 rfl ?_)) w h) _ hw⟩
end Go.Proofs.Ytekikelejncgeaa
