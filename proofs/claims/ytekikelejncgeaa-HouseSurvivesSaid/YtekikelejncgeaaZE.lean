import Derived.Test.YtekikelejncgeaaZD
set_option autoImplicit false
set_option linter.unusedSimpArgs false
set_option linter.unusedVariables false
set_option maxRecDepth 100000
namespace Go.Proofs.Ytekikelejncgeaa
open Go.Sx
open Enc (enc val)

/-! ### HouseSigns -/
theorem stamp_nat {m : Stamp} (hm : rightS m = true) : ∃ (key bits margin : Int) (P : Nat), m = ⟨key, P, bits, margin⟩ := by
  have hb := rightS_bd hm
  obtain ⟨key, period, bits, margin⟩ := m
  dsimp only at hb
  obtain ⟨P, rfl⟩ := Int.eq_ofNat_of_zero_le (show 0 ≤ period by omega)
  exact ⟨key, bits, margin, P, rfl⟩
theorem refWave_spec (av : Value) (a : List Int) (w : World) (ha : Stb w [] (RdL av a)) : Calls Try.prog 44 #[av] w fun e w' => e = .returned (.int .i64 (waveE [a])) ∧ Cl w [] [] w' := by
  have hl := rd_len ha.here
  have e1 : waveE [a] = if 100000 < a.length then 4 else if okS a = true then 0 else 2 := by simp [waveE]
  refine calls_cw (vs := [_]) Try.func44 rfl Try.ntmps44 rfl (Cl.start0 w) ?_
  refine cw_seq ?_
  -- region 0
  refine cw_region ?_
  refine sw_step rfl rfl rfl (OpR.q (q_assign rfl rfl)) ?_
  refine sw_nil ?_
  refine post_then ?_
  refine cw_seq ?_
  refine cw_seq ?_
  -- region 1
  refine cw_region ?_
  refine sw_step rfl rfl rfl (OpR.q (q_move rfl rfl)) ?_
  refine sw_step rfl rfl rfl (OpR.q (q_len rfl (.cons rfl inferInstance (.nil)) (by exact fun w hw => Stb.cl (by assumption) hw))) ?_
  refine sw_step rfl rfl rfl (OpR.q (q_gtr rfl rfl rfl)) ?_
  refine sw_nil ?_
  refine post_then ?_
  -- STOP at: cond
  refine cw_cond rfl (fun h => ?_) (fun h => ?_)
  · skip
    have h1 : 100000 < a.length := by simp at h; omega
    refine cw_seq ?_
    -- region 2
    refine cw_region ?_
    refine sw_step rfl rfl rfl (OpR.q (q_assign rfl rfl)) ?_
    refine sw_nil ?_
    refine post_then ?_
    refine cw_ret ?_
    refine post_then_r ?_
    refine post_ret1 rfl (resOk_tmp rfl) ?_
    exact fun w' hw => ⟨by rw [e1, if_pos h1], hw⟩
  · skip
    have h1 : ¬ 100000 < a.length := by simp at h; omega
    refine cw_skip ?_
    refine post_then ?_
    refine cw_seq ?_
    refine cw_seq ?_
    -- region 3
    refine cw_region ?_
    refine sw_step rfl rfl rfl (OpR.q (q_move rfl rfl)) ?_
    refine sw_step rfl rfl rfl (q_call (CanCall.mk Try.call24) rfl (.cons rfl inferInstance (.nil)) (fun _ w hw => callq hw (samples_spec _ _ w (by exact stb_arg hw (by assumption))))) ?_
    refine sw_step rfl rfl rfl (OpR.q (q_not rfl rfl)) ?_
    refine sw_nil ?_
    refine post_then ?_
    -- STOP at: cond
    refine cw_cond rfl (fun h2 => ?_) (fun h2 => ?_)
    · skip
      have h3 : okS a = false := by simpa using h2
      refine cw_seq ?_
      -- region 4
      refine cw_region ?_
      refine sw_step rfl rfl rfl (OpR.q (q_assign rfl rfl)) ?_
      refine sw_nil ?_
      refine post_then ?_
      refine cw_ret ?_
      refine post_then_r ?_
      refine post_ret1 rfl (resOk_tmp rfl) ?_
      exact fun w' hw => ⟨by rw [e1, if_neg h1, h3]; rfl, hw⟩
    · skip
      have h3 : okS a = true := by simpa using h2
      refine cw_skip ?_
      refine post_then ?_
      refine cw_seq ?_
      -- region 5
      refine cw_region ?_
      refine sw_step rfl rfl rfl (OpR.q (q_assign rfl rfl)) ?_
      refine sw_nil ?_
      refine post_then ?_
      refine cw_ret ?_
      refine post_ret1 rfl (resOk_tmp rfl) ?_
      exact fun w' hw => ⟨by rw [e1, if_neg h1, h3]; rfl, hw⟩
def SignP (a : List Int) (m : Stamp) (msg : Int) (w : World) (e : Ending) (w' : World) : Prop := ∃ s : SlV, e = .returned (.tuple #[s.v, .int .i64 (if signE a m msg = 0 then (signL a m msg).2 else 0), .int .i64 (signE a m msg)]) ∧ True ∧ Cl w [] [ownL 3 s.v (if signE a m msg = 0 then (signL a m msg).1 else [])] w'
theorem sign_no {a : List Int} {m : Stamp} {msg x : Int} (h : signE a m msg = x) (hx : x ≠ 0) (w w' : World) (hw : Cl w [] [] w') : SignP a m msg w (.returned (.tuple #[.slice none 0 0, .int .i64 0, .int .i64 x])) w' :=
  ⟨⟨none, 0, 0⟩, by rw [h, if_neg hx]; rfl, trivial, by rw [h, if_neg hx]; exact Cl.addNil (α := Int) (H := []) 3 hw⟩
theorem houseSign_spec (sa : SlV) (a : List Int) (m : Stamp) (msg : Int) (w : World) (ha : Stb w [] (RdL sa.v a)) : Calls Try.prog 43 #[sa.v, val m, .int .i64 msg] w (SignP a m msg w) := by
  by_cases hw0 : waveE [a] = 0
  · cases hwo : wordOk m msg with
    | true =>
      have hm : rightS m = true := by simp [wordOk] at hwo; exact hwo.1
      have hg : okMsg m msg = true := by simp [wordOk] at hwo; exact hwo.2
      obtain ⟨key, bits, margin, P, rfl⟩ := stamp_nat hm
      exact sign_okspec key bits margin P hm sa a msg hg hw0 w ha
    | false =>
      have h1 : signE a m msg = 2 := by simp [signE, hw0, hwo]
      refine calls_cw (vs := [_, _, _]) Try.func43 rfl Try.ntmps43 rfl (Cl.start0 w) ?_
      cases hm : rightS m with
      | false =>
        refine cw_seq ?_
        -- region 0
        refine cw_region ?_
        refine sw_x rfl rfl rfl (e_box rfl rfl rfl) (fun b4 => ?_)
        refine sw_step rfl rfl rfl (OpR.q (q_assign rfl rfl)) ?_
        refine sw_step rfl rfl rfl (OpR.q (q_assign rfl rfl)) ?_
        refine sw_step rfl rfl rfl (OpR.q (q_assign rfl rfl)) ?_
        refine sw_nil ?_
        refine post_then ?_
        refine cw_seq ?_
        refine cw_seq ?_
        -- region 1
        refine cw_region ?_
        refine sw_step rfl rfl rfl (OpR.q (q_move rfl rfl)) ?_
        refine sw_x rfl rfl rfl (e_build1 (α := SlV) rfl rfl rfl rfl) (fun s19 => ?_)
        refine sw_step rfl rfl rfl (q_call (CanCall.mk Try.call62) rfl (.cons rfl inferInstance (.nil)) (fun _ w hw => callq hw (wave_spec _ [sa] [a] w (by exact stb_own hw (by exact .head _)) rfl (rows1 (stb_arg hw ha))))) ?_
        refine sw_step rfl rfl rfl (OpR.q (q_assign rfl rfl)) ?_
        refine sw_nil ?_
        refine post_then ?_
        refine cw_seq ?_
        -- region 2
        refine cw_region ?_
        refine sw_step rfl rfl rfl (OpR.q (q_move rfl rfl)) ?_
        refine sw_step rfl rfl rfl (OpR.q (q_neq rfl rfl rfl)) ?_
        refine sw_nil ?_
        refine post_then ?_
        -- STOP at: cond
        refine cw_cond rfl (fun h => ?_) (fun h => ?_)
        · skip
          rw [hw0] at h; simp at h
        · skip
          refine cw_skip ?_
          refine post_then ?_
          refine cw_seq ?_
          refine cw_seq ?_
          -- region 4
          refine cw_region ?_
          refine sw_step rfl rfl rfl (OpR.q (q_loadA rfl rfl (by exact .tail _ (.head _)) rfl)) ?_
          refine sw_step rfl rfl rfl (q_call (CanCall.mk Try.call68) rfl (.cons rfl inferInstance (.nil)) (fun _ w hw => callq hw (right_spec _ w))) ?_
          refine sw_step rfl rfl rfl (OpR.q (q_not rfl rfl)) ?_
          refine sw_step rfl rfl rfl (OpR.q (q_move rfl rfl)) ?_
          refine sw_step rfl rfl rfl (OpR.q (q_move rfl rfl)) ?_
          refine sw_step rfl rfl rfl (OpR.q (q_fieldAddr rfl rfl)) ?_
          refine sw_step rfl rfl rfl (OpR.q (q_loadC rfl rfl (by exact .tail _ (.head _)) rfl)) ?_
          refine sw_step rfl rfl rfl (OpR.q (q_shl rfl rfl rfl (by (dsimp only [IntKind.bits]; exact (by intro hc; (exfalso; simp_all [AllT]; done)))))) ?_
          refine sw_step rfl rfl rfl (OpR.q (q_sub rfl rfl rfl (by intro hc; (exfalso; simp_all [AllT]; done)))) ?_
          refine sw_step rfl rfl rfl (q_call (CanCall.mk Try.call52) rfl (.cons rfl inferInstance (.cons rfl inferInstance (.cons rfl inferInstance (.nil)))) (fun _ w hw => callq hw (within_spec _ _ _ w))) ?_
          refine sw_step rfl rfl rfl (OpR.q (q_not rfl rfl)) ?_
          refine sw_step rfl rfl rfl (OpR.q (q_or2 rfl rfl rfl)) ?_
          refine sw_nil ?_
          refine post_then ?_
          -- STOP at: cond
          refine cw_cond rfl (fun h2 => ?_) (fun h2 => ?_)
          · skip
            refine cw_seq ?_
            -- region 5
            refine cw_region ?_
            refine sw_step rfl rfl rfl (OpR.q (q_assign rfl rfl)) ?_
            refine sw_step rfl rfl rfl (OpR.q (q_assign rfl rfl)) ?_
            refine sw_step rfl rfl rfl (OpR.q (q_assign rfl rfl)) ?_
            refine sw_nil ?_
            refine post_then ?_
            refine cw_ret ?_
            refine post_then_r ?_
            refine post_ret3 rfl (resOk_tmp rfl) (resOk_tmp rfl) (resOk_tmp rfl) ?_
            exact fun w' hw => sign_no h1 (by decide) _ _ ((fun w h => Cl.sel (by exact .nil _) w h) _ hw)
          · skip
            rw [hm] at h2; simp at h2
      | true =>
        have hb := rightS_bd hm
        have hp := pow16 (n := m.bits.toNat) (by omega)
        have hp' := wrap_pow (b := m.bits) (by omega)
        have hg : okMsg m msg = false := by simpa [wordOk, hm] using hwo
        refine cw_seq ?_
        -- region 0
        refine cw_region ?_
        refine sw_x rfl rfl rfl (e_box rfl rfl rfl) (fun b4 => ?_)
        refine sw_step rfl rfl rfl (OpR.q (q_assign rfl rfl)) ?_
        refine sw_step rfl rfl rfl (OpR.q (q_assign rfl rfl)) ?_
        refine sw_step rfl rfl rfl (OpR.q (q_assign rfl rfl)) ?_
        refine sw_nil ?_
        refine post_then ?_
        refine cw_seq ?_
        refine cw_seq ?_
        -- region 1
        refine cw_region ?_
        refine sw_step rfl rfl rfl (OpR.q (q_move rfl rfl)) ?_
        refine sw_x rfl rfl rfl (e_build1 (α := SlV) rfl rfl rfl rfl) (fun s19 => ?_)
        refine sw_step rfl rfl rfl (q_call (CanCall.mk Try.call62) rfl (.cons rfl inferInstance (.nil)) (fun _ w hw => callq hw (wave_spec _ [sa] [a] w (by exact stb_own hw (by exact .head _)) rfl (rows1 (stb_arg hw ha))))) ?_
        refine sw_step rfl rfl rfl (OpR.q (q_assign rfl rfl)) ?_
        refine sw_nil ?_
        refine post_then ?_
        refine cw_seq ?_
        -- region 2
        refine cw_region ?_
        refine sw_step rfl rfl rfl (OpR.q (q_move rfl rfl)) ?_
        refine sw_step rfl rfl rfl (OpR.q (q_neq rfl rfl rfl)) ?_
        refine sw_nil ?_
        refine post_then ?_
        -- STOP at: cond
        refine cw_cond rfl (fun h => ?_) (fun h => ?_)
        · skip
          rw [hw0] at h; simp at h
        · skip
          refine cw_skip ?_
          refine post_then ?_
          refine cw_seq ?_
          refine cw_seq ?_
          -- region 4
          refine cw_region ?_
          refine sw_step rfl rfl rfl (OpR.q (q_loadA rfl rfl (by exact .tail _ (.head _)) rfl)) ?_
          refine sw_step rfl rfl rfl (q_call (CanCall.mk Try.call68) rfl (.cons rfl inferInstance (.nil)) (fun _ w hw => callq hw (right_spec _ w))) ?_
          refine sw_step rfl rfl rfl (OpR.q (q_not rfl rfl)) ?_
          refine sw_step rfl rfl rfl (OpR.q (q_move rfl rfl)) ?_
          refine sw_step rfl rfl rfl (OpR.q (q_move rfl rfl)) ?_
          refine sw_step rfl rfl rfl (OpR.q (q_fieldAddr rfl rfl)) ?_
          refine sw_step rfl rfl rfl (OpR.q (q_loadC rfl rfl (by exact .tail _ (.head _)) rfl)) ?_
          refine sw_step rfl rfl rfl (OpR.q (q_shl rfl rfl rfl (by (dsimp only [IntKind.bits]; exact (by intro hc; omega))))) ?_
          refine sw_step rfl rfl rfl (OpR.q (q_sub rfl rfl rfl (by intro hc; omega))) ?_
          refine sw_step rfl rfl rfl (q_call (CanCall.mk Try.call52) rfl (.cons rfl inferInstance (.cons rfl inferInstance (.cons rfl inferInstance (.nil)))) (fun _ w hw => callq hw (within_spec _ _ _ w))) ?_
          refine sw_step rfl rfl rfl (OpR.q (q_not rfl rfl)) ?_
          refine sw_step rfl rfl rfl (OpR.q (q_or2 rfl rfl rfl)) ?_
          refine sw_nil ?_
          refine post_then ?_
          -- STOP at: cond
          refine cw_cond rfl (fun h2 => ?_) (fun h2 => ?_)
          · skip
            refine cw_seq ?_
            -- region 5
            refine cw_region ?_
            refine sw_step rfl rfl rfl (OpR.q (q_assign rfl rfl)) ?_
            refine sw_step rfl rfl rfl (OpR.q (q_assign rfl rfl)) ?_
            refine sw_step rfl rfl rfl (OpR.q (q_assign rfl rfl)) ?_
            refine sw_nil ?_
            refine post_then ?_
            refine cw_ret ?_
            refine post_then_r ?_
            refine post_ret3 rfl (resOk_tmp rfl) (resOk_tmp rfl) (resOk_tmp rfl) ?_
            exact fun w' hw => sign_no h1 (by decide) _ _ ((fun w h => Cl.sel (by exact .nil _) w h) _ hw)
          · skip
            rw [hm, inB_msg hm, hg] at h2; simp at h2
  · have h1 : signE a m msg = waveE [a] := by simp [signE, hw0]
    refine calls_cw (vs := [_, _, _]) Try.func43 rfl Try.ntmps43 rfl (Cl.start0 w) ?_
    refine cw_seq ?_
    -- region 0
    refine cw_region ?_
    refine sw_x rfl rfl rfl (e_box rfl rfl rfl) (fun b4 => ?_)
    refine sw_step rfl rfl rfl (OpR.q (q_assign rfl rfl)) ?_
    refine sw_step rfl rfl rfl (OpR.q (q_assign rfl rfl)) ?_
    refine sw_step rfl rfl rfl (OpR.q (q_assign rfl rfl)) ?_
    refine sw_nil ?_
    refine post_then ?_
    refine cw_seq ?_
    refine cw_seq ?_
    -- region 1
    refine cw_region ?_
    refine sw_step rfl rfl rfl (OpR.q (q_move rfl rfl)) ?_
    refine sw_x rfl rfl rfl (e_build1 (α := SlV) rfl rfl rfl rfl) (fun s19 => ?_)
    refine sw_step rfl rfl rfl (q_call (CanCall.mk Try.call62) rfl (.cons rfl inferInstance (.nil)) (fun _ w hw => callq hw (wave_spec _ [sa] [a] w (by exact stb_own hw (by exact .head _)) rfl (rows1 (stb_arg hw ha))))) ?_
    refine sw_step rfl rfl rfl (OpR.q (q_assign rfl rfl)) ?_
    refine sw_nil ?_
    refine post_then ?_
    refine cw_seq ?_
    -- region 2
    refine cw_region ?_
    refine sw_step rfl rfl rfl (OpR.q (q_move rfl rfl)) ?_
    refine sw_step rfl rfl rfl (OpR.q (q_neq rfl rfl rfl)) ?_
    refine sw_nil ?_
    refine post_then ?_
    -- STOP at: cond
    refine cw_cond rfl (fun h => ?_) (fun h => ?_)
    · skip
      refine cw_seq ?_
      -- region 3
      refine cw_region ?_
      refine sw_step rfl rfl rfl (OpR.q (q_move rfl rfl)) ?_
      refine sw_step rfl rfl rfl (OpR.q (q_assign rfl rfl)) ?_
      refine sw_step rfl rfl rfl (OpR.q (q_assign rfl rfl)) ?_
      refine sw_step rfl rfl rfl (OpR.q (q_assign rfl rfl)) ?_
      refine sw_nil ?_
      refine post_then ?_
      refine cw_ret ?_
      refine post_then_r ?_
      refine post_ret3 rfl (resOk_tmp rfl) (resOk_tmp rfl) (resOk_tmp rfl) ?_
      exact fun w' hw => sign_no h1 hw0 _ _ ((fun w h => Cl.sel (by exact .nil _) w h) _ hw)
    · skip
      simp [hw0] at h

theorem signs_len {a : List Int} {m : Stamp} {msg : Int} (hw0 : waveE [a] = 0) (hm : rightS m = true) : (signL a m msg).1.length = a.length :=
  (frames_good (wave1_ok hw0).1 hm (word := wordL m msg) _ (Nat.le_refl _)).len
theorem lawSigns (sa : SlV) (a : List Int) (m : Stamp) (msg : Int) (w : World) (ha : Stb w [] (RdL sa.v a)) :
    Calls Try.prog 11 #[sa.v, val m, .int .i64 msg] w fun e w' => e = .returned (.bool true) ∧ Cl w [] [] w' := by
  refine calls_cw (vs := [_, _, _]) Try.func11 rfl Try.ntmps11 rfl (Cl.start0 w) ?_
  refine cw_seq ?_
  -- region 0
  refine cw_region ?_
  refine sw_x rfl rfl rfl (e_box rfl rfl rfl) (fun b4 => ?_)
  refine sw_step rfl rfl rfl (OpR.q (q_assign rfl rfl)) ?_
  refine sw_nil ?_
  refine post_then ?_
  refine cw_seq ?_
  refine cw_seq ?_
  -- region 1
  refine cw_region ?_
  refine sw_step rfl rfl rfl (OpR.q (q_move rfl rfl)) ?_
  refine sw_step rfl rfl rfl (q_call (CanCall.mk Try.call22) rfl (.cons rfl inferInstance (.nil)) (fun _ w hw => callq hw (short_spec _ _ w (by exact stb_arg hw (by assumption))))) ?_
  refine sw_step rfl rfl rfl (OpR.q (q_not rfl rfl)) ?_
  refine sw_nil ?_
  refine post_then ?_
  -- STOP at: cond
  refine cw_cond rfl (fun h => ?_) (fun h => ?_)
  · skip
    refine cw_seq ?_
    -- region 2
    refine cw_region ?_
    refine sw_step rfl rfl rfl (q_call (CanCall.mk Try.call15) rfl (.nil) (fun _ w hw => callq hw (known_spec w))) ?_
    refine sw_step rfl rfl rfl (OpR.q (q_assign rfl rfl)) ?_
    refine sw_nil ?_
    refine post_then ?_
    refine cw_ret ?_
    refine post_then_r ?_
    refine post_ret1 rfl (resOk_tmp rfl) ?_
    exact fun w' hw => ⟨rfl, (fun w h => Cl.sel (by exact .nil _) w h) _ hw⟩
  · skip
    refine cw_skip ?_
    refine post_then ?_
    refine cw_seq ?_
    -- region 3
    refine cw_region ?_
    refine sw_step rfl rfl rfl (OpR.q (q_move rfl rfl)) ?_
    refine sw_step rfl rfl rfl (OpR.q (q_loadA rfl rfl (by exact .head _) rfl)) ?_
    refine sw_step rfl rfl rfl (OpR.q (q_move rfl rfl)) ?_
    -- STOP at: t22  := call {callee=(value F43), args=[t19, t20, t21], argTypes=[37, 55, 3]} :71
    refine sw_x rfl rfl rfl (e_call (CanCall.mk Try.call43) rfl (.cons rfl inferInstance (.cons rfl inferInstance (.cons rfl inferInstance (.nil)))) (fun w hw => houseSign_spec sa a m msg w (stb_arg hw ha))) (fun s22 => ?_)
    refine sw_imp fun _ => ?_
    refine sw_step rfl rfl rfl (OpR.q (q_move rfl rfl)) ?_
    refine sw_step rfl rfl rfl (OpR.q (q_extract rfl rfl rfl)) ?_
    refine sw_step rfl rfl rfl (OpR.q (q_extract rfl rfl rfl)) ?_
    refine sw_step rfl rfl rfl (OpR.q (q_extract rfl rfl rfl)) ?_
    refine sw_step rfl rfl rfl (OpR.q (q_assign rfl rfl)) ?_
    refine sw_step rfl rfl rfl (OpR.q (q_assign rfl rfl)) ?_
    refine sw_step rfl rfl rfl (OpR.q (q_assign rfl rfl)) ?_
    refine sw_nil ?_
    refine post_then ?_
    refine cw_seq ?_
    -- region 4
    refine cw_region ?_
    refine sw_step rfl rfl rfl (OpR.q (q_move rfl rfl)) ?_
    refine sw_step rfl rfl rfl (q_call (CanCall.mk Try.call44) rfl (.cons rfl inferInstance (.nil)) (fun _ w hw => callq hw (refWave_spec _ _ w (by exact stb_arg hw (by assumption))))) ?_
    refine sw_step rfl rfl rfl (OpR.q (q_assign rfl rfl)) ?_
    refine sw_nil ?_
    refine post_then ?_
    refine cw_seq ?_
    refine cw_seq ?_
    -- region 5
    refine cw_region ?_
    refine sw_step rfl rfl rfl (OpR.q (q_move rfl rfl)) ?_
    refine sw_step rfl rfl rfl (OpR.q (q_eql rfl rfl rfl)) ?_
    refine sw_step rfl rfl rfl (OpR.q (q_move rfl rfl)) ?_
    refine sw_step rfl rfl rfl (OpR.q (q_loadA rfl rfl (by exact .tail _ (.head _)) rfl)) ?_
    refine sw_step rfl rfl rfl (q_call (CanCall.mk Try.call36) rfl (.cons rfl inferInstance (.nil)) (fun _ w hw => callq hw (refStamp_spec _ w))) ?_
    refine sw_step rfl rfl rfl (OpR.q (q_not rfl rfl)) ?_
    refine sw_step rfl rfl rfl (OpR.q (q_move rfl rfl)) ?_
    refine sw_step rfl rfl rfl (OpR.q (q_loadA rfl rfl (by exact .tail _ (.head _)) rfl)) ?_
    refine sw_step rfl rfl rfl (OpR.q (q_move rfl rfl)) ?_
    refine sw_step rfl rfl rfl (q_call (CanCall.mk Try.call37) rfl (.cons rfl inferInstance (.cons rfl inferInstance (.nil))) (fun _ w hw => callq hw (refMessage_spec _ _ (by first | assumption | simp_all [AllT]) w))) ?_
    refine sw_step rfl rfl rfl (OpR.q (q_not rfl rfl)) ?_
    refine sw_step rfl rfl rfl (OpR.q (q_or2 rfl rfl rfl)) ?_
    refine sw_step rfl rfl rfl (OpR.q (q_and2 rfl rfl rfl)) ?_
    refine sw_nil ?_
    refine post_then ?_
    -- STOP at: cond
    refine cw_cut (S := Unit) (fun _ => [(0, [], sa.v), (2, [], .int .i64 msg), (4, [], .pointer (some ⟨b4, 0, none⟩)), (7, [], s22.v), (8, [], .int .i64 (if signE a m msg = 0 then (signL a m msg).2 else 0)), (9, [], .int .i64 (signE a m msg)), (10, [], .int .i64 (if waveE [a] = 0 then (if wordOk m msg = true then 0 else 2) else waveE [a]))])
      (fun _ => Cl w [] [ownL 3 s22.v (if signE a m msg = 0 then (signL a m msg).1 else []), blk b4 (enc m) 55]) (fun _ => True) ?_ ?_
    · refine cw_cond rfl (fun h2 => ?_) (fun h2 => ?_)
      · skip
        have h3 : waveE [a] = 0 ∧ wordOk m msg = false := by
          simp only [Bool.and_eq_true, Bool.or_eq_true, Bool.not_eq_true', decide_eq_true_eq] at h2
          refine ⟨h2.1, ?_⟩
          rcases h2.2 with h4 | h4 <;> simp [wordOk, h4]
        -- region 6
        refine cw_region ?_
        refine sw_step rfl rfl rfl (OpR.q (q_assign rfl rfl)) ?_
        refine sw_nil ?_
        exact post_meet () (by rw [if_pos h3.1, h3.2]; exact (by exact .cons rfl (.cons rfl (.cons rfl (.cons rfl (.cons rfl (.cons rfl (.cons rfl .nil)))))))) (fun w h => Cl.sel (by exact .take 0 rfl (.take 0 rfl (.nil _))) w h) trivial
      · skip
        have h3 : (if waveE [a] = 0 then (if wordOk m msg = true then 0 else 2) else waveE [a]) = waveE [a] := by
          by_cases hw0 : waveE [a] = 0
          · simp only [hw0] at h2 ⊢
            simp at h2
            simp [wordOk, h2.1, h2.2]
          · rw [if_neg hw0]
        refine cw_skip ?_
        exact post_meet () (by rw [h3]; exact (by exact .cons rfl (.cons rfl (.cons rfl (.cons rfl (.cons rfl (.cons rfl (.cons rfl .nil)))))))) (fun w h => Cl.sel (by exact .take 0 rfl (.take 0 rfl (.nil _))) w h) trivial
    · intro u _
      by_cases hw0 : waveE [a] = 0
      · cases hwo : wordOk m msg with
        | true =>
          have hm : rightS m = true := by simp [wordOk] at hwo; exact hwo.1
          have hg : okMsg m msg = true := by simp [wordOk] at hwo; exact hwo.2
          obtain ⟨hok, hlen⟩ := wave1_ok hw0
          rw [hw0]
          refine post_then ?_
          refine cw_seq ?_
          refine cw_seq ?_
          -- region 7
          refine cw_region ?_
          refine sw_step rfl rfl rfl (OpR.q (q_move rfl rfl)) ?_
          refine sw_step rfl rfl rfl (OpR.q (q_neq rfl rfl rfl)) ?_
          refine sw_nil ?_
          refine post_then ?_
          -- STOP at: cond
          refine cw_cond rfl (fun h2 => ?_) (fun h2 => ?_)
          · skip
            simp at h2
          · skip
            refine cw_skip ?_
            refine post_then ?_
            refine cw_seq ?_
            -- region 9
            refine cw_region ?_
            refine sw_step rfl rfl rfl (OpR.q (q_move rfl rfl)) ?_
            refine sw_step rfl rfl rfl (OpR.q (q_loadA rfl rfl (by exact .tail _ (.head _)) rfl)) ?_
            refine sw_step rfl rfl rfl (OpR.q (q_move rfl rfl)) ?_
            -- STOP at: t62  := call {callee=(value F45), args=[t59, t60, t61], argTypes=[37, 55, 3]} :73
            obtain ⟨key, bits, margin, P, rfl⟩ := stamp_nat hm
            refine sw_x rfl rfl rfl (e_call (CanCall.mk Try.call45) rfl (.cons rfl inferInstance (.cons rfl inferInstance (.cons rfl inferInstance (.nil)))) (fun w hw => refSign_spec key bits margin P hm sa a msg hg hok hlen w (stb_arg hw ha))) (fun s62 => ?_)
            refine sw_imp fun _ => ?_
            refine sw_step rfl rfl rfl (OpR.q (q_move rfl rfl)) ?_
            refine sw_step rfl rfl rfl (OpR.q (q_extract rfl rfl rfl)) ?_
            refine sw_step rfl rfl rfl (OpR.q (q_extract rfl rfl rfl)) ?_
            refine sw_step rfl rfl rfl (OpR.q (q_extract rfl rfl rfl)) ?_
            refine sw_step rfl rfl rfl (OpR.q (q_assign rfl rfl)) ?_
            refine sw_step rfl rfl rfl (OpR.q (q_assign rfl rfl)) ?_
            refine sw_step rfl rfl rfl (OpR.q (q_assign rfl rfl)) ?_
            refine sw_nil ?_
            refine post_then ?_
            refine cw_seq ?_
            refine cw_seq ?_
            -- region 10
            refine cw_region ?_
            refine sw_step rfl rfl rfl (OpR.q (q_move rfl rfl)) ?_
            refine sw_step rfl rfl rfl (OpR.q (q_not rfl rfl)) ?_
            refine sw_nil ?_
            refine post_then ?_
            -- STOP at: cond
            refine cw_cond rfl (fun h4 => ?_) (fun h4 => ?_)
            · skip
              have hs : okS (signL a ⟨key, P, bits, margin⟩ msg).1 = false := by simpa using h4
              have h3 : signE a ⟨key, P, bits, margin⟩ msg = 5 := by simp [signE, hw0, hwo, hs]
              rw [h3]
              refine cw_c (C' := Cl w [] [ownL 3 s22.v ([] : List Int)]) (fun w h => Cl.sel (by exact .take 1 rfl (.nil _)) w h) ?_
              refine cw_seq ?_
              -- region 11
              refine cw_region ?_
              refine sw_step rfl rfl rfl (OpR.q (q_move rfl rfl)) ?_
              refine sw_step rfl rfl rfl (OpR.q (q_eql rfl rfl rfl)) ?_
              refine sw_step rfl rfl rfl (OpR.q (q_move rfl rfl)) ?_
              refine sw_step rfl rfl rfl (OpR.q (q_move rfl rfl)) ?_
              refine sw_step rfl rfl rfl (OpR.q (q_len rfl (.cons rfl inferInstance (.nil)) (by exact fun w hw => rd_own hw (by exact .head _)))) ?_
              refine sw_step rfl rfl rfl (OpR.q (q_eql rfl rfl rfl)) ?_
              refine sw_step rfl rfl rfl (OpR.q (q_and2 rfl rfl rfl)) ?_
              refine sw_step rfl rfl rfl (OpR.q (q_move rfl rfl)) ?_
              refine sw_step rfl rfl rfl (OpR.q (q_move rfl rfl)) ?_
              refine sw_step rfl rfl rfl (OpR.q (q_eql rfl rfl rfl)) ?_
              refine sw_step rfl rfl rfl (OpR.q (q_and2 rfl rfl rfl)) ?_
              refine sw_step rfl rfl rfl (OpR.q (q_move rfl rfl)) ?_
              refine sw_step rfl rfl rfl (q_call (CanCall.mk Try.call15) rfl (.nil) (fun _ w hw => callq hw (known_spec w))) ?_
              refine sw_step rfl rfl rfl (OpR.q (q_and2 rfl rfl rfl)) ?_
              refine sw_step rfl rfl rfl (OpR.q (q_assign rfl rfl)) ?_
              refine sw_nil ?_
              refine post_then ?_
              refine cw_ret ?_
              refine post_then_r ?_
              refine post_ret1 rfl (resOk_tmp rfl) ?_
              exact fun w' hw => ⟨rfl, (fun w h => Cl.sel (by exact .nil _) w h) _ hw⟩
            · skip
              have hs : okS (signL a ⟨key, P, bits, margin⟩ msg).1 = true := by simpa using h4
              have h3 : signE a ⟨key, P, bits, margin⟩ msg = 0 := by simp [signE, hw0, hwo, hs]
              rw [h3]
              refine cw_c (C' := Cl w [] [ownL 3 s22.v (signL a ⟨key, P, bits, margin⟩ msg).1, ownL 3 s62.v (signL a ⟨key, P, bits, margin⟩ msg).1]) (fun w h => Cl.sel (by exact .take 1 rfl (.take 0 rfl (.nil _))) w h) ?_
              refine cw_skip ?_
              refine post_then ?_
              refine cw_seq ?_
              -- region 12
              refine cw_region ?_
              refine sw_step rfl rfl rfl (OpR.q (q_move rfl rfl)) ?_
              refine sw_step rfl rfl rfl (OpR.q (q_eql rfl rfl rfl)) ?_
              refine sw_step rfl rfl rfl (OpR.q (q_move rfl rfl)) ?_
              refine sw_step rfl rfl rfl (OpR.q (q_move rfl rfl)) ?_
              refine sw_step rfl rfl rfl (OpR.q (q_move rfl rfl)) ?_
              refine sw_step rfl rfl rfl (q_call (CanCall.mk Try.call26) rfl (.cons rfl inferInstance (.cons rfl inferInstance (.nil))) (fun _ w hw => callq hw (sameInts_spec _ _ _ _ w (by exact stb_own hw (by exact .head _)) (by exact stb_own hw (by exact .tail _ (.head _)))))) ?_
              refine sw_step rfl rfl rfl (OpR.q (q_and2 rfl rfl rfl)) ?_
              refine sw_step rfl rfl rfl (OpR.q (q_move rfl rfl)) ?_
              refine sw_step rfl rfl rfl (OpR.q (q_move rfl rfl)) ?_
              refine sw_step rfl rfl rfl (OpR.q (q_move rfl rfl)) ?_
              refine sw_step rfl rfl rfl (OpR.q (q_eql rfl rfl rfl)) ?_
              refine sw_step rfl rfl rfl (OpR.q (q_and2 rfl rfl rfl)) ?_
              refine sw_step rfl rfl rfl (OpR.q (q_move rfl rfl)) ?_
              refine sw_step rfl rfl rfl (q_call (CanCall.mk Try.call15) rfl (.nil) (fun _ w hw => callq hw (known_spec w))) ?_
              refine sw_step rfl rfl rfl (OpR.q (q_and2 rfl rfl rfl)) ?_
              refine sw_step rfl rfl rfl (OpR.q (q_assign rfl rfl)) ?_
              refine sw_nil ?_
              refine post_then ?_
              refine cw_ret ?_
              refine post_ret1 rfl (resOk_tmp rfl) ?_
              exact fun w' hw => ⟨by simp, (fun w h => Cl.sel (by exact .nil _) w h) _ hw⟩
        | false =>
          have h1 : signE a m msg = 2 := by simp [signE, hw0, hwo]
          rw [hw0, h1]
          refine post_then ?_
          refine cw_seq ?_
          refine cw_seq ?_
          -- region 7
          refine cw_region ?_
          refine sw_step rfl rfl rfl (OpR.q (q_move rfl rfl)) ?_
          refine sw_step rfl rfl rfl (OpR.q (q_neq rfl rfl rfl)) ?_
          refine sw_nil ?_
          refine post_then ?_
          -- STOP at: cond
          refine cw_cond rfl (fun h2 => ?_) (fun h2 => ?_)
          · skip
            refine cw_c (C' := Cl w [] [ownL 3 s22.v ([] : List Int)]) (fun w h => Cl.sel (by exact .take 0 rfl (.nil _)) w h) ?_
            refine cw_seq ?_
            -- region 8
            refine cw_region ?_
            refine sw_step rfl rfl rfl (OpR.q (q_move rfl rfl)) ?_
            refine sw_step rfl rfl rfl (OpR.q (q_move rfl rfl)) ?_
            refine sw_step rfl rfl rfl (OpR.q (q_eql rfl rfl rfl)) ?_
            refine sw_step rfl rfl rfl (OpR.q (q_move rfl rfl)) ?_
            refine sw_step rfl rfl rfl (OpR.q (q_move rfl rfl)) ?_
            refine sw_step rfl rfl rfl (OpR.q (q_len rfl (.cons rfl inferInstance (.nil)) (by exact fun w hw => rd_own hw (by exact .head _)))) ?_
            refine sw_step rfl rfl rfl (OpR.q (q_eql rfl rfl rfl)) ?_
            refine sw_step rfl rfl rfl (OpR.q (q_and2 rfl rfl rfl)) ?_
            refine sw_step rfl rfl rfl (OpR.q (q_move rfl rfl)) ?_
            refine sw_step rfl rfl rfl (OpR.q (q_move rfl rfl)) ?_
            refine sw_step rfl rfl rfl (OpR.q (q_eql rfl rfl rfl)) ?_
            refine sw_step rfl rfl rfl (OpR.q (q_and2 rfl rfl rfl)) ?_
            refine sw_step rfl rfl rfl (OpR.q (q_move rfl rfl)) ?_
            refine sw_step rfl rfl rfl (q_call (CanCall.mk Try.call15) rfl (.nil) (fun _ w hw => callq hw (known_spec w))) ?_
            refine sw_step rfl rfl rfl (OpR.q (q_and2 rfl rfl rfl)) ?_
            refine sw_step rfl rfl rfl (OpR.q (q_assign rfl rfl)) ?_
            refine sw_nil ?_
            refine post_then ?_
            refine cw_ret ?_
            refine post_then_r ?_
            refine post_ret1 rfl (resOk_tmp rfl) ?_
            exact fun w' hw => ⟨by simp, (fun w h => Cl.sel (by exact .nil _) w h) _ hw⟩
          · skip
            simp at h2
      · have h1 : signE a m msg = waveE [a] := by simp [signE, hw0]
        rw [if_neg hw0, h1]
        refine post_then ?_
        refine cw_seq ?_
        refine cw_seq ?_
        -- region 7
        refine cw_region ?_
        refine sw_step rfl rfl rfl (OpR.q (q_move rfl rfl)) ?_
        refine sw_step rfl rfl rfl (OpR.q (q_neq rfl rfl rfl)) ?_
        refine sw_nil ?_
        refine post_then ?_
        -- STOP at: cond
        refine cw_cond rfl (fun h2 => ?_) (fun h2 => ?_)
        · skip
          refine cw_c (C' := Cl w [] [ownL 3 s22.v ([] : List Int)]) (fun w h => by rw [if_neg hw0] at h; exact (fun w h => Cl.sel (by exact .take 0 rfl (.nil _)) w h) _ h) ?_
          refine cw_seq ?_
          -- region 8
          refine cw_region ?_
          refine sw_step rfl rfl rfl (OpR.q (q_move rfl rfl)) ?_
          refine sw_step rfl rfl rfl (OpR.q (q_move rfl rfl)) ?_
          refine sw_step rfl rfl rfl (OpR.q (q_eql rfl rfl rfl)) ?_
          refine sw_step rfl rfl rfl (OpR.q (q_move rfl rfl)) ?_
          refine sw_step rfl rfl rfl (OpR.q (q_move rfl rfl)) ?_
          refine sw_step rfl rfl rfl (OpR.q (q_len rfl (.cons rfl inferInstance (.nil)) (by exact fun w hw => rd_own hw (by exact .head _)))) ?_
          refine sw_step rfl rfl rfl (OpR.q (q_eql rfl rfl rfl)) ?_
          refine sw_step rfl rfl rfl (OpR.q (q_and2 rfl rfl rfl)) ?_
          refine sw_step rfl rfl rfl (OpR.q (q_move rfl rfl)) ?_
          refine sw_step rfl rfl rfl (OpR.q (q_move rfl rfl)) ?_
          refine sw_step rfl rfl rfl (OpR.q (q_eql rfl rfl rfl)) ?_
          refine sw_step rfl rfl rfl (OpR.q (q_and2 rfl rfl rfl)) ?_
          refine sw_step rfl rfl rfl (OpR.q (q_move rfl rfl)) ?_
          refine sw_step rfl rfl rfl (q_call (CanCall.mk Try.call15) rfl (.nil) (fun _ w hw => callq hw (known_spec w))) ?_
          refine sw_step rfl rfl rfl (OpR.q (q_and2 rfl rfl rfl)) ?_
          refine sw_step rfl rfl rfl (OpR.q (q_assign rfl rfl)) ?_
          refine sw_nil ?_
          refine post_then ?_
          refine cw_ret ?_
          refine post_then_r ?_
          refine post_ret1 rfl (resOk_tmp rfl) ?_
          exact fun w' hw => ⟨by simp [hw0], (fun w h => Cl.sel (by exact .nil _) w h) _ hw⟩
        · skip
          simp [hw0] at h2
end Go.Proofs.Ytekikelejncgeaa
