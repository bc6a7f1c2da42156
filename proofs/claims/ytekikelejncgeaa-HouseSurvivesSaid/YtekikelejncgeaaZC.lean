import Derived.Test.YtekikelejncgeaaZB
set_option autoImplicit false
set_option linter.unusedSimpArgs false
set_option linter.unusedVariables false
set_option maxRecDepth 100000
namespace Go.Proofs.Ytekikelejncgeaa
open Go.Sx
open Enc (enc val)

/-! ### house.Sign -/
def signE (a : List Int) (m : Stamp) (msg : Int) : Int := if waveE [a] ≠ 0 then waveE [a] else if wordOk m msg = true then (if okS (signL a m msg).1 = true then 0 else 5) else 2
theorem wave1_ok {a : List Int} (h : waveE [a] = 0) : okS a = true ∧ a.length ≤ 100000 := by
  unfold waveE at h
  simp only [List.any_cons, List.any_nil, List.all_cons, List.all_nil, Bool.or_false, Bool.and_true, decide_eq_true_eq] at h
  split at h
  · omega
  · split at h
    · rename_i h1 h2; exact ⟨h2, by omega⟩
    · omega
theorem rows1 {P : Nat → Prop} (h0 : P 0) : ∀ i, i < 1 → P i := fun i hi => by
  obtain rfl : i = 0 := by omega
  exact h0
theorem msg_false {m : Stamp} {msg : Int} (h : rightS m = true → okMsg m msg = false) : wordOk m msg = false := by
  cases hm : rightS m <;> simp [wordOk, hm]
  exact h hm
theorem frame_lt {m : Stamp} (hm : rightS m = true) (L j : Nat) : j * frameN m + frameN m ≤ L ↔ j < L / frameN m := by
  have h1 := frameN_bd hm
  rw [Nat.lt_iff_add_one_le, Nat.le_div_iff_mul_le (by omega), Nat.add_mul, Nat.one_mul]
theorem wordL_len {m : Stamp} {msg : Int} : (wordL m msg).length = m.bits.toNat + 16 := by simp [wordL, msgL_len, tailL_len]
theorem any_out (l : List Int) : (l.any fun x => !inB x (-32768) 32767) = !okS l := any_not l _
theorem psg_succ (word : List Bool) (i : Nat) : psg word (i + 1) = if nth word i = true then 1 else -1 := by simp [psg, sgn]
theorem periods1 (m : Stamp) (word : List Bool) (f : Nat) (y : List Int × Int) : periods m word f 1 y = stepP m.margin m.period.toNat (cF m) f 1 y := by simp [periods, pc, psg]

theorem sign_okspec (key bits margin : Int) (P : Nat) (hm : rightS ⟨key, P, bits, margin⟩ = true) (sa : SlV) (a : List Int) (msg : Int) (hmsg : okMsg ⟨key, P, bits, margin⟩ msg = true) (hw0 : waveE [a] = 0) (w : World) (ha : Stb w [] (RdL sa.v a)) :
    Calls Try.prog 43 #[sa.v, val (⟨key, P, bits, margin⟩ : Stamp), .int .i64 msg] w fun e w' => ∃ s : SlV, e = .returned (.tuple #[s.v, .int .i64 (if signE a ⟨key, P, bits, margin⟩ msg = 0 then (signL a ⟨key, P, bits, margin⟩ msg).2 else 0), .int .i64 (signE a ⟨key, P, bits, margin⟩ msg)]) ∧ True ∧ Cl w [] [ownL 3 s.v (if signE a ⟨key, P, bits, margin⟩ msg = 0 then (signL a ⟨key, P, bits, margin⟩ msg).1 else [])] w' := by
  have hb := rightS_bd hm
  have hp := pow16 (n := bits.toNat) (by simp only at hb; omega)
  have hp' := wrap_pow (b := bits) (by simp only at hb; omega)
  have hgb := okMsg_bd hm hmsg
  have hbd := frameN_bd hm
  obtain ⟨hok, hlen⟩ := wave1_ok hw0
  generalize hms : (⟨key, P, bits, margin⟩ : Stamp) = m at hm hmsg hbd
  have hPm : m.period.toNat = P := by subst hms; rfl
  have hse : signE a m msg = if okS (signL a m msg).1 = true then 0 else 5 := by simp [signE, hw0, wordOk, hm, hmsg]
  subst hms
  dsimp only at hb
  refine calls_cw (vs := [_, _, _]) Try.func43 rfl Try.ntmps43 rfl (Cl.start0 w) ?_
  refine cw_seq ?_
  -- region 0
  refine cw_region ?_
  refine sw_x rfl rfl rfl (e_box rfl rfl rfl) (fun b4 => ?_)
  refine sw_step rfl rfl rfl (OpR.q (q_assign rfl rfl)) ?_
  refine sw_step rfl rfl rfl (OpR.q (q_assign rfl rfl)) ?_
  refine sw_step rfl rfl rfl (OpR.q (q_assign rfl rfl)) ?_
  refine sw_nil ?_
  refine post_then ?_
  refine cw_seq ?_
  refine cw_seq ?_
  -- region 1
  refine cw_region ?_
  refine sw_step rfl rfl rfl (OpR.q (q_move rfl rfl)) ?_
  refine sw_x rfl rfl rfl (e_build1 (α := SlV) rfl rfl rfl rfl) (fun s19 => ?_)
  refine sw_step rfl rfl rfl (q_call (CanCall.mk Try.call62) rfl (.cons rfl inferInstance (.nil)) (fun _ w hw => callq hw (wave_spec _ [sa] [a] w (by exact stb_own hw (by exact .head _)) rfl (rows1 (stb_arg hw ha))))) ?_
  refine sw_step rfl rfl rfl (OpR.q (q_assign rfl rfl)) ?_
  refine sw_nil ?_
  refine post_then ?_
  refine cw_seq ?_
  -- region 2
  refine cw_region ?_
  refine sw_step rfl rfl rfl (OpR.q (q_move rfl rfl)) ?_
  refine sw_step rfl rfl rfl (OpR.q (q_neq rfl rfl rfl)) ?_
  refine sw_nil ?_
  refine post_then ?_
  -- STOP at: cond
  refine cw_cond rfl (fun h => ?_) (fun h => ?_)
  · skip
    rw [hw0] at h; simp at h
  · skip
    refine cw_skip ?_
    refine post_then ?_
    refine cw_seq ?_
    refine cw_seq ?_
    -- region 4
    refine cw_region ?_
    refine sw_step rfl rfl rfl (OpR.q (q_loadA rfl rfl (by exact .tail _ (.head _)) rfl)) ?_
    refine sw_step rfl rfl rfl (q_call (CanCall.mk Try.call68) rfl (.cons rfl inferInstance (.nil)) (fun _ w hw => callq hw (right_spec _ w))) ?_
    refine sw_step rfl rfl rfl (OpR.q (q_not rfl rfl)) ?_
    refine sw_step rfl rfl rfl (OpR.q (q_move rfl rfl)) ?_
    refine sw_step rfl rfl rfl (OpR.q (q_move rfl rfl)) ?_
    refine sw_step rfl rfl rfl (OpR.q (q_fieldAddr rfl rfl)) ?_
    refine sw_step rfl rfl rfl (OpR.q (q_loadC rfl rfl (by exact .tail _ (.head _)) rfl)) ?_
    refine sw_step rfl rfl rfl (OpR.q (q_shl rfl rfl rfl (by (dsimp only [IntKind.bits]; exact (by intro hc; omega))))) ?_
    refine sw_step rfl rfl rfl (OpR.q (q_sub rfl rfl rfl (by intro hc; (simp only [List.length_set, List.length_append, List.length_cons, List.length_nil, List.length_replicate, List.length_take, List.length_drop, List.length_map]; omega)))) ?_
    refine sw_step rfl rfl rfl (q_call (CanCall.mk Try.call52) rfl (.cons rfl inferInstance (.cons rfl inferInstance (.cons rfl inferInstance (.nil)))) (fun _ w hw => callq hw (within_spec _ _ _ w))) ?_
    refine sw_step rfl rfl rfl (OpR.q (q_not rfl rfl)) ?_
    refine sw_step rfl rfl rfl (OpR.q (q_or2 rfl rfl rfl)) ?_
    refine sw_nil ?_
    refine post_then ?_
    -- STOP at: cond
    refine cw_cond rfl (fun h2 => ?_) (fun h2 => ?_)
    · skip
      rw [hm, inB_msg hm, hmsg] at h2; simp at h2
    · skip
      refine cw_skip ?_
      refine post_then ?_
      refine cw_seq ?_
      -- region 6
      refine cw_region ?_
      refine sw_step rfl rfl rfl (OpR.q (q_loadA rfl rfl (by exact .tail _ (.head _)) rfl)) ?_
      -- STOP at: t37  := call {callee=(value F69), args=[t36], argTypes=[55]} :98
      refine sw_x rfl rfl rfl (e_call (CanCall.mk Try.call69) rfl (.cons rfl inferInstance (.nil)) (fun w hw => start_spec ⟨key, P, bits, margin⟩ hm w)) (fun x37 => ?_)
      refine sw_imp fun _ => ?_
      refine sw_x rfl rfl rfl (e_alloc rfl) (fun b10 => ?_)
      refine sw_eff0 rfl rfl (e_store (i := 0) rfl rfl rfl rfl rfl rfl rfl rfl) ?_
      refine sw_nil ?_
      refine post_then ?_
      refine cw_seq ?_
      -- region 7
      refine cw_region ?_
      refine sw_step rfl rfl rfl (OpR.q (q_move rfl rfl)) ?_
      -- STOP at: t39  := call {callee=(value F71), args=[t38], argTypes=[37]} :37
      refine sw_x rfl rfl rfl (e_call (CanCall.mk Try.call71) rfl (.cons rfl inferInstance (.nil)) (fun w hw => clone_spec sa a w (stb_arg hw ha) (by omega))) (fun s39 => ?_)
      refine sw_imp fun _ => ?_
      refine sw_x rfl rfl rfl (e_alloc rfl) (fun b11 => ?_)
      refine sw_x rfl rfl rfl (e_alloc rfl) (fun b12 => ?_)
      refine sw_eff0 rfl rfl (e_store (i := 1) rfl rfl rfl rfl rfl rfl rfl rfl) ?_
      refine sw_eff0 rfl rfl (e_store (i := 0) rfl rfl rfl rfl rfl rfl rfl rfl) ?_
      refine sw_nil ?_
      refine post_then ?_
      refine cw_seq ?_
      -- region 8
      refine cw_region ?_
      refine sw_step rfl rfl rfl (OpR.q (q_func_l rfl (.cons rfl inferInstance (.cons rfl inferInstance (.cons rfl inferInstance (.nil)))))) ?_
      refine sw_step rfl rfl rfl (OpR.q (q_assign rfl rfl)) ?_
      refine sw_nil ?_
      refine post_then ?_
      refine cw_seq ?_
      -- region 9
      refine cw_region ?_
      refine sw_step rfl rfl rfl (OpR.q (q_loadC rfl rfl (by exact .tail _ (.tail _ (.tail _ (.head _)))) rfl)) ?_
      refine sw_step rfl rfl rfl (OpR.q (q_move rfl rfl)) ?_
      -- STOP at: t43  := call {callee=(value F70), args=[t41, t42], argTypes=[98, 3]} :30
      refine sw_x rfl rfl rfl (e_call (CanCall.mk Try.call70) rfl (.cons rfl inferInstance (.cons rfl inferInstance (.nil))) (fun w hw => word_spec ⟨key, P, bits, margin⟩ msg x37.1 x37.2 hm hgb w (stb_blk hw (by exact .tail _ (.tail _ (.tail _ (.tail _ (.head _)))))))) (fun s43 => ?_)
      refine sw_imp fun _ => ?_
      refine sw_step rfl rfl rfl (OpR.q (q_assign rfl rfl)) ?_
      refine sw_nil ?_
      refine post_then ?_
      refine cw_seq ?_
      refine cw_seq ?_
      -- region 10
      refine cw_region ?_
      refine sw_step rfl rfl rfl (OpR.q (q_assign rfl rfl)) ?_
      refine sw_nil ?_
      refine post_then ?_
      refine cw_block ?_
      -- STOP at: loop
      refine cw_loop (S := Nat) (fun j => [(10, [], .pointer (some ⟨b10, 0, none⟩)), (11, [], .pointer (some ⟨b11, 0, none⟩)), (12, [], .pointer (some ⟨b12, 0, none⟩)), (13, [], .func (.func 73) #[] #[.pointer (some ⟨b11, 0, none⟩), .pointer (some ⟨b10, 0, none⟩), .pointer (some ⟨b12, 0, none⟩)]), (14, [], s43.v), (15, [], .int .i64 (j * frameN ⟨key, P, bits, margin⟩ : Nat))])
        (fun j => Cl w [] [blk b11 [s39.v] 37, ownL 3 s39.v (frames ⟨key, P, bits, margin⟩ (wordL ⟨key, P, bits, margin⟩ msg) j (a, 0)).1, blk b12 [.int .i64 (frames ⟨key, P, bits, margin⟩ (wordL ⟨key, P, bits, margin⟩ msg) j (a, 0)).2] 3, blk b10 [.pointer (some ⟨x37.1, 0, none⟩)] 98, blk x37.1 (mkC ⟨key, P, bits, margin⟩ x37.2) 108, ownL 3 x37.2.v (chipsL key (2 * (P : Int)).toNat), ownL 4 s43.v (wordL ⟨key, P, bits, margin⟩ msg)])
        (fun j => j ≤ a.length / frameN ⟨key, P, bits, margin⟩) (fun j => a.length / frameN ⟨key, P, bits, margin⟩ - j) 0 (Nat.zero_le _) (Le.cons rfl (Le.cons rfl (Le.cons rfl (Le.cons rfl (Le.cons rfl (Le.cons' rfl (by simp) Le.nil)))))) (fun w h => Cl.sel (by exact .take 2 rfl (.take 2 rfl (.take 1 rfl (.take 1 rfl (.take 1 rfl (.take 1 rfl (.take 0 rfl (.nil _)))))))) w h) ?_
      intro j hj
      have hg := frames_good hok hm (word := wordL ⟨key, P, bits, margin⟩ msg) j hj
      have hgl := hg.len
      have hjl : j * frameN ⟨key, P, bits, margin⟩ ≤ a.length := Nat.le_trans (Nat.mul_le_mul_right _ hj) (Nat.div_mul_le_self _ _)
      generalize hY : frames ⟨key, P, bits, margin⟩ (wordL ⟨key, P, bits, margin⟩ msg) j (a, 0) = Y at hg hgl
      have hwl := wordL_len (m := ⟨key, P, bits, margin⟩) (msg := msg)
      dsimp only at hwl
      refine cw_seq ?_
      refine cw_seq ?_
      -- region 11
      refine cw_region_q mixed_Try (by kernel_rfl) ?_
      refine qw_step rfl rfl rfl (OpR.q (q_move rfl rfl)) ?_
      refine qw_step rfl rfl rfl (OpR.q (q_loadC rfl rfl (by exact .tail _ (.tail _ (.tail _ (.head _)))) rfl)) ?_
      refine qw_step rfl rfl rfl (q_call (CanCall.mk Try.call75) rfl (.cons rfl inferInstance (.nil)) (fun _ w hw => callq hw (size_spec ⟨key, P, bits, margin⟩ hm x37.1 x37.2 w (stb_blk hw (by exact .tail _ (.tail _ (.tail _ (.tail _ (.head _))))))))) ?_
      refine qw_step rfl rfl rfl (OpR.q (q_add rfl rfl rfl (by intro hc; omega))) ?_
      refine qw_step rfl rfl rfl (OpR.q (q_loadC rfl rfl (by exact .head _) rfl)) ?_
      refine qw_step rfl rfl rfl (OpR.q (q_len rfl (.cons rfl inferInstance (.nil)) (by exact fun w hw => rd_own hw (by exact .tail _ (.head _))))) ?_
      refine qw_step rfl rfl rfl (OpR.q (q_leq rfl rfl rfl)) ?_
      refine qw_end ?_
      refine post_then ?_
      -- STOP at: cond
      refine cw_cond rfl (fun h3 => ?_) (fun h3 => ?_)
      · skip
        have h3' : j * frameN ⟨key, P, bits, margin⟩ + frameN ⟨key, P, bits, margin⟩ ≤ a.length := by simp only [decide_eq_true_eq] at h3; omega
        have h4 := (frame_lt hm a.length j).1 h3'
        have hper : 0 * P + P ≤ frameN ⟨key, P, bits, margin⟩ := per_le (m := ⟨key, P, bits, margin⟩) 0 (by omega)
        refine cw_skip ?_
        refine post_then ?_
        refine cw_seq ?_
        refine cw_block ?_
        refine cw_seq ?_
        -- region 13
        refine cw_region ?_
        refine sw_step rfl rfl rfl (OpR.q (q_move rfl rfl)) ?_
        refine sw_step rfl rfl rfl (OpR.q (q_move rfl rfl)) ?_
        refine sw_step rfl rfl rfl (OpR.q (q_loadC rfl rfl (by exact .tail _ (.tail _ (.tail _ (.head _)))) rfl)) ?_
        refine sw_step rfl rfl rfl (OpR.q (q_nilCheck rfl rfl)) ?_
        refine sw_step rfl rfl rfl (OpR.q (q_fieldAddr rfl rfl)) ?_
        refine sw_step rfl rfl rfl (OpR.q (q_loadC rfl rfl (by exact .tail _ (.tail _ (.tail _ (.tail _ (.head _))))) rfl)) ?_
        -- STOP at: t61  := call {callee=(value t55), args=[t56, t60, 1:i64], argTypes=[3, 37, 3]} :0
        refine sw_x rfl rfl rfl (e_callH (A := [blk b11 [s39.v] 37, ownL 3 s39.v Y.1, blk b12 [.int .i64 Y.2] 3]) (F := [blk b10 [.pointer (some ⟨x37.1, 0, none⟩)] 98, blk x37.1 (mkC ⟨key, P, bits, margin⟩ x37.2) 108, ownL 3 x37.2.v (chipsL key (2 * (P : Int)).toNat), ownL 4 s43.v (wordL ⟨key, P, bits, margin⟩ msg)]) (CanCall.mk Try.call73) rfl rfl (.cons rfl inferInstance (.cons rfl inferInstance (.cons rfl inferInstance (.nil)))) (.refl _) (fun w bs h1 h2 h3 _ h5 => period_spec key bits margin P hm a hok b11 b10 b12 x37.1 s39 x37.2 (cF ⟨key, P, bits, margin⟩) _ (cF_is _) (cF_len hm) (j * frameN ⟨key, P, bits, margin⟩) Y hg (by omega) hlen 1 (.inl rfl) w bs h1 h2 h3 (lend_blk h5 (by simp)) (lend_blk h5 (by simp)) (stb_sub (lend_own (e := 3) h5 (by simp)) (by omega) (by rw [chipsL_len]; omega)))) (fun u61 => ?_)
        refine sw_imp fun _ => ?_
        refine sw_nil ?_
        refine post_then ?_
        refine cw_seq ?_
        -- region 14
        refine cw_region ?_
        refine sw_step rfl rfl rfl (OpR.q (q_move rfl rfl)) ?_
        refine sw_step rfl rfl rfl (OpR.q (q_len rfl (.cons rfl inferInstance (.nil)) (by exact fun w hw => rd_own hw (by exact .tail _ (.tail _ (.tail _ (.tail _ (.tail _ (.tail _ (.head _)))))))))) ?_
        refine sw_step rfl rfl rfl (OpR.q (q_move rfl rfl)) ?_
        refine sw_nil ?_
        refine post_then ?_
        refine cw_block ?_
        -- STOP at: loop
        refine cw_loop (S := Nat) (fun i => [(10, [], .pointer (some ⟨b10, 0, none⟩)), (11, [], .pointer (some ⟨b11, 0, none⟩)), (12, [], .pointer (some ⟨b12, 0, none⟩)), (13, [], .func (.func 73) #[] #[.pointer (some ⟨b11, 0, none⟩), .pointer (some ⟨b10, 0, none⟩), .pointer (some ⟨b12, 0, none⟩)]), (14, [], s43.v), (15, [], .int .i64 (j * frameN ⟨key, P, bits, margin⟩ : Nat)), (62, [], s43.v), (63, [], .int .i64 (bits.toNat + 16 : Nat)), (64, [], .int .i64 i)])
          (fun i => Cl w [] [blk b11 [s39.v] 37, ownL 3 s39.v (periods ⟨key, P, bits, margin⟩ (wordL ⟨key, P, bits, margin⟩ msg) (j * frameN ⟨key, P, bits, margin⟩) (i + 1) Y).1, blk b12 [.int .i64 (periods ⟨key, P, bits, margin⟩ (wordL ⟨key, P, bits, margin⟩ msg) (j * frameN ⟨key, P, bits, margin⟩) (i + 1) Y).2] 3, blk b10 [.pointer (some ⟨x37.1, 0, none⟩)] 98, blk x37.1 (mkC ⟨key, P, bits, margin⟩ x37.2) 108, ownL 3 x37.2.v (chipsL key (2 * (P : Int)).toNat), ownL 4 s43.v (wordL ⟨key, P, bits, margin⟩ msg)])
          (fun i => i ≤ bits.toNat + 16) (fun i => bits.toNat + 16 - i) 0 (by omega) (Le.cons rfl (Le.cons rfl (Le.cons rfl (Le.cons rfl (Le.cons rfl (Le.cons rfl (Le.cons rfl (Le.cons' rfl (by rw [hwl]) (Le.cons rfl Le.nil))))))))) (fun w1 h => by rw [periods1]; exact h) ?_
        intro i hi
        have hg2 := periods_good hok hm (word := wordL ⟨key, P, bits, margin⟩ msg) h3' hg (i + 1) (by dsimp only; omega)
        generalize hZ : periods ⟨key, P, bits, margin⟩ (wordL ⟨key, P, bits, margin⟩ msg) (j * frameN ⟨key, P, bits, margin⟩) (i + 1) Y = Z at hg2
        refine cw_seq ?_
        -- region 15
        refine cw_region ?_
        refine sw_step rfl rfl rfl (OpR.q (q_lss rfl rfl rfl)) ?_
        refine sw_nil ?_
        refine post_then ?_
        refine cw_seq ?_
        -- STOP at: cond
        refine cw_cond rfl (fun h5 => ?_) (fun h5 => ?_)
        · skip
          have hi' : i < bits.toNat + 16 := by simp only [decide_eq_true_eq] at h5; omega
          have hper2 : (i + 1) * P + P ≤ frameN ⟨key, P, bits, margin⟩ := per_le (m := ⟨key, P, bits, margin⟩) (i + 1) (by dsimp only; omega)
          have hg2 : Good a (j * frameN ⟨key, P, bits, margin⟩ + (i + 1) * P) Z := hg2
          obtain ⟨q, hq⟩ : ∃ q : Nat, q = (i + 1) * P := ⟨_, rfl⟩
          have hmul : ((i : Int) + 1) * P = (q : Int) := by rw [hq, Int.natCast_mul]; rfl
          rw [← hq] at hper2 hg2
          refine cw_skip ?_
          refine post_then ?_
          refine cw_seq ?_
          refine cw_block ?_
          refine cw_seq ?_
          -- region 16
          refine cw_region ?_
          refine sw_step rfl rfl rfl (OpR.q (q_move rfl rfl)) ?_
          refine sw_step rfl rfl rfl (OpR.q (q_indexN rfl rfl rfl (by exact fun w hw => rd_own hw (by exact .tail _ (.tail _ (.tail _ (.tail _ (.tail _ (.tail _ (.head _)))))))) (by intro hc; omega))) ?_
          refine sw_step rfl rfl rfl (OpR.q (q_loadEl rfl rfl rfl (by exact fun w hw => rd_own hw (by exact .tail _ (.tail _ (.tail _ (.tail _ (.tail _ (.tail _ (.head _)))))))) (by intro hc; omega))) ?_
          refine sw_step rfl rfl rfl (OpR.q (q_assign rfl rfl)) ?_
          refine sw_step rfl rfl rfl (OpR.q (q_assign rfl rfl)) ?_
          refine sw_nil ?_
          refine post_then ?_
          -- region 17
          -- STOP: a region with effects that draws its order
          refine cw_region_a (Cl w [] [blk b11 [s39.v] 37, ownL 3 s39.v Z.1, blk b12 [.int .i64 Z.2] 3, blk b10 [.pointer (some ⟨x37.1, 0, none⟩)] 98, blk x37.1 (mkC ⟨key, P, bits, margin⟩ x37.2) 108, ownL 3 x37.2.v (chipsL key (2 * (P : Int)).toNat), ownL 4 s43.v (wordL ⟨key, P, bits, margin⟩ msg)]) [17] mixed_Try ?_
          refine aw_pure 0 rfl (by kernel_rfl) (by kernel_rfl) (by kernel_rfl) (by kernel_rfl) (by kernel_rfl) rfl rfl rfl (q_move rfl rfl) ?_
          refine aw_pure 1 rfl (by kernel_rfl) (by kernel_rfl) (by kernel_rfl) (by kernel_rfl) (by kernel_rfl) rfl rfl rfl (q_move rfl rfl) ?_
          refine aw_pure 2 rfl (by kernel_rfl) (by kernel_rfl) (by kernel_rfl) (by kernel_rfl) (by kernel_rfl) rfl rfl rfl (q_move rfl rfl) ?_
          refine aw_pure 3 rfl (by kernel_rfl) (by kernel_rfl) (by kernel_rfl) (by kernel_rfl) (by kernel_rfl) rfl rfl rfl (q_add rfl rfl rfl (by intro hc; omega)) ?_
          refine aw_take 4 (fun w h => Cl.sel (by exact .take 0 rfl (.take 0 rfl (.take 0 rfl (.take 0 rfl (.take 0 rfl (.take 0 rfl (.take 0 rfl (.nil _)))))))) w h) rfl (by kernel_rfl) (by kernel_rfl) (by kernel_rfl) (by kernel_rfl) (by kernel_rfl) (by kernel_rfl) rfl rfl rfl (q_loadC rfl rfl (by exact .tail _ (.tail _ (.tail _ (.head _)))) rfl) ?_
          refine aw_pure 5 rfl (by kernel_rfl) (by kernel_rfl) (by kernel_rfl) (by kernel_rfl) (by kernel_rfl) rfl rfl rfl (q_nilCheck rfl rfl) ?_
          refine aw_take 6 (fun w h => Cl.sel (by exact .take 0 rfl (.take 0 rfl (.take 0 rfl (.take 0 rfl (.take 0 rfl (.take 0 rfl (.take 0 rfl (.nil _)))))))) w h) rfl (by kernel_rfl) (by kernel_rfl) (by kernel_rfl) (by kernel_rfl) (by kernel_rfl) (by kernel_rfl) rfl rfl rfl (q_fieldAddr rfl rfl) ?_
          refine aw_take 7 (fun w h => Cl.sel (by exact .take 0 rfl (.take 0 rfl (.take 0 rfl (.take 0 rfl (.take 0 rfl (.take 0 rfl (.take 0 rfl (.nil _)))))))) w h) rfl (by kernel_rfl) (by kernel_rfl) (by kernel_rfl) (by kernel_rfl) (by kernel_rfl) (by kernel_rfl) rfl rfl rfl (q_fieldAddr rfl rfl) ?_
          refine aw_take 8 (fun w h => Cl.sel (by exact .take 0 rfl (.take 0 rfl (.take 0 rfl (.take 0 rfl (.take 0 rfl (.take 0 rfl (.take 0 rfl (.nil _)))))))) w h) rfl (by kernel_rfl) (by kernel_rfl) (by kernel_rfl) (by kernel_rfl) (by kernel_rfl) (by kernel_rfl) rfl rfl rfl (q_loadC rfl rfl (by exact .tail _ (.tail _ (.tail _ (.tail _ (.head _))))) rfl) ?_
          refine aw_pure 9 rfl (by kernel_rfl) (by kernel_rfl) (by kernel_rfl) (by kernel_rfl) (by kernel_rfl) rfl rfl rfl (q_mul rfl rfl rfl (by intro hc; (simp only [List.length_set, List.length_append, List.length_cons, List.length_nil, List.length_replicate, List.length_take, List.length_drop, List.length_map]; omega))) ?_
          refine aw_pure 10 rfl (by kernel_rfl) (by kernel_rfl) (by kernel_rfl) (by kernel_rfl) (by kernel_rfl) rfl rfl rfl (q_add rfl rfl rfl (by intro hc; (simp only [List.length_set, List.length_append, List.length_cons, List.length_nil, List.length_replicate, List.length_take, List.length_drop, List.length_map]; omega))) ?_
          refine aw_take 11 (fun w h => Cl.sel (by exact .take 0 rfl (.take 0 rfl (.take 0 rfl (.take 0 rfl (.take 0 rfl (.take 0 rfl (.take 0 rfl (.nil _)))))))) w h) rfl (by kernel_rfl) (by kernel_rfl) (by kernel_rfl) (by kernel_rfl) (by kernel_rfl) (by kernel_rfl) rfl rfl rfl (q_loadC rfl rfl (by exact .tail _ (.tail _ (.tail _ (.head _)))) rfl) ?_
          refine aw_pure 12 rfl (by kernel_rfl) (by kernel_rfl) (by kernel_rfl) (by kernel_rfl) (by kernel_rfl) rfl rfl rfl (q_nilCheck rfl rfl) ?_
          refine aw_take 13 (fun w h => Cl.sel (by exact .take 0 rfl (.take 0 rfl (.take 0 rfl (.take 0 rfl (.take 0 rfl (.take 0 rfl (.take 0 rfl (.nil _)))))))) w h) rfl (by kernel_rfl) (by kernel_rfl) (by kernel_rfl) (by kernel_rfl) (by kernel_rfl) (by kernel_rfl) rfl rfl rfl (q_fieldAddr rfl rfl) ?_
          refine aw_take 14 (fun w h => Cl.sel (by exact .take 0 rfl (.take 0 rfl (.take 0 rfl (.take 0 rfl (.take 0 rfl (.take 0 rfl (.take 0 rfl (.nil _)))))))) w h) rfl (by kernel_rfl) (by kernel_rfl) (by kernel_rfl) (by kernel_rfl) (by kernel_rfl) (by kernel_rfl) rfl rfl rfl (q_loadC rfl rfl (by exact .tail _ (.tail _ (.tail _ (.tail _ (.head _))))) rfl) ?_
          refine aw_pure 15 rfl (by kernel_rfl) (by kernel_rfl) (by kernel_rfl) (by kernel_rfl) (by kernel_rfl) rfl rfl rfl (q_move rfl rfl) ?_
          refine aw_q 16 (by kernel_rfl) rfl rfl rfl rfl (q_call (CanCall.mk Try.call76) rfl (.cons rfl inferInstance (.nil)) (fun _ w hw => callq hw (sign_spec _ w))) (by intro hb; exact (fun w h => Cl.sel (by exact .take 0 rfl (.take 0 rfl (.take 0 rfl (.take 0 rfl (.take 0 rfl (.take 0 rfl (.take 0 rfl (.nil _)))))))) w h)) ?_
          -- STOP at: 17 t86  := call {callee=(value t69), args=[t79, t83, t85], argTypes=[3, 37, 3]} :0
          refine aw_x 17 (by kernel_rfl) rfl rfl rfl rfl (e_callH (A := [blk b11 [s39.v] 37, ownL 3 s39.v Z.1, blk b12 [.int .i64 Z.2] 3]) (F := [blk b10 [.pointer (some ⟨x37.1, 0, none⟩)] 98, blk x37.1 (mkC ⟨key, P, bits, margin⟩ x37.2) 108, ownL 3 x37.2.v (chipsL key (2 * (P : Int)).toNat), ownL 4 s43.v (wordL ⟨key, P, bits, margin⟩ msg)]) (CanCall.mk Try.call73) rfl rfl (.cons rfl inferInstance (.cons rfl inferInstance (.cons rfl inferInstance (.nil)))) (.refl _) (fun w bs h1 h2 h3 _ h5 => by rw [hmul, ← Int.natCast_add, ← psg_succ]; exact period_spec key bits margin P hm a hok b11 b10 b12 x37.1 s39 x37.2 (cO ⟨key, P, bits, margin⟩) _ (cO_is _) (cO_len hm) (j * frameN ⟨key, P, bits, margin⟩ + q) Z hg2 (by omega) hlen (psg (wordL ⟨key, P, bits, margin⟩ msg) (i + 1)) (psg_is _ _) w bs h1 h2 h3 (lend_blk h5 (by simp)) (lend_blk h5 (by simp)) (stb_sub (lend_own (e := 3) h5 (by simp)) (by rw [chipsL_len]; omega) (Nat.le_refl _)))) (by intro hb; (exact absurd hb (by decide))) (fun u86 => ?_)
          refine aw_imp fun _ => ?_
          refine aw_end (by kernel_rfl) ?_
          refine post_blk ?_
          refine post_then ?_
          -- region 18
          refine cw_region ?_
          refine sw_step rfl rfl rfl (OpR.q (q_add rfl rfl rfl (by intro hc; omega))) ?_
          refine sw_step rfl rfl rfl (OpR.q (q_move rfl rfl)) ?_
          refine sw_nil ?_
          refine post_next (i + 1) (by exact .cons rfl (.cons rfl (.cons rfl (.cons rfl (.cons rfl (.cons rfl (.cons rfl (.cons rfl (.cons rfl .nil))))))))) (fun w3 hw3 => ?_) (by omega) (by omega)
          rw [show periods ⟨key, P, bits, margin⟩ (wordL ⟨key, P, bits, margin⟩ msg) (j * frameN ⟨key, P, bits, margin⟩) (i + 1 + 1) Y = stepP margin P (cO ⟨key, P, bits, margin⟩) (j * frameN ⟨key, P, bits, margin⟩ + q) (psg (wordL ⟨key, P, bits, margin⟩ msg) (i + 1)) Z by rw [← hZ, hq]; rfl]
          exact hw3
        · skip
          have hi' : i = bits.toNat + 16 := by simp only [decide_eq_false_iff_not] at h5; omega
          subst hi'
          refine cw_exit ?_
          refine post_then_x ?_
          refine post_then_x ?_
          refine post_blk_eq ?_
          refine post_blk ?_
          refine post_then ?_
          -- region 12
          refine cw_region ?_
          refine sw_step rfl rfl rfl (OpR.q (q_move rfl rfl)) ?_
          refine sw_step rfl rfl rfl (OpR.q (q_loadC rfl rfl (by exact .tail _ (.tail _ (.tail _ (.head _)))) rfl)) ?_
          refine sw_step rfl rfl rfl (q_call (CanCall.mk Try.call75) rfl (.cons rfl inferInstance (.nil)) (fun _ w hw => callq hw (size_spec ⟨key, P, bits, margin⟩ hm x37.1 x37.2 w (stb_blk hw (by exact .tail _ (.tail _ (.tail _ (.tail _ (.head _))))))))) ?_
          refine sw_step rfl rfl rfl (OpR.q (q_add rfl rfl rfl (by intro hc; omega))) ?_
          refine sw_step rfl rfl rfl (OpR.q (q_assign rfl rfl)) ?_
          refine sw_nil ?_
          refine post_next (j + 1) (Le.cons rfl (Le.cons rfl (Le.cons rfl (Le.cons rfl (Le.cons rfl (Le.cons' rfl (by rw [Nat.add_mul, Nat.one_mul]; rfl) Le.nil)))))) (fun w3 hw3 => ?_) (by omega) (by omega)
          rw [show frames ⟨key, P, bits, margin⟩ (wordL ⟨key, P, bits, margin⟩ msg) (j + 1) (a, 0) = Z by rw [← hZ, ← hY]; rfl]
          exact hw3
      · skip
        have h4 : j = a.length / frameN ⟨key, P, bits, margin⟩ := by
          have h5 : ¬ j * frameN ⟨key, P, bits, margin⟩ + frameN ⟨key, P, bits, margin⟩ ≤ a.length := by simp only [decide_eq_false_iff_not] at h3; omega
          rw [frame_lt hm] at h5; omega
        have hYL : signL a ⟨key, P, bits, margin⟩ msg = Y := by rw [← hY, h4]; rfl
        rw [hYL] at hse ⊢
        refine cw_exit ?_
        refine post_then_x ?_
        refine post_then_x ?_
        refine post_blk_eq ?_
        refine post_then ?_
        refine cw_seq ?_
        refine cw_seq ?_
        -- region 19
        refine cw_region ?_
        refine sw_step rfl rfl rfl (OpR.q (q_loadC rfl rfl (by exact .head _) rfl)) ?_
        refine sw_step rfl rfl rfl (q_call (CanCall.mk Try.call77) rfl (.cons rfl inferInstance (.cons rfl inferInstance (.nil))) (fun _ w hw => callq hw (containsInt_spec _ _ _ _ _ _ w (by exact stb_own hw (by exact .tail _ (.head _))) (stb_true _ _) (CanCall.mk Try.call78) pred_outside))) ?_
        refine sw_nil ?_
        refine post_then ?_
        -- STOP at: cond
        refine cw_cond rfl (fun h5 => ?_) (fun h5 => ?_)
        · skip
          have h6 : okS Y.1 = false := by rw [any_out] at h5; simpa using h5
          rw [hse, h6]
          refine cw_seq ?_
          -- region 20
          refine cw_region ?_
          refine sw_step rfl rfl rfl (OpR.q (q_assign rfl rfl)) ?_
          refine sw_step rfl rfl rfl (OpR.q (q_assign rfl rfl)) ?_
          refine sw_step rfl rfl rfl (OpR.q (q_assign rfl rfl)) ?_
          refine sw_nil ?_
          refine post_then ?_
          refine cw_ret ?_
          refine post_then_r ?_
          refine post_ret3 rfl (resOk_tmp rfl) (resOk_tmp rfl) (resOk_tmp rfl) ?_
          exact fun w' hw => ⟨⟨none, 0, 0⟩, rfl, trivial, Cl.addNil (α := Int) (H := []) 3 ((fun w h => Cl.sel (by exact .nil _) w h) _ hw)⟩
        · skip
          have h6 : okS Y.1 = true := by rw [any_out] at h5; simpa using h5
          rw [hse, h6]
          refine cw_skip ?_
          refine post_then ?_
          refine cw_seq ?_
          -- region 21
          refine cw_region_q mixed_Try (by kernel_rfl) ?_
          refine qw_step rfl rfl rfl (OpR.q (q_loadC rfl rfl (by exact .head _) rfl)) ?_
          refine qw_step rfl rfl rfl (OpR.q (q_loadC rfl rfl (by exact .tail _ (.tail _ (.head _))) rfl)) ?_
          refine qw_step rfl rfl rfl (OpR.q (q_assign rfl rfl)) ?_
          refine qw_step rfl rfl rfl (OpR.q (q_assign rfl rfl)) ?_
          refine qw_step rfl rfl rfl (OpR.q (q_assign rfl rfl)) ?_
          refine qw_end ?_
          refine post_then ?_
          refine cw_ret ?_
          refine post_ret3 rfl (resOk_tmp rfl) (resOk_tmp rfl) (resOk_tmp rfl) ?_
          exact fun w' hw => ⟨s39, rfl, trivial, (fun w h => Cl.sel (by exact .take 1 rfl (.nil _)) w h) _ hw⟩
end Go.Proofs.Ytekikelejncgeaa
