import Derived.Test.YtekikelejncgeaaZC
set_option autoImplicit false
set_option linter.unusedSimpArgs false
set_option linter.unusedVariables false
set_option maxRecDepth 100000
namespace Go.Proofs.Ytekikelejncgeaa
open Go.Sx
open Enc (enc val)

/-! ### the reference's Sign -/
def pcs (P len p : Nat) (s : SlV) : SlV := if p = 0 then s.sub 1 0 P else s.sub 1 P len
theorem pcs_rd {m : Stamp} {s : SlV} {w : World} (hm : rightS m = true) (p : Nat) (h : RdL s.v (chipsL m.key (2 * m.period).toNat) w) : RdL (pcs m.period.toNat (chipsL m.key (2 * m.period).toNat).length p s).v (pc m p) w := by
  have hb := rightS_bd hm
  unfold pcs pc
  split
  · exact rd_sub h (by omega) (by rw [chipsL_len]; omega)
  · exact rd_sub h (by rw [chipsL_len]; omega) (Nat.le_refl _)
theorem pcs_spec (m : Stamp) (hm : rightS m = true) (p : Nat) (w : World) :
    Calls Try.prog 79 #[val m, .int .i64 p] w fun e w' => ∃ s : SlV, e = .returned (pcs m.period.toNat (chipsL m.key (2 * m.period).toNat).length p s).v ∧ True ∧ Cl w [] [ownL 3 s.v (chipsL m.key (2 * m.period).toNat)] w' := by
  refine (refPc_spec m hm p w).mono ?_
  rintro e w' ⟨s, h1, h2, h3⟩
  refine ⟨s, ?_, h2, h3⟩
  rw [h1, pcs]
  split <;> rfl
theorem psg_eq (word : List Bool) (p : Nat) : psg word p = if (decide ((0 : Int) < (p : Int)) && !(nth word ((p : Int) - 1).toNat)) = true then -1 else 1 := by
  unfold psg sgn
  by_cases hp : p = 0
  · subst hp; simp
  · rw [if_neg hp, show ((p : Int) - 1).toNat = p - 1 by omega]
    have : decide ((0 : Int) < (p : Int)) = true := by simp; omega
    rw [this]
    cases nth word (p - 1) <;> simp
theorem refSign_spec (key bits margin : Int) (P : Nat) (hm : rightS ⟨key, P, bits, margin⟩ = true) (sa : SlV) (a : List Int) (msg : Int) (hmsg : okMsg ⟨key, P, bits, margin⟩ msg = true) (hok : okS a = true) (hlen : a.length ≤ 100000) (w : World) (ha : Stb w [] (RdL sa.v a)) :
    Calls Try.prog 45 #[sa.v, val (⟨key, P, bits, margin⟩ : Stamp), .int .i64 msg] w fun e w' => ∃ s : SlV, e = .returned (.tuple #[s.v, .int .i64 (signL a ⟨key, P, bits, margin⟩ msg).2, .bool (okS (signL a ⟨key, P, bits, margin⟩ msg).1)]) ∧ True ∧ Cl w [] [ownL 3 s.v (signL a ⟨key, P, bits, margin⟩ msg).1] w' := by
  have hb := rightS_bd hm
  have hgb := okMsg_bd hm hmsg
  have hbd := frameN_bd hm
  dsimp only at hb
  refine calls_cw (vs := [_, _, _]) Try.func45 rfl Try.ntmps45 rfl (Cl.addNil (α := Int) 3 (Cl.start0 w)) ?_
  refine cw_seq ?_
  -- region 0
  refine cw_region ?_
  refine sw_x rfl rfl rfl (e_box rfl rfl rfl) (fun b4 => ?_)
  refine sw_step rfl rfl rfl (OpR.q (q_assign rfl rfl)) ?_
  refine sw_step rfl rfl rfl (OpR.q (q_assign rfl rfl)) ?_
  refine sw_step rfl rfl rfl (OpR.q (q_assign rfl rfl)) ?_
  refine sw_nil ?_
  refine post_then ?_
  refine cw_seq ?_
  -- region 1
  refine cw_region ?_
  refine sw_step rfl rfl rfl (OpR.q (q_move rfl rfl)) ?_
  refine sw_x rfl rfl rfl (e_append (i := 1) rfl (.cons rfl inferInstance (.cons rfl inferInstance (.nil))) rfl rfl (by exact fun w hw => Stb.cl (by assumption) hw) (by simp only [List.length_set, List.length_append, List.length_cons, List.length_nil, List.length_replicate, List.length_take, List.length_drop, List.length_map]; omega) rfl) (fun s22 => ?_)
  refine sw_step rfl rfl rfl (OpR.q (q_assign rfl rfl)) ?_
  refine sw_nil ?_
  refine post_then ?_
  refine cw_seq ?_
  -- region 2
  refine cw_region ?_
  refine sw_step rfl rfl rfl (OpR.q (q_loadA rfl rfl (by exact .head _) rfl)) ?_
  refine sw_step rfl rfl rfl (OpR.q (q_move rfl rfl)) ?_
  -- STOP at: t25  := call {callee=(value F38), args=[t23, t24], argTypes=[55, 3]} :30
  refine sw_x rfl rfl rfl (e_call (CanCall.mk Try.call38) rfl (.cons rfl inferInstance (.cons rfl inferInstance (.nil))) (fun w hw => refWord_spec ⟨key, P, bits, margin⟩ msg hm hgb w)) (fun s25 => ?_)
  refine sw_imp fun _ => ?_
  refine sw_step rfl rfl rfl (OpR.q (q_assign rfl rfl)) ?_
  refine sw_nil ?_
  refine post_then ?_
  refine cw_seq ?_
  -- region 3
  refine cw_region ?_
  refine sw_step rfl rfl rfl (OpR.q (q_assign rfl rfl)) ?_
  refine sw_nil ?_
  refine post_then ?_
  refine cw_seq ?_
  -- region 4
  refine cw_region ?_
  refine sw_step rfl rfl rfl (OpR.q (q_loadA rfl rfl (by exact .tail _ (.head _)) rfl)) ?_
  refine sw_step rfl rfl rfl (q_call (CanCall.mk Try.call48) rfl (.cons rfl inferInstance (.nil)) (fun _ w hw => callq hw (frame_spec _ (by assumption) w))) ?_
  refine sw_step rfl rfl rfl (OpR.q (q_assign rfl rfl)) ?_
  refine sw_nil ?_
  refine post_then ?_
  refine cw_seq ?_
  refine cw_seq ?_
  -- region 5
  refine cw_region ?_
  refine sw_step rfl rfl rfl (OpR.q (q_assign rfl rfl)) ?_
  refine sw_nil ?_
  refine post_then ?_
  refine cw_block ?_
  -- STOP at: loop
  refine cw_loop (S := Nat) (fun j => [(0, [], sa.v), (4, [], .pointer (some ⟨b4, 0, none⟩)), (9, [], s22.v), (10, [], s25.v), (11, [], .int .i64 (frames ⟨key, P, bits, margin⟩ (wordL ⟨key, P, bits, margin⟩ msg) j (a, 0)).2), (12, [], .int .i64 (frameN ⟨key, P, bits, margin⟩)), (13, [], .int .i64 (j * frameN ⟨key, P, bits, margin⟩ : Nat))])
    (fun j => Cl w [] [ownL 3 s22.v (frames ⟨key, P, bits, margin⟩ (wordL ⟨key, P, bits, margin⟩ msg) j (a, 0)).1, ownL 4 s25.v (wordL ⟨key, P, bits, margin⟩ msg), blk b4 (enc (⟨key, P, bits, margin⟩ : Stamp)) 55])
    (fun j => j ≤ a.length / frameN ⟨key, P, bits, margin⟩) (fun j => a.length / frameN ⟨key, P, bits, margin⟩ - j) 0 (Nat.zero_le _) (Le.cons rfl (Le.cons rfl (Le.cons rfl (Le.cons rfl (Le.cons rfl (Le.cons rfl (Le.cons' rfl (by simp) Le.nil))))))) (fun w h => Cl.sel (by exact .take 2 rfl (.take 0 rfl (.take 0 rfl (.nil _)))) w h) ?_
  intro j hj
  have hg := frames_good hok hm (word := wordL ⟨key, P, bits, margin⟩ msg) j hj
  have hgl := hg.len
  have hjl : j * frameN ⟨key, P, bits, margin⟩ ≤ a.length := Nat.le_trans (Nat.mul_le_mul_right _ hj) (Nat.div_mul_le_self _ _)
  generalize hY : frames ⟨key, P, bits, margin⟩ (wordL ⟨key, P, bits, margin⟩ msg) j (a, 0) = Y at hg hgl
  have hwl := wordL_len (m := ⟨key, P, bits, margin⟩) (msg := msg)
  dsimp only at hwl
  refine cw_seq ?_
  refine cw_seq ?_
  -- region 6
  refine cw_region ?_
  refine sw_step rfl rfl rfl (OpR.q (q_move rfl rfl)) ?_
  refine sw_step rfl rfl rfl (OpR.q (q_move rfl rfl)) ?_
  refine sw_step rfl rfl rfl (OpR.q (q_add rfl rfl rfl (by intro hc; omega))) ?_
  refine sw_step rfl rfl rfl (OpR.q (q_move rfl rfl)) ?_
  refine sw_step rfl rfl rfl (OpR.q (q_len rfl (.cons rfl inferInstance (.nil)) (by exact fun w hw => Stb.cl (by assumption) hw))) ?_
  refine sw_step rfl rfl rfl (OpR.q (q_leq rfl rfl rfl)) ?_
  refine sw_nil ?_
  refine post_then ?_
  -- STOP at: cond
  refine cw_cond rfl (fun h3 => ?_) (fun h3 => ?_)
  · skip
    have h3' : j * frameN ⟨key, P, bits, margin⟩ + frameN ⟨key, P, bits, margin⟩ ≤ a.length := by simp only [decide_eq_true_eq] at h3; omega
    have h4 := (frame_lt hm a.length j).1 h3'
    refine cw_skip ?_
    refine post_then ?_
    refine cw_seq ?_
    refine cw_block ?_
    refine cw_seq ?_
    -- region 8
    refine cw_region ?_
    refine sw_step rfl rfl rfl (OpR.q (q_assign rfl rfl)) ?_
    refine sw_nil ?_
    refine post_then ?_
    refine cw_block ?_
    -- STOP at: loop
    refine cw_loop (S := Nat) (fun p => [(0, [], sa.v), (4, [], .pointer (some ⟨b4, 0, none⟩)), (9, [], s22.v), (10, [], s25.v), (11, [], .int .i64 (periods ⟨key, P, bits, margin⟩ (wordL ⟨key, P, bits, margin⟩ msg) (j * frameN ⟨key, P, bits, margin⟩) p Y).2), (12, [], .int .i64 (frameN ⟨key, P, bits, margin⟩)), (13, [], .int .i64 (j * frameN ⟨key, P, bits, margin⟩ : Nat)), (14, [], .int .i64 p)])
      (fun p => Cl w [] [ownL 3 s22.v (periods ⟨key, P, bits, margin⟩ (wordL ⟨key, P, bits, margin⟩ msg) (j * frameN ⟨key, P, bits, margin⟩) p Y).1, ownL 4 s25.v (wordL ⟨key, P, bits, margin⟩ msg), blk b4 (enc (⟨key, P, bits, margin⟩ : Stamp)) 55])
      (fun p => p ≤ bits.toNat + 17) (fun p => bits.toNat + 17 - p) 0 (Nat.zero_le _) (by exact .cons rfl (.cons rfl (.cons rfl (.cons rfl (.cons rfl (.cons rfl (.cons rfl (.cons rfl .nil)))))))) (fun w h => Cl.sel (by exact .take 0 rfl (.take 0 rfl (.take 0 rfl (.nil _)))) w h) ?_
    intro p hp
    have hg2 : Good a (j * frameN ⟨key, P, bits, margin⟩ + p * P) _ := periods_good hok hm (word := wordL ⟨key, P, bits, margin⟩ msg) h3' hg p hp
    generalize hZ : periods ⟨key, P, bits, margin⟩ (wordL ⟨key, P, bits, margin⟩ msg) (j * frameN ⟨key, P, bits, margin⟩) p Y = Z at hg2
    have hzl := hg2.len
    refine cw_seq ?_
    refine cw_seq ?_
    -- region 9
    refine cw_region ?_
    refine sw_step rfl rfl rfl (OpR.q (q_move rfl rfl)) ?_
    refine sw_step rfl rfl rfl (OpR.q (q_fieldAddr rfl rfl)) ?_
    refine sw_step rfl rfl rfl (OpR.q (q_loadC rfl rfl (by exact .tail _ (.tail _ (.head _))) rfl)) ?_
    refine sw_step rfl rfl rfl (OpR.q (q_add rfl rfl rfl (by intro hc; (simp only [List.length_set, List.length_append, List.length_cons, List.length_nil, List.length_replicate, List.length_take, List.length_drop, List.length_map]; omega)))) ?_
    refine sw_step rfl rfl rfl (OpR.q (q_lss rfl rfl rfl)) ?_
    refine sw_nil ?_
    refine post_then ?_
    -- STOP at: cond
    refine cw_cond rfl (fun h5 => ?_) (fun h5 => ?_)
    · skip
      have hp' : p < bits.toNat + 17 := by simp only [decide_eq_true_eq] at h5; omega
      have hper2 : p * P + P ≤ frameN ⟨key, P, bits, margin⟩ := per_le (m := ⟨key, P, bits, margin⟩) p hp'
      obtain ⟨q, hq⟩ : ∃ q : Nat, q = p * P := ⟨_, rfl⟩
      have hmul : (p : Int) * P = (q : Int) := by rw [hq, Int.natCast_mul]
      rw [← hq] at hper2 hg2
      obtain ⟨o, ho⟩ : ∃ o : Nat, o = j * frameN ⟨key, P, bits, margin⟩ + q := ⟨_, rfl⟩
      have hol : o + P ≤ a.length := by omega
      rw [← ho] at hg2
      have hnext : periods ⟨key, P, bits, margin⟩ (wordL ⟨key, P, bits, margin⟩ msg) (j * frameN ⟨key, P, bits, margin⟩) (p + 1) Y = stepP margin P (pc ⟨key, P, bits, margin⟩ p) o (psg (wordL ⟨key, P, bits, margin⟩ msg) p) Z := by rw [← hZ, ho, hq]; rfl
      have hsg := psg_is (wordL ⟨key, P, bits, margin⟩ msg) p
      have hci := pc_is ⟨key, P, bits, margin⟩ p
      have hcl : (pc ⟨key, P, bits, margin⟩ p).length = P := pc_len hm p
      have hst : -8388608 ≤ corrTo Z.1 (pc ⟨key, P, bits, margin⟩ p) o P ∧ corrTo Z.1 (pc ⟨key, P, bits, margin⟩ p) o P ≤ 8388608 ∧ -8388608 ≤ psg (wordL ⟨key, P, bits, margin⟩ msg) p * corrTo Z.1 (pc ⟨key, P, bits, margin⟩ p) o P ∧ psg (wordL ⟨key, P, bits, margin⟩ msg) p * corrTo Z.1 (pc ⟨key, P, bits, margin⟩ p) o P ≤ 8388608 := step_bd hok hm hci hcl hg2 hsg
      refine cw_skip ?_
      refine post_then ?_
      refine cw_seq ?_
      refine cw_block ?_
      refine cw_seq ?_
      -- region 11
      refine cw_region ?_
      refine sw_step rfl rfl rfl (OpR.q (q_assign rfl rfl)) ?_
      refine sw_nil ?_
      refine post_then ?_
      refine cw_seq ?_
      refine cw_seq ?_
      -- region 12
      refine cw_region ?_
      refine sw_step rfl rfl rfl (OpR.q (q_move rfl rfl)) ?_
      refine sw_step rfl rfl rfl (OpR.q (q_gtr rfl rfl rfl)) ?_
      refine sw_step rfl rfl rfl (OpR.q (q_move rfl rfl)) ?_
      refine sw_step rfl rfl rfl (OpR.q (q_move rfl rfl)) ?_
      refine sw_step rfl rfl rfl (OpR.q (q_move rfl rfl)) ?_
      refine sw_step rfl rfl rfl (OpR.q (q_sub rfl rfl rfl (by intro hc; omega))) ?_
      refine sw_step rfl rfl rfl (OpR.q (q_index rfl rfl rfl (by exact fun w hw => rd_own hw (by exact .tail _ (.head _))) (by intro hc; (simp only [AllT.iff, List.all_cons, List.all_nil, id, Bool.and_eq_true, Bool.not_eq_true', decide_eq_true_eq, decide_eq_false_iff_not, and_true] at hc; omega)))) ?_
      refine sw_step rfl rfl rfl (OpR.q (q_loadEl rfl rfl rfl (by exact fun w hw => rd_own hw (by exact .tail _ (.head _))) (by intro hc; omega))) ?_
      refine sw_step rfl rfl rfl (OpR.q (q_not rfl rfl)) ?_
      refine sw_step rfl rfl rfl (OpR.q (q_and2 rfl rfl rfl)) ?_
      refine sw_nil ?_
      refine post_then ?_
      -- STOP at: cond
      refine cw_cut (S := Unit) (fun _ => [(0, [], sa.v), (4, [], .pointer (some ⟨b4, 0, none⟩)), (9, [], s22.v), (10, [], s25.v), (11, [], .int .i64 Z.2), (12, [], .int .i64 (frameN ⟨key, P, bits, margin⟩)), (13, [], .int .i64 (j * frameN ⟨key, P, bits, margin⟩ : Nat)), (14, [], .int .i64 p), (15, [], .int .i64 (psg (wordL ⟨key, P, bits, margin⟩ msg) p))])
        (fun _ => Cl w [] [ownL 3 s22.v Z.1, ownL 4 s25.v (wordL ⟨key, P, bits, margin⟩ msg), blk b4 (enc (⟨key, P, bits, margin⟩ : Stamp)) 55]) (fun _ => True) ?_ ?_
      · refine cw_cond rfl (fun h6 => ?_) (fun h6 => ?_)
        · skip
          have h7 : psg (wordL ⟨key, P, bits, margin⟩ msg) p = -1 := by rw [psg_eq, if_pos h6]
          -- region 13
          refine cw_region ?_
          refine sw_step rfl rfl rfl (OpR.q (q_assign rfl rfl)) ?_
          refine sw_nil ?_
          exact post_meet () (by rw [h7]; exact (by exact .cons rfl (.cons rfl (.cons rfl (.cons rfl (.cons rfl (.cons rfl (.cons rfl (.cons rfl (.cons rfl .nil)))))))))) (fun w h => Cl.sel (by exact .take 0 rfl (.take 0 rfl (.take 0 rfl (.nil _)))) w h) trivial
        · skip
          have h7 : psg (wordL ⟨key, P, bits, margin⟩ msg) p = 1 := by rw [psg_eq, if_neg (by rw [h6]; simp)]
          refine cw_skip ?_
          exact post_meet () (by rw [h7]; exact (by exact .cons rfl (.cons rfl (.cons rfl (.cons rfl (.cons rfl (.cons rfl (.cons rfl (.cons rfl (.cons rfl .nil)))))))))) (fun w h => Cl.sel (by exact .take 0 rfl (.take 0 rfl (.take 0 rfl (.nil _)))) w h) trivial
      · intro u _
        generalize psg (wordL ⟨key, P, bits, margin⟩ msg) p = sg at hsg hst hnext
        refine post_then ?_
        refine cw_seq ?_
        -- region 14
        refine cw_region ?_
        refine sw_step rfl rfl rfl (OpR.q (q_loadA rfl rfl (by exact .tail _ (.tail _ (.head _))) rfl)) ?_
        refine sw_step rfl rfl rfl (OpR.q (q_move rfl rfl)) ?_
        -- STOP at: t56  := call {callee=(value F79), args=[t54, t55], argTypes=[55, 3]} :37
        refine sw_x rfl rfl rfl (e_call (CanCall.mk Try.call79) rfl (.cons rfl inferInstance (.cons rfl inferInstance (.nil))) (fun w hw => pcs_spec ⟨key, P, bits, margin⟩ hm p w)) (fun s56 => ?_)
        refine sw_imp fun _ => ?_
        have hrd : ∀ w1 H, Cl w [] (ownL 3 s56.v (chipsL key (2 * (P : Int)).toNat) :: H) w1 → RdL (pcs P (chipsL key (2 * (P : Int)).toNat).length p s56).v (pc ⟨key, P, bits, margin⟩ p) w1 := fun w1 H h1 => pcs_rd hm p (rd_own (e := 3) h1 (by simp))
        have hcor : ∀ w1, Cl w [] [ownL 3 s56.v (chipsL key (2 * (P : Int)).toNat), ownL 3 s22.v Z.1, ownL 4 s25.v (wordL ⟨key, P, bits, margin⟩ msg), blk b4 (enc (⟨key, P, bits, margin⟩ : Stamp)) 55] w1 → Calls Try.prog 80 #[(s22.sub 1 o (o + P)).v, (pcs P (chipsL key (2 * (P : Int)).toNat).length p s56).v] w1 fun e w' => e = .returned (.int .i64 (corrTo Z.1 (pc ⟨key, P, bits, margin⟩ p) o P)) ∧ Cl w1 [] [] w' := fun w1 h1 => by
          have h2 := refCorr_spec (s22.sub 1 o (o + P)).v (pcs P (chipsL key (2 * (P : Int)).toNat).length p s56).v ((Z.1.take (o + P)).drop o) (pc ⟨key, P, bits, margin⟩ p) w1 (stb_sub (stb_own (e := 3) h1 (by simp)) (by omega) (by omega)) ⟨fun w2 k => pcs_rd hm p ((stb_own (e := 3) h1 (by simp)).stb w2 k)⟩ (by simp; omega) (by omega) hci (fun i => by
            by_cases hi : o + i < o + P
            · rw [nth_sub Z.1 _ _ i hi (by omega)]; exact hg2.bd _
            · rw [nth_out _ _ (by simp; omega)]; decide)
          rw [hcl, corr_sub (by omega) P (by omega)] at h2
          exact h2
        refine sw_step rfl rfl rfl (OpR.q (q_assign rfl rfl)) ?_
        refine sw_nil ?_
        refine post_then ?_
        refine cw_seq ?_
        -- region 15
        refine cw_region ?_
        refine sw_step rfl rfl rfl (OpR.q (q_move rfl rfl)) ?_
        refine sw_step rfl rfl rfl (OpR.q (q_move rfl rfl)) ?_
        refine sw_step rfl rfl rfl (OpR.q (q_fieldAddr rfl rfl)) ?_
        refine sw_step rfl rfl rfl (OpR.q (q_loadC rfl rfl (by exact .tail _ (.tail _ (.tail _ (.head _)))) rfl)) ?_
        refine sw_step rfl rfl rfl (OpR.q (q_mul rfl rfl rfl (by intro hc; (simp only [List.length_set, List.length_append, List.length_cons, List.length_nil, List.length_replicate, List.length_take, List.length_drop, List.length_map]; omega)))) ?_
        refine sw_step rfl rfl rfl (OpR.q (q_add rfl rfl rfl (by intro hc; (simp only [List.length_set, List.length_append, List.length_cons, List.length_nil, List.length_replicate, List.length_take, List.length_drop, List.length_map]; omega)))) ?_
        refine sw_step rfl rfl rfl (OpR.q (q_assign rfl rfl)) ?_
        refine sw_nil ?_
        refine post_then ?_
        refine cw_seq ?_
        -- region 16
        refine cw_region ?_
        refine sw_step rfl rfl rfl (OpR.q (q_move rfl rfl)) ?_
        refine sw_step rfl rfl rfl (OpR.q (q_move rfl rfl)) ?_
        refine sw_step rfl rfl rfl (OpR.q (q_move rfl rfl)) ?_
        refine sw_step rfl rfl rfl (OpR.q (q_move rfl rfl)) ?_
        refine sw_step rfl rfl rfl (OpR.q (q_fieldAddr rfl rfl)) ?_
        refine sw_step rfl rfl rfl (OpR.q (q_loadC rfl rfl (by exact .tail _ (.tail _ (.tail _ (.head _)))) rfl)) ?_
        refine sw_step rfl rfl rfl (OpR.q (q_add rfl rfl rfl (by intro hc; (simp only [List.length_set, List.length_append, List.length_cons, List.length_nil, List.length_replicate, List.length_take, List.length_drop, List.length_map]; omega)))) ?_
        refine sw_step rfl rfl rfl (OpR.q (q_slice2 rfl rfl rfl rfl (by exact fun w hw => rd_own hw (by exact .tail _ (.head _))) (by intro hc; (simp only [List.length_set, List.length_append, List.length_cons, List.length_nil, List.length_replicate, List.length_take, List.length_drop, List.length_map]; omega)))) ?_
        refine sw_step rfl rfl rfl (OpR.q (q_move rfl rfl)) ?_
        -- STOP at: t72  := call {callee=(value F80), args=[t70, t71], argTypes=[37, 37]} :3
        rw [hmul, ← Int.natCast_add, ← ho]
        -- STOP at: t72  := call {callee=(value F80), args=[t70, t71], argTypes=[37, 37]} :3
        refine sw_step rfl rfl rfl (q_call (CanCall.mk Try.call80) rfl (.cons rfl inferInstance (.cons rfl inferInstance (.nil))) (fun _ w1 hw => callq hw (hcor w1 ((fun w h => Cl.sel (by exact .take 0 rfl (.take 0 rfl (.take 0 rfl (.take 0 rfl (.nil _))))) w h) _ hw)))) ?_
        refine sw_step rfl rfl rfl (OpR.q (q_mul rfl rfl rfl (by intro hc; omega))) ?_
        refine sw_step rfl rfl rfl (OpR.q (q_assign rfl rfl)) ?_
        refine sw_nil ?_
        refine post_then ?_
        refine cw_seq ?_
        refine cw_seq ?_
        -- region 17
        refine cw_region ?_
        refine sw_step rfl rfl rfl (OpR.q (q_move rfl rfl)) ?_
        refine sw_step rfl rfl rfl (OpR.q (q_fieldAddr rfl rfl)) ?_
        refine sw_step rfl rfl rfl (OpR.q (q_loadC rfl rfl (by exact .tail _ (.tail _ (.tail _ (.head _)))) rfl)) ?_
        refine sw_step rfl rfl rfl (OpR.q (q_geq rfl rfl rfl)) ?_
        refine sw_nil ?_
        refine post_then ?_
        -- STOP at: cond
        refine cw_cond rfl (fun h7 => ?_) (fun h7 => ?_)
        · skip
          have h8 : margin ≤ sg * corrTo Z.1 (pc ⟨key, P, bits, margin⟩ p) o P := by simpa using h7
          rw [stepP, if_pos h8] at hnext
          refine cw_exit ?_
          refine post_then_x ?_
          refine post_blk_eq ?_
          refine post_then ?_
          -- region 10
          refine cw_region ?_
          refine sw_step rfl rfl rfl (OpR.q (q_move rfl rfl)) ?_
          refine sw_step rfl rfl rfl (OpR.q (q_add rfl rfl rfl (by intro hc; omega))) ?_
          refine sw_step rfl rfl rfl (OpR.q (q_assign rfl rfl)) ?_
          refine sw_nil ?_
          exact post_next (p + 1) (by rw [hnext]; exact (by exact .cons rfl (.cons rfl (.cons rfl (.cons rfl (.cons rfl (.cons rfl (.cons rfl (.cons rfl .nil))))))))) (fun w3 hw3 => by rw [hnext]; exact (fun w h => Cl.sel (by exact .take 1 rfl (.take 1 rfl (.take 1 rfl (.nil _)))) w h) _ hw3) (by omega) (by omega)
        · skip
          have h8 : ¬ margin ≤ sg * corrTo Z.1 (pc ⟨key, P, bits, margin⟩ p) o P := by simpa using h7
          rw [stepP, if_neg h8] at hnext
          refine cw_skip ?_
          refine post_then ?_
          refine cw_seq ?_
          -- region 18
          refine cw_region ?_
          refine sw_step rfl rfl rfl (OpR.q (q_fieldAddr rfl rfl)) ?_
          refine sw_step rfl rfl rfl (OpR.q (q_loadC rfl rfl (by exact .tail _ (.tail _ (.tail _ (.head _)))) rfl)) ?_
          refine sw_step rfl rfl rfl (OpR.q (q_move rfl rfl)) ?_
          refine sw_step rfl rfl rfl (OpR.q (q_sub rfl rfl rfl (by intro hc; (simp only [List.length_set, List.length_append, List.length_cons, List.length_nil, List.length_replicate, List.length_take, List.length_drop, List.length_map]; omega)))) ?_
          refine sw_step rfl rfl rfl (OpR.q (q_fieldAddr rfl rfl)) ?_
          refine sw_step rfl rfl rfl (OpR.q (q_loadC rfl rfl (by exact .tail _ (.tail _ (.tail _ (.head _)))) rfl)) ?_
          refine sw_step rfl rfl rfl (OpR.q (q_add rfl rfl rfl (by intro hc; (simp only [List.length_set, List.length_append, List.length_cons, List.length_nil, List.length_replicate, List.length_take, List.length_drop, List.length_map]; omega)))) ?_
          refine sw_step rfl rfl rfl (OpR.q (q_sub rfl rfl rfl (by intro hc; (simp only [List.length_set, List.length_append, List.length_cons, List.length_nil, List.length_replicate, List.length_take, List.length_drop, List.length_map]; omega)))) ?_
          refine sw_step rfl rfl rfl (OpR.q (q_fieldAddr rfl rfl)) ?_
          refine sw_step rfl rfl rfl (OpR.q (q_loadC rfl rfl (by exact .tail _ (.tail _ (.tail _ (.head _)))) rfl)) ?_
          refine sw_step rfl rfl rfl (OpR.q (q_quo rfl rfl rfl (by intro hc; (simp only [List.length_set, List.length_append, List.length_cons, List.length_nil, List.length_replicate, List.length_take, List.length_drop, List.length_map]; omega)))) ?_
          refine sw_step rfl rfl rfl (OpR.q (q_assign rfl rfl)) ?_
          refine sw_nil ?_
          refine post_then ?_
          refine cw_seq ?_
          -- region 19
          refine cw_region ?_
          refine sw_step rfl rfl rfl (OpR.q (q_move rfl rfl)) ?_
          refine sw_step rfl rfl rfl (OpR.q (q_move rfl rfl)) ?_
          refine sw_step rfl rfl rfl (OpR.q (q_max rfl (.cons rfl inferInstance (.cons rfl inferInstance (.nil))))) ?_
          refine sw_step rfl rfl rfl (OpR.q (q_assign rfl rfl)) ?_
          refine sw_nil ?_
          refine post_then ?_
          refine cw_seq ?_
          -- region 20
          refine cw_region ?_
          refine sw_step rfl rfl rfl (OpR.q (q_assign rfl rfl)) ?_
          refine sw_nil ?_
          refine post_then ?_
          refine cw_block ?_
          -- STOP at: loop
          generalize hd : (margin - sg * corrTo Z.1 (pc ⟨key, P, bits, margin⟩ p) o P + P - 1) / (P : Int) = d at hnext
          have hd' : 0 ≤ d ∧ d ≤ 1100000000 := by rw [← hd]; exact quo_bd (by omega) (by omega)
          have hds := mul_pm (B := 1100000000) hsg (x := d) (by omega)
          refine cw_loop (S := Nat) (fun k => [(0, [], sa.v), (4, [], .pointer (some ⟨b4, 0, none⟩)), (9, [], s22.v), (10, [], s25.v), (11, [], .int .i64 (max Z.2 d)), (12, [], .int .i64 (frameN ⟨key, P, bits, margin⟩)), (13, [], .int .i64 (j * frameN ⟨key, P, bits, margin⟩ : Nat)), (14, [], .int .i64 p), (15, [], .int .i64 sg), (16, [], (pcs P (chipsL key (2 * (P : Int)).toNat).length p s56).v), (17, [], .int .i64 o), (19, [], .int .i64 d), (20, [], .int .i64 k)])
            (fun k => Cl w [] [ownL 3 s56.v (chipsL key (2 * (P : Int)).toNat), ownL 3 s22.v (addTo Z.1 (pc ⟨key, P, bits, margin⟩ p) o (d * sg) k), ownL 4 s25.v (wordL ⟨key, P, bits, margin⟩ msg), blk b4 (enc (⟨key, P, bits, margin⟩ : Stamp)) 55]) (fun k => k ≤ P) (fun k => P - k) 0 (by omega) (by rw [← hd]; exact (by exact .cons rfl (.cons rfl (.cons rfl (.cons rfl (.cons rfl (.cons rfl (.cons rfl (.cons rfl (.cons rfl (.cons rfl (.cons rfl (.cons rfl (.cons rfl .nil)))))))))))))) (fun w h => Cl.sel (by exact .take 0 rfl (.take 0 rfl (.take 0 rfl (.take 0 rfl (.nil _))))) w h) ?_
          intro k hk
          have hal := addTo_len Z.1 (pc ⟨key, P, bits, margin⟩ p) o (d * sg) k
          have hnk : nth (addTo Z.1 (pc ⟨key, P, bits, margin⟩ p) o (d * sg) k) (o + k) = nth Z.1 (o + k) := by
            rw [addTo_nth _ _ _ _ _ (by omega), if_neg (by omega)]
          have hbk := hg2.bd (o + k)
          have hrd' : ∀ w1, Cl w [] [ownL 3 s56.v (chipsL key (2 * (P : Int)).toNat), ownL 3 s22.v (addTo Z.1 (pc ⟨key, P, bits, margin⟩ p) o (d * sg) k), ownL 4 s25.v (wordL ⟨key, P, bits, margin⟩ msg), blk b4 (enc (⟨key, P, bits, margin⟩ : Stamp)) 55] w1 → RdL (pcs P (chipsL key (2 * (P : Int)).toNat).length p s56).v (pc ⟨key, P, bits, margin⟩ p) w1 := fun w1 h1 => hrd w1 _ h1
          refine cw_seq ?_
          refine cw_seq ?_
          -- region 21
          refine cw_region ?_
          refine sw_step rfl rfl rfl (OpR.q (q_move rfl rfl)) ?_
          refine sw_step rfl rfl rfl (OpR.q (q_fieldAddr rfl rfl)) ?_
          refine sw_step rfl rfl rfl (OpR.q (q_loadC rfl rfl (by exact .tail _ (.tail _ (.tail _ (.head _)))) rfl)) ?_
          refine sw_step rfl rfl rfl (OpR.q (q_lss rfl rfl rfl)) ?_
          refine sw_nil ?_
          refine post_then ?_
          -- STOP at: cond
          refine cw_cond rfl (fun h9 => ?_) (fun h9 => ?_)
          · skip
            have hk2 : k < P := by simp only [decide_eq_true_eq] at h9; omega
            have hdc := mul_pm (B := 1100000000) (hci k (by omega)) (x := d * sg) (by omega)
            refine cw_skip ?_
            refine post_then ?_
            refine cw_seq ?_
            refine cw_block ?_
            -- region 23
            -- STOP: a region with effects that draws its order
            refine cw_region_a (Cl w [] [ownL 3 s56.v (chipsL key (2 * (P : Int)).toNat), ownL 3 s22.v (addTo Z.1 (pc ⟨key, P, bits, margin⟩ p) o (d * sg) k), ownL 4 s25.v (wordL ⟨key, P, bits, margin⟩ msg), blk b4 (enc (⟨key, P, bits, margin⟩ : Stamp)) 55]) [20] mixed_Try ?_
            refine aw_pure 0 rfl (by kernel_rfl) (by kernel_rfl) (by kernel_rfl) (by kernel_rfl) (by kernel_rfl) rfl rfl rfl (q_move rfl rfl) ?_
            refine aw_pure 1 rfl (by kernel_rfl) (by kernel_rfl) (by kernel_rfl) (by kernel_rfl) (by kernel_rfl) rfl rfl rfl (q_move rfl rfl) ?_
            refine aw_pure 2 rfl (by kernel_rfl) (by kernel_rfl) (by kernel_rfl) (by kernel_rfl) (by kernel_rfl) rfl rfl rfl (q_move rfl rfl) ?_
            refine aw_pure 3 rfl (by kernel_rfl) (by kernel_rfl) (by kernel_rfl) (by kernel_rfl) (by kernel_rfl) rfl rfl rfl (q_add rfl rfl rfl (by intro hc; omega)) ?_
            refine aw_pure 4 rfl (by kernel_rfl) (by kernel_rfl) (by kernel_rfl) (by kernel_rfl) (by kernel_rfl) rfl rfl rfl (q_move rfl rfl) ?_
            refine aw_pure 5 rfl (by kernel_rfl) (by kernel_rfl) (by kernel_rfl) (by kernel_rfl) (by kernel_rfl) rfl rfl rfl (q_move rfl rfl) ?_
            refine aw_pure 6 rfl (by kernel_rfl) (by kernel_rfl) (by kernel_rfl) (by kernel_rfl) (by kernel_rfl) rfl rfl rfl (q_move rfl rfl) ?_
            refine aw_pure 7 rfl (by kernel_rfl) (by kernel_rfl) (by kernel_rfl) (by kernel_rfl) (by kernel_rfl) rfl rfl rfl (q_add rfl rfl rfl (by intro hc; omega)) ?_
            refine aw_take 8 (fun w h => Cl.sel (by exact .take 0 rfl (.take 0 rfl (.take 0 rfl (.take 0 rfl (.nil _))))) w h) rfl (by kernel_rfl) (by kernel_rfl) (by kernel_rfl) (by kernel_rfl) (by kernel_rfl) (by kernel_rfl) rfl rfl rfl (q_indexN rfl rfl rfl (by exact fun w hw => rd_own hw (by exact .tail _ (.head _))) (by intro hc; omega)) ?_
            refine aw_take 9 (fun w h => Cl.sel (by exact .take 0 rfl (.take 0 rfl (.take 0 rfl (.take 0 rfl (.nil _))))) w h) rfl (by kernel_rfl) (by kernel_rfl) (by kernel_rfl) (by kernel_rfl) (by kernel_rfl) (by kernel_rfl) rfl rfl rfl (q_loadEl rfl rfl rfl (by exact fun w hw => rd_own hw (by exact .tail _ (.head _))) (by intro hc; omega)) ?_
            refine aw_pure 10 rfl (by kernel_rfl) (by kernel_rfl) (by kernel_rfl) (by kernel_rfl) (by kernel_rfl) rfl rfl rfl (q_move rfl rfl) ?_
            refine aw_pure 11 rfl (by kernel_rfl) (by kernel_rfl) (by kernel_rfl) (by kernel_rfl) (by kernel_rfl) rfl rfl rfl (q_move rfl rfl) ?_
            refine aw_pure 12 rfl (by kernel_rfl) (by kernel_rfl) (by kernel_rfl) (by kernel_rfl) (by kernel_rfl) rfl rfl rfl (q_mul rfl rfl rfl (by intro hc; omega)) ?_
            refine aw_pure 13 rfl (by kernel_rfl) (by kernel_rfl) (by kernel_rfl) (by kernel_rfl) (by kernel_rfl) rfl rfl rfl (q_move rfl rfl) ?_
            refine aw_pure 14 rfl (by kernel_rfl) (by kernel_rfl) (by kernel_rfl) (by kernel_rfl) (by kernel_rfl) rfl rfl rfl (q_move rfl rfl) ?_
            refine aw_take 15 (fun w h => Cl.sel (by exact .take 0 rfl (.take 0 rfl (.take 0 rfl (.take 0 rfl (.nil _))))) w h) rfl (by kernel_rfl) (by kernel_rfl) (by kernel_rfl) (by kernel_rfl) (by kernel_rfl) (by kernel_rfl) rfl rfl rfl (q_indexN rfl rfl rfl (by assumption) (by intro hc; omega)) ?_
            refine aw_take 16 (fun w h => Cl.sel (by exact .take 0 rfl (.take 0 rfl (.take 0 rfl (.take 0 rfl (.nil _))))) w h) rfl (by kernel_rfl) (by kernel_rfl) (by kernel_rfl) (by kernel_rfl) (by kernel_rfl) (by kernel_rfl) rfl rfl rfl (q_loadEl rfl rfl rfl (by assumption) (by intro hc; omega)) ?_
            refine aw_pure 17 rfl (by kernel_rfl) (by kernel_rfl) (by kernel_rfl) (by kernel_rfl) (by kernel_rfl) rfl rfl rfl (q_mul rfl rfl rfl (by intro hc; omega)) ?_
            refine aw_pure 18 rfl (by kernel_rfl) (by kernel_rfl) (by kernel_rfl) (by kernel_rfl) (by kernel_rfl) rfl rfl rfl (q_add rfl rfl rfl (by intro hc; omega)) ?_
            refine aw_take 19 (fun w h => Cl.sel (by exact .take 0 rfl (.take 0 rfl (.take 0 rfl (.take 0 rfl (.nil _))))) w h) rfl (by kernel_rfl) (by kernel_rfl) (by kernel_rfl) (by kernel_rfl) (by kernel_rfl) (by kernel_rfl) rfl rfl rfl (q_indexN rfl rfl rfl (by exact fun w hw => rd_own hw (by exact .tail _ (.head _))) (by intro hc; omega)) ?_
            refine aw_one0 20 (by kernel_rfl) rfl rfl rfl (e_storeEl1 (i := 1) rfl rfl rfl rfl rfl (by omega)) (by intro hb; (exact absurd hb (by decide))) ?_
            refine aw_end (by kernel_rfl) ?_
            refine post_blk ?_
            refine post_then ?_
            -- region 22
            refine cw_region ?_
            refine sw_step rfl rfl rfl (OpR.q (q_move rfl rfl)) ?_
            refine sw_step rfl rfl rfl (OpR.q (q_add rfl rfl rfl (by intro hc; omega))) ?_
            refine sw_step rfl rfl rfl (OpR.q (q_assign rfl rfl)) ?_
            refine sw_nil ?_
            exact post_next (k + 1) (by exact .cons rfl (.cons rfl (.cons rfl (.cons rfl (.cons rfl (.cons rfl (.cons rfl (.cons rfl (.cons rfl (.cons rfl (.cons rfl (.cons rfl (.cons rfl .nil))))))))))))) (fun _ h => h) (by omega) (by omega)
          · skip
            have hk2 : k = P := by simp only [decide_eq_false_iff_not] at h9; omega
            subst hk2
            refine cw_exit ?_
            refine post_then_x ?_
            refine post_then_x ?_
            refine post_blk_eq ?_
            refine post_blk ?_
            refine post_then ?_
            -- region 10
            refine cw_region ?_
            refine sw_step rfl rfl rfl (OpR.q (q_move rfl rfl)) ?_
            refine sw_step rfl rfl rfl (OpR.q (q_add rfl rfl rfl (by intro hc; omega))) ?_
            refine sw_step rfl rfl rfl (OpR.q (q_assign rfl rfl)) ?_
            refine sw_nil ?_
            exact post_next (p + 1) (by rw [hnext]; exact (by exact .cons rfl (.cons rfl (.cons rfl (.cons rfl (.cons rfl (.cons rfl (.cons rfl (.cons rfl .nil))))))))) (fun w3 hw3 => by rw [hnext]; exact (fun w h => Cl.sel (by exact .take 1 rfl (.take 1 rfl (.take 1 rfl (.nil _)))) w h) _ hw3) (by omega) (by omega)
    · skip
      have hp' : p = bits.toNat + 17 := by simp only [decide_eq_false_iff_not] at h5; omega
      subst hp'
      have hnx : frames ⟨key, P, bits, margin⟩ (wordL ⟨key, P, bits, margin⟩ msg) (j + 1) (a, 0) = Z := by rw [← hZ, ← hY]; rfl
      refine cw_exit ?_
      refine post_then_x ?_
      refine post_then_x ?_
      refine post_blk_eq ?_
      refine post_blk ?_
      refine post_then ?_
      -- region 7
      refine cw_region ?_
      refine sw_step rfl rfl rfl (OpR.q (q_move rfl rfl)) ?_
      refine sw_step rfl rfl rfl (OpR.q (q_move rfl rfl)) ?_
      refine sw_step rfl rfl rfl (OpR.q (q_add rfl rfl rfl (by intro hc; omega))) ?_
      refine sw_step rfl rfl rfl (OpR.q (q_assign rfl rfl)) ?_
      refine sw_nil ?_
      refine post_next (j + 1) (by rw [hnx]; exact (Le.cons rfl (Le.cons rfl (Le.cons rfl (Le.cons rfl (Le.cons rfl (Le.cons rfl (Le.cons' rfl (by rw [Nat.add_mul, Nat.one_mul]; rfl) Le.nil)))))))) (fun w3 hw3 => by rw [hnx]; exact hw3) (by omega) (by omega)
  · skip
    have h4 : j = a.length / frameN ⟨key, P, bits, margin⟩ := by
      have h5 : ¬ j * frameN ⟨key, P, bits, margin⟩ + frameN ⟨key, P, bits, margin⟩ ≤ a.length := by simp only [decide_eq_false_iff_not] at h3; omega
      rw [frame_lt hm] at h5; omega
    have hYL : signL a ⟨key, P, bits, margin⟩ msg = Y := by rw [← hY, h4]; rfl
    rw [hYL]
    refine cw_exit ?_
    refine post_then_x ?_
    refine post_then_x ?_
    refine post_blk_eq ?_
    refine post_then ?_
    refine cw_seq ?_
    -- region 24
    refine cw_region ?_
    refine sw_step rfl rfl rfl (OpR.q (q_move rfl rfl)) ?_
    refine sw_step rfl rfl rfl (OpR.q (q_move rfl rfl)) ?_
    refine sw_step rfl rfl rfl (OpR.q (q_move rfl rfl)) ?_
    refine sw_step rfl rfl rfl (q_call (CanCall.mk Try.call24) rfl (.cons rfl inferInstance (.nil)) (fun _ w hw => callq hw (samples_spec _ _ w (by exact stb_own hw (by exact .head _))))) ?_
    refine sw_step rfl rfl rfl (OpR.q (q_assign rfl rfl)) ?_
    refine sw_step rfl rfl rfl (OpR.q (q_assign rfl rfl)) ?_
    refine sw_step rfl rfl rfl (OpR.q (q_assign rfl rfl)) ?_
    refine sw_nil ?_
    refine post_then ?_
    refine cw_ret ?_
    refine post_ret3 rfl (resOk_tmp rfl) (resOk_tmp rfl) (resOk_tmp rfl) ?_
    exact fun w' hw => ⟨s22, rfl, trivial, (fun w h => Cl.sel (by exact .take 0 rfl (.nil _)) w h) _ hw⟩
end Go.Proofs.Ytekikelejncgeaa
