import Derived.Test.YtekikelejncgeaaZ
set_option autoImplicit false
set_option linter.unusedSimpArgs false
set_option linter.unusedVariables false
set_option maxRecDepth 100000
namespace Go.Proofs.Ytekikelejncgeaa
open Go.Sx
open Enc (enc val)

/-! ### house.Sign's closure -/
theorem nil_depth {d x : Int} (h : 0 ≤ d ∧ d ≤ x) : -x ≤ d ∧ d ≤ x := by omega
theorem period_spec (key bits margin : Int) (P : Nat) (hm : rightS ⟨key, P, bits, margin⟩ = true) (a0 : List Int) (ha : okS a0 = true) (bo bk bd b : Nat) (s s0 : SlV) (c : List Int) (cv : Value) (hc : IsChips c) (hl : c.length = P) (o : Nat) (y : List Int × Int) (hy : Good a0 o y)
    (ho : o + P ≤ a0.length) (hbig : a0.length ≤ 100000) (sg : Int) (hs : sg = 1 ∨ sg = -1) (w : World) (bs : List Nat) (hsep : Sep [blk bo [s.v] 37, ownL 3 s.v y.1, blk bd [.int .i64 y.2] 3] w bs) (hn : bs.Nodup) (hlt : ∀ x ∈ bs, x < w.heap.size)
    (hk : Stb w bs (BlkAt bk [.pointer (some ⟨b, 0, none⟩)] 98)) (hk2 : Stb w bs (BlkAt b (mkC ⟨key, P, bits, margin⟩ s0) 108)) (hcv : Stb w bs (RdL cv c)) :
    Calls Try.prog 73 #[.int .i64 o, cv, .int .i64 sg, .pointer (some ⟨bo, 0, none⟩), .pointer (some ⟨bk, 0, none⟩), .pointer (some ⟨bd, 0, none⟩)] w fun e w' => ∃ x : Unit, e = .returned (.tuple #[]) ∧ True ∧
      Cl w bs [blk bo [s.v] 37, ownL 3 s.v (stepP margin P c o sg y).1, blk bd [.int .i64 (stepP margin P c o sg y).2] 3] w' := by
  have hb := rightS_bd hm
  dsimp only at hb
  obtain ⟨_, ⟨hb3, hb4⟩, _, ⟨hb7, hb8⟩⟩ := hb
  have hyl : y.1.length = a0.length := hy.len
  have hst : -8388608 ≤ corrTo y.1 c o P ∧ corrTo y.1 c o P ≤ 8388608 ∧ -8388608 ≤ sg * corrTo y.1 c o P ∧ sg * corrTo y.1 c o P ≤ 8388608 := step_bd ha hm hc hl hy hs
  have hcor : ∀ w1, Cl w bs [blk bo [s.v] 37, ownL 3 s.v y.1, blk bd [.int .i64 y.2] 3] w1 → Calls Try.prog 74 #[(s.sub 1 o (o + P)).v, cv] w1 fun e w' => e = .returned (.int .i64 (corrTo y.1 c o P)) ∧ Cl w1 [] [] w' := fun w1 h1 => by
    have h2 := corr_spec (s.sub 1 o (o + P)).v cv ((y.1.take (o + P)).drop o) c w1 (stb_sub (stb_own (e := 3) h1 (by simp)) (by omega) (by omega)) (stb_arg h1 hcv) (by simp; omega) (by omega) hc (fun i => by
      by_cases hi : o + i < o + P
      · rw [nth_sub y.1 o (o + P) i hi (by omega)]; exact hy.bd _
      · rw [nth_out _ _ (by simp; omega)]; decide)
    rw [hl, corr_sub (by omega) P (by omega)] at h2
    exact h2
  refine calls_cw (vs := [_, _, _, _, _, _]) Try.func73 rfl Try.ntmps73 rfl (Cl.start hsep hn hlt) ?_
  refine cw_seq ?_
  -- region 0
  refine cw_region_q mixed_Try (by kernel_rfl) ?_
  refine qw_step rfl rfl rfl (OpR.q (q_loadC rfl rfl (by exact .head _) rfl)) ?_
  refine qw_step rfl rfl rfl (OpR.q (q_move rfl rfl)) ?_
  refine qw_step rfl rfl rfl (OpR.q (q_move rfl rfl)) ?_
  refine qw_step rfl rfl rfl (OpR.q (q_loadS rfl rfl (fun w hw => Stb.cl (by assumption) hw) rfl)) ?_
  refine qw_step rfl rfl rfl (OpR.q (q_nilCheck rfl rfl)) ?_
  refine qw_step rfl rfl rfl (OpR.q (q_fieldAddr rfl rfl)) ?_
  refine qw_step rfl rfl rfl (OpR.q (q_fieldAddr rfl rfl)) ?_
  refine qw_step rfl rfl rfl (OpR.q (q_loadS rfl rfl (fun w hw => Stb.cl (by assumption) hw) rfl)) ?_
  refine qw_step rfl rfl rfl (OpR.q (q_add rfl rfl rfl (by intro hc; (simp only [List.length_set, List.length_append, List.length_cons, List.length_nil, List.length_replicate, List.length_take, List.length_drop, List.length_map]; omega)))) ?_
  refine qw_step rfl rfl rfl (OpR.q (q_slice2 rfl rfl rfl rfl (by exact fun w hw => rd_own hw (by exact .tail _ (.head _))) (by intro hc; (simp only [List.length_set, List.length_append, List.length_cons, List.length_nil, List.length_replicate, List.length_take, List.length_drop, List.length_map]; omega)))) ?_
  refine qw_step rfl rfl rfl (OpR.q (q_assign rfl rfl)) ?_
  refine qw_end ?_
  refine post_then ?_
  refine cw_seq ?_
  -- region 1
  -- STOP: a region with effects that draws its order
  -- region 1
  refine cw_region_q mixed_Try (by kernel_rfl) ?_
  refine qw_step rfl rfl rfl (OpR.q (q_loadS rfl rfl (fun w hw => Stb.cl (by assumption) hw) rfl)) ?_
  refine qw_step rfl rfl rfl (OpR.q (q_nilCheck rfl rfl)) ?_
  refine qw_step rfl rfl rfl (OpR.q (q_fieldAddr rfl rfl)) ?_
  refine qw_step rfl rfl rfl (OpR.q (q_fieldAddr rfl rfl)) ?_
  refine qw_step rfl rfl rfl (OpR.q (q_loadS rfl rfl (fun w hw => Stb.cl (by assumption) hw) rfl)) ?_
  refine qw_step rfl rfl rfl (OpR.q (q_move rfl rfl)) ?_
  refine qw_step rfl rfl rfl (OpR.q (q_move rfl rfl)) ?_
  refine qw_step rfl rfl rfl (OpR.q (q_move rfl rfl)) ?_
  -- STOP at: t32  := call {callee=(value F74), args=[t30, t31], argTypes=[37, 37]} :3
  refine qw_step rfl rfl rfl (q_call (CanCall.mk Try.call74) rfl (.cons rfl inferInstance (.cons rfl inferInstance (.nil))) (fun _ w1 hw => callq hw (hcor w1 hw))) ?_
  refine qw_step rfl rfl rfl (OpR.q (q_mul rfl rfl rfl (by intro hc; omega))) ?_
  refine qw_step rfl rfl rfl (OpR.q (q_sub rfl rfl rfl (by intro hc; (simp only [List.length_set, List.length_append, List.length_cons, List.length_nil, List.length_replicate, List.length_take, List.length_drop, List.length_map]; omega)))) ?_
  refine qw_step rfl rfl rfl (OpR.q (q_assign rfl rfl)) ?_
  refine qw_end ?_
  refine post_then ?_
  refine cw_seq ?_
  refine cw_seq ?_
  -- region 2
  refine cw_region ?_
  refine sw_step rfl rfl rfl (OpR.q (q_move rfl rfl)) ?_
  refine sw_step rfl rfl rfl (OpR.q (q_leq rfl rfl rfl)) ?_
  refine sw_nil ?_
  refine post_then ?_
  -- STOP at: cond
  refine cw_cond rfl (fun h => ?_) (fun h => ?_)
  · skip
    have h1 : margin ≤ sg * corrTo y.1 c o P := by simp at h; omega
    refine cw_ret ?_
    refine post_then_r ?_
    refine post_ret0 rfl ?_
    refine fun w' hw => ⟨(), rfl, trivial, ?_⟩
    simp only [stepP, if_pos h1]
    exact hw
  · skip
    have h1 : ¬ margin ≤ sg * corrTo y.1 c o P := by simp at h; omega
    refine cw_skip ?_
    refine post_then ?_
    refine cw_seq ?_
    -- region 3
    refine cw_region_q mixed_Try (by kernel_rfl) ?_
    refine qw_step rfl rfl rfl (OpR.q (q_move rfl rfl)) ?_
    refine qw_step rfl rfl rfl (OpR.q (q_loadS rfl rfl (fun w hw => Stb.cl (by assumption) hw) rfl)) ?_
    refine qw_step rfl rfl rfl (OpR.q (q_nilCheck rfl rfl)) ?_
    refine qw_step rfl rfl rfl (OpR.q (q_fieldAddr rfl rfl)) ?_
    refine qw_step rfl rfl rfl (OpR.q (q_fieldAddr rfl rfl)) ?_
    refine qw_step rfl rfl rfl (OpR.q (q_loadS rfl rfl (fun w hw => Stb.cl (by assumption) hw) rfl)) ?_
    refine qw_step rfl rfl rfl (OpR.q (q_add rfl rfl rfl (by intro hc; (simp only [List.length_set, List.length_append, List.length_cons, List.length_nil, List.length_replicate, List.length_take, List.length_drop, List.length_map]; omega)))) ?_
    refine qw_step rfl rfl rfl (OpR.q (q_sub rfl rfl rfl (by intro hc; (simp only [List.length_set, List.length_append, List.length_cons, List.length_nil, List.length_replicate, List.length_take, List.length_drop, List.length_map]; omega)))) ?_
    refine qw_step rfl rfl rfl (OpR.q (q_loadS rfl rfl (fun w hw => Stb.cl (by assumption) hw) rfl)) ?_
    refine qw_step rfl rfl rfl (OpR.q (q_nilCheck rfl rfl)) ?_
    refine qw_step rfl rfl rfl (OpR.q (q_fieldAddr rfl rfl)) ?_
    refine qw_step rfl rfl rfl (OpR.q (q_fieldAddr rfl rfl)) ?_
    refine qw_step rfl rfl rfl (OpR.q (q_loadS rfl rfl (fun w hw => Stb.cl (by assumption) hw) rfl)) ?_
    refine qw_step rfl rfl rfl (OpR.q (q_quo rfl rfl rfl (by intro hc; (simp only [List.length_set, List.length_append, List.length_cons, List.length_nil, List.length_replicate, List.length_take, List.length_drop, List.length_map]; omega)))) ?_
    refine qw_step rfl rfl rfl (OpR.q (q_assign rfl rfl)) ?_
    refine qw_end ?_
    refine post_then ?_
    refine cw_seq ?_
    -- region 4
    refine cw_region ?_
    refine sw_step rfl rfl rfl (OpR.q (q_loadC rfl rfl (by exact .tail _ (.tail _ (.head _))) rfl)) ?_
    refine sw_step rfl rfl rfl (OpR.q (q_move rfl rfl)) ?_
    refine sw_step rfl rfl rfl (OpR.q (q_max rfl (.cons rfl inferInstance (.cons rfl inferInstance (.nil))))) ?_
    refine sw_eff0 rfl rfl (e_store (i := 2) rfl rfl rfl rfl rfl rfl rfl rfl) ?_
    refine sw_nil ?_
    refine post_then ?_
    refine cw_seq ?_
    -- region 5
    refine cw_region ?_
    refine sw_step rfl rfl rfl (OpR.q (q_move rfl rfl)) ?_
    refine sw_step rfl rfl rfl (OpR.q (q_len rfl (.cons rfl inferInstance (.nil)) (by exact fun w hw => Stb.cl (by assumption) hw))) ?_
    refine sw_step rfl rfl rfl (OpR.q (q_move rfl rfl)) ?_
    refine sw_nil ?_
    refine post_then ?_
    refine cw_block ?_
    -- STOP at: loop
    generalize hd : (margin - sg * corrTo y.1 c o P + P - 1) / (P : Int) = d
    have hd' : 0 ≤ d ∧ d ≤ 1100000000 := by rw [← hd]; exact quo_bd (by omega) (by omega)
    have hds := mul_pm (B := 1100000000) hs (x := d) (by omega)
    refine cw_loop (S := Nat) (fun k => [(2, [], .int .i64 sg), (9, [], (s.sub 1 o (o + P)).v), (11, [], .int .i64 d), (54, [], cv), (55, [], .int .i64 P), (56, [], .int .i64 k)]) (fun k => Cl w bs [blk bo [s.v] 37, ownL 3 s.v (addTo y.1 c o (d * sg) k), blk bd [.int .i64 (max y.2 d)] 3]) (fun k => k ≤ P) (fun k => P - k) 0 (by omega) (Le.cons rfl (Le.cons rfl (Le.cons rfl (Le.cons rfl (Le.cons' rfl (by rw [hl]) (Le.cons rfl Le.nil)))))) (fun _ h => h) ?_
    intro k hk'
    have hal := addTo_len y.1 c o (d * sg) k
    have hnk : nth (addTo y.1 c o (d * sg) k) (o + k) = nth y.1 (o + k) := by rw [addTo_nth _ _ _ _ _ (by omega), if_neg (by omega)]
    have hbk := hy.bd (o + k)
    refine cw_seq ?_
    -- region 6
    refine cw_region ?_
    refine sw_step rfl rfl rfl (OpR.q (q_lss rfl rfl rfl)) ?_
    refine sw_nil ?_
    refine post_then ?_
    refine cw_seq ?_
    -- STOP at: cond
    refine cw_cond rfl (fun h2 => ?_) (fun h2 => ?_)
    · skip
      have hk2 : k < P := by simp only [decide_eq_true_eq] at h2; omega
      have hdc := mul_pm (B := 1100000000) (hc k (by omega)) (x := d * sg) (by omega)
      refine cw_skip ?_
      refine post_then ?_
      refine cw_seq ?_
      refine cw_block ?_
      refine cw_seq ?_
      -- region 7
      refine cw_region ?_
      refine sw_step rfl rfl rfl (OpR.q (q_move rfl rfl)) ?_
      refine sw_step rfl rfl rfl (OpR.q (q_indexN rfl rfl rfl (by exact fun w hw => Stb.cl (by assumption) hw) (by intro hc; omega))) ?_
      refine sw_step rfl rfl rfl (OpR.q (q_loadEl rfl rfl rfl (by exact fun w hw => Stb.cl (by assumption) hw) (by intro hc; omega))) ?_
      refine sw_step rfl rfl rfl (OpR.q (q_assign rfl rfl)) ?_
      refine sw_step rfl rfl rfl (OpR.q (q_assign rfl rfl)) ?_
      refine sw_nil ?_
      refine post_then ?_
      -- region 8
      refine cw_region ?_
      refine sw_step rfl rfl rfl (OpR.q (q_move rfl rfl)) ?_
      refine sw_step rfl rfl rfl (OpR.q (q_move rfl rfl)) ?_
      refine sw_step rfl rfl rfl (OpR.q (q_indexSub rfl rfl rfl (by exact fun w hw => rd_own hw (by exact .tail _ (.head _))) rfl (by intro hc; omega))) ?_
      refine sw_step rfl rfl rfl (OpR.q (q_loadEl rfl rfl rfl (by exact fun w hw => rd_own hw (by exact .tail _ (.head _))) (by intro hc; omega))) ?_
      refine sw_step rfl rfl rfl (OpR.q (q_move rfl rfl)) ?_
      refine sw_step rfl rfl rfl (OpR.q (q_move rfl rfl)) ?_
      refine sw_step rfl rfl rfl (OpR.q (q_mul rfl rfl rfl (by intro hc; omega))) ?_
      refine sw_step rfl rfl rfl (OpR.q (q_move rfl rfl)) ?_
      refine sw_step rfl rfl rfl (OpR.q (q_mul rfl rfl rfl (by intro hc; omega))) ?_
      refine sw_step rfl rfl rfl (OpR.q (q_add rfl rfl rfl (by intro hc; omega))) ?_
      refine sw_step rfl rfl rfl (OpR.q (q_indexSub rfl rfl rfl (by exact fun w hw => rd_own hw (by exact .tail _ (.head _))) rfl (by intro hc; omega))) ?_
      refine sw_eff0 rfl rfl (e_storeEl1 (i := 1) rfl rfl rfl rfl rfl (by omega)) ?_
      refine sw_nil ?_
      refine post_blk ?_
      refine post_then ?_
      -- region 9
      refine cw_region ?_
      refine sw_step rfl rfl rfl (OpR.q (q_add rfl rfl rfl (by intro hc; omega))) ?_
      refine sw_step rfl rfl rfl (OpR.q (q_move rfl rfl)) ?_
      refine sw_nil ?_
      exact post_next (k + 1) (by exact .cons rfl (.cons rfl (.cons rfl (.cons rfl (.cons rfl (.cons rfl .nil)))))) (fun _ h => h) (by omega) (by omega)
    · skip
      have hk2 : k = P := by simp only [decide_eq_false_iff_not] at h2; omega
      subst hk2
      refine cw_exit ?_
      refine post_then_x ?_
      refine post_then_x ?_
      refine post_blk_eq ?_
      refine post_end0 rfl ?_
      refine fun w' hw => ⟨(), rfl, trivial, ?_⟩
      simp only [stepP, if_neg h1, hd]
      exact hw
end Go.Proofs.Ytekikelejncgeaa
