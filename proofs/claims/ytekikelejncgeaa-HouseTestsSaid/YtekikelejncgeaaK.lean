import Derived.Test.YtekikelejncgeaaJ
set_option autoImplicit false
set_option linter.unusedSimpArgs false
set_option linter.unusedVariables false
set_option maxRecDepth 100000
namespace Go.Proofs.Ytekikelejncgeaa
open Go.Sx
open Enc (enc val)

def cntE (x : List Int) (t : Int) : Int := if intsE x = 0 then (if inB t (-100000000000) 100000000000 then 0 else 2) else intsE x
theorem count_spec (sx : SlV) (x : List Int) (t : Int) (w : World) (hx : Stb w [] (RdL sx.v x)) (hl : x.length ≤ 6 ∨ 40 < x.length) :
    Calls Try.prog 28 #[sx.v, .int .i64 t] w fun e w' => ∃ u : Unit, e = .returned (.tuple #[val (if cntE x t = 0 then (⟨countGE x t, 2 ^ x.length⟩ : Chance) else ⟨0, 0⟩), .int .i64 (cntE x t)]) ∧ True ∧ Cl w [] [] w' := by
  refine calls_cw (vs := [_, _]) Try.func28 rfl Try.ntmps28 rfl (Cl.start0 w) ?_
  refine cw_seq ?_
  -- region 0
  refine cw_region ?_
  refine sw_x rfl rfl rfl (e_alloc rfl) (fun b4 => ?_)
  refine sw_step rfl rfl rfl (OpR.q (q_assign rfl rfl)) ?_
  refine sw_nil ?_
  refine post_then ?_
  refine cw_seq ?_
  refine cw_seq ?_
  -- region 1
  refine cw_region ?_
  refine sw_step rfl rfl rfl (OpR.q (q_move rfl rfl)) ?_
  refine sw_step rfl rfl rfl (q_call (CanCall.mk Try.call64) rfl (.cons rfl inferInstance (.nil)) (fun _ w hw => callq hw (integers_spec _ _ w (by exact stb_arg hw (by assumption))))) ?_
  refine sw_step rfl rfl rfl (OpR.q (q_assign rfl rfl)) ?_
  refine sw_nil ?_
  refine post_then ?_
  refine cw_seq ?_
  -- region 2
  refine cw_region ?_
  refine sw_step rfl rfl rfl (OpR.q (q_move rfl rfl)) ?_
  refine sw_step rfl rfl rfl (OpR.q (q_neq rfl rfl rfl)) ?_
  refine sw_nil ?_
  refine post_then ?_
  -- STOP at: cond
  refine cw_cond rfl (fun h => ?_) (fun h => ?_)
  · skip
    have h1 : intsE x ≠ 0 := by simpa using h
    have h2 : cntE x t = intsE x := by simp [cntE, h1]
    refine cw_seq ?_
    -- region 3
    refine cw_region ?_
    refine sw_step rfl rfl rfl (OpR.q (q_build rfl (.nil) rfl)) ?_
    refine sw_step rfl rfl rfl (OpR.q (q_move rfl rfl)) ?_
    refine sw_eff0 rfl rfl (e_store (i := 0) rfl rfl rfl rfl rfl rfl rfl rfl) ?_
    refine sw_step rfl rfl rfl (OpR.q (q_assign rfl rfl)) ?_
    refine sw_nil ?_
    refine post_then ?_
    refine cw_ret ?_
    refine post_then_r ?_
    refine post_ret2 rfl (resOk_blk (x := (⟨0, 0⟩ : Chance)) rfl (by exact .head _) (by rfl)) (resOk_tmp rfl) ?_
    exact fun w' hw => ⟨(), by rw [h2, if_neg h1], trivial, (fun w h => Cl.sel (by exact .nil _) w h) _ hw⟩
  · skip
    have h1 : intsE x = 0 := by simpa using h
    have hx2 : x.length ≤ 40 ∧ ∀ v ∈ x, -1000000000 ≤ v ∧ v ≤ 1000000000 := by
      unfold intsE at h1
      split at h1
      · omega
      · split at h1
        · rename_i h3
          refine ⟨by omega, fun v hv => ?_⟩
          have := List.all_eq_true.1 h3 v hv
          simpa [inB] using this
        · omega
    refine cw_skip ?_
    refine post_then ?_
    refine cw_seq ?_
    refine cw_seq ?_
    -- region 4
    refine cw_region ?_
    refine sw_step rfl rfl rfl (OpR.q (q_move rfl rfl)) ?_
    refine sw_step rfl rfl rfl (q_call (CanCall.mk Try.call52) rfl (.cons rfl inferInstance (.cons rfl inferInstance (.cons rfl inferInstance (.nil)))) (fun _ w hw => callq hw (within_spec _ _ _ w))) ?_
    refine sw_step rfl rfl rfl (OpR.q (q_not rfl rfl)) ?_
    refine sw_nil ?_
    refine post_then ?_
    -- STOP at: cond
    refine cw_cond rfl (fun h3 => ?_) (fun h3 => ?_)
    · skip
      have h2 : cntE x t = 2 := by simp at h3; simp [cntE, h1, h3]
      refine cw_seq ?_
      -- region 5
      refine cw_region ?_
      refine sw_step rfl rfl rfl (OpR.q (q_build rfl (.nil) rfl)) ?_
      refine sw_eff0 rfl rfl (e_store (i := 0) rfl rfl rfl rfl rfl rfl rfl rfl) ?_
      refine sw_step rfl rfl rfl (OpR.q (q_assign rfl rfl)) ?_
      refine sw_nil ?_
      refine post_then ?_
      refine cw_ret ?_
      refine post_then_r ?_
      refine post_ret2 rfl (resOk_blk (x := (⟨0, 0⟩ : Chance)) rfl (by exact .head _) (by rfl)) (resOk_tmp rfl) ?_
      exact fun w' hw => ⟨(), by rw [h2]; rfl, trivial, (fun w h => Cl.sel (by exact .nil _) w h) _ hw⟩
    · skip
      have h2 : cntE x t = 0 := by simp at h3; simp [cntE, h1, h3]
      refine cw_skip ?_
      refine post_then ?_
      refine cw_seq ?_
      -- region 6
      -- STOP: a region with effects that draws its order
      refine cw_region_a (Cl w [] [blk b4 [.int .i64 0, .int .i64 0] 25]) [7] mixed_Try ?_
      refine aw_pure 0 rfl (by kernel_rfl) (by kernel_rfl) (by kernel_rfl) (by kernel_rfl) (by kernel_rfl) rfl rfl rfl (q_move rfl rfl) ?_
      refine aw_pure 1 rfl (by kernel_rfl) (by kernel_rfl) (by kernel_rfl) (by kernel_rfl) (by kernel_rfl) rfl rfl rfl (q_move rfl rfl) ?_
      refine aw_pure 3 rfl (by kernel_rfl) (by kernel_rfl) (by kernel_rfl) (by kernel_rfl) (by kernel_rfl) rfl rfl rfl (q_move rfl rfl) ?_
      refine aw_take 4 (fun w h => Cl.sel (by exact .take 0 rfl (.nil _)) w h) rfl (by kernel_rfl) (by kernel_rfl) (by kernel_rfl) (by kernel_rfl) (by kernel_rfl) (by kernel_rfl) rfl rfl rfl (q_len rfl (.cons rfl inferInstance (.nil)) (by exact fun w hw => Stb.cl (by assumption) hw)) ?_
      refine aw_pure 5 rfl (by kernel_rfl) (by kernel_rfl) (by kernel_rfl) (by kernel_rfl) (by kernel_rfl) rfl rfl rfl (q_shl rfl rfl rfl (by (dsimp only [IntKind.bits]; exact (by intro hc; omega)))) ?_
      -- STOP at: 2 t19  := call {callee=(value F65), args=[t17, t18], argTypes=[37, 3]} :3
      refine aw_x 2 (by kernel_rfl) rfl rfl rfl rfl (e_call (CanCall.mk Try.call65) rfl (.cons rfl inferInstance (.cons rfl inferInstance (.nil))) (fun w hw => atLeast_spec sx x t w (stb_arg hw hx) (by omega) hx2.2)) (by intro hb; exact fun _ w h => (fun w h => Cl.sel (by exact .take 0 rfl (.nil _)) w h) w h.2) (fun u19 => ?_)
      refine aw_imp fun _ => ?_
      refine aw_pure 6 rfl (by kernel_rfl) (by kernel_rfl) (by kernel_rfl) (by kernel_rfl) (by kernel_rfl) rfl rfl rfl (q_build rfl (.cons rfl inferInstance (.cons rfl inferInstance (.nil))) rfl) ?_
      refine aw_one0 7 (by kernel_rfl) rfl rfl rfl (e_store (i := 0) rfl rfl rfl rfl rfl rfl rfl rfl) (by intro hb; (exact absurd hb (by decide))) ?_
      refine aw_pure 8 rfl (by kernel_rfl) (by kernel_rfl) (by kernel_rfl) (by kernel_rfl) (by kernel_rfl) rfl rfl rfl (q_assign rfl rfl) ?_
      refine aw_end (by kernel_rfl) ?_
      refine post_then ?_
      refine cw_ret ?_
      refine post_ret2 rfl (resOk_blk (x := (⟨countGE x t, IntKind.i64.wrap (1 * 2 ^ ((x.length : Int)).toNat)⟩ : Chance)) rfl (by exact .head _) (by rfl)) (resOk_tmp rfl) ?_
      have h4 : IntKind.i64.wrap (1 * 2 ^ ((x.length : Int)).toNat) = 2 ^ x.length := by
        have h5 : (2 : Int) ^ x.length ≤ 2 ^ 40 := two_pow_le (by omega)
        have h6 : (0 : Int) ≤ 2 ^ x.length := Int.pow_nonneg (by decide)
        rw [Int.one_mul, Int.toNat_natCast]
        simp only [IntKind.wrap, IntKind.signed, IntKind.bits]
        generalize (2 : Int) ^ x.length = z at h5 h6
        simp
        omega
      exact fun w' hw => ⟨(), by rw [h2, if_pos rfl, h4], trivial, (fun w h => Cl.sel (by exact .nil _) w h) _ hw⟩
end Go.Proofs.Ytekikelejncgeaa
