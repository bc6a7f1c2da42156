import Derived.Test.YtekikelejncgeaaM
import Derived.Laws.Bits64b
set_option autoImplicit false
set_option linter.unusedSimpArgs false
set_option linter.unusedVariables false
set_option maxRecDepth 100000
namespace Go.Proofs.Ytekikelejncgeaa
open Go.Sx
open Enc (enc val)

/-! ### Holm: comparing chances -/
theorem isNaN64_spec (x : Int) (w : World) : Calls Try.prog 99 #[.int .u64 x] w fun e w' => e = .returned (.bool false) ∧ Cl w [] [] w' := by
  refine calls_cw (vs := [_]) Try.func99 rfl Try.ntmps99 rfl (Cl.start0 w) ?_
  refine cw_seq ?_
  -- region 0
  refine cw_region ?_
  refine sw_step rfl rfl rfl (OpR.q (q_assign rfl rfl)) ?_
  refine sw_nil ?_
  refine post_then ?_
  refine cw_seq ?_
  -- region 1
  refine cw_region ?_
  refine sw_step rfl rfl rfl (OpR.q (q_move rfl rfl)) ?_
  refine sw_step rfl rfl rfl (OpR.q (q_move rfl rfl)) ?_
  refine sw_step rfl rfl rfl (OpR.q (q_neq rfl rfl rfl)) ?_
  refine sw_step rfl rfl rfl (OpR.q (q_assign rfl rfl)) ?_
  refine sw_nil ?_
  refine post_then ?_
  refine cw_ret ?_
  refine post_ret1 rfl (resOk_tmp rfl) ?_
  exact fun w' hw => ⟨by simp, hw⟩
def cmp3 (x y : Int) : Int := if x < y then -1 else if y < x then 1 else 0
theorem compare_spec (x y : Int) (w : World) : Calls Try.prog 89 #[.int .u64 x, .int .u64 y] w fun e w' => e = .returned (.int .i64 (cmp3 x y)) ∧ Cl w [] [] w' := by
  refine calls_cw (vs := [_, _]) Try.func89 rfl Try.ntmps89 rfl (Cl.start0 w) ?_
  refine cw_seq ?_
  -- region 0
  refine cw_region ?_
  refine sw_step rfl rfl rfl (OpR.q (q_assign rfl rfl)) ?_
  refine sw_nil ?_
  refine post_then ?_
  refine cw_seq ?_
  -- region 1
  refine cw_region ?_
  refine sw_step rfl rfl rfl (OpR.q (q_move rfl rfl)) ?_
  refine sw_step rfl rfl rfl (q_call (CanCall.mk Try.call99) rfl (.cons rfl inferInstance (.nil)) (fun _ w hw => callq hw (isNaN64_spec _ w))) ?_
  refine sw_step rfl rfl rfl (OpR.q (q_assign rfl rfl)) ?_
  refine sw_nil ?_
  refine post_then ?_
  refine cw_seq ?_
  -- region 2
  refine cw_region ?_
  refine sw_step rfl rfl rfl (OpR.q (q_move rfl rfl)) ?_
  refine sw_step rfl rfl rfl (q_call (CanCall.mk Try.call99) rfl (.cons rfl inferInstance (.nil)) (fun _ w hw => callq hw (isNaN64_spec _ w))) ?_
  refine sw_step rfl rfl rfl (OpR.q (q_assign rfl rfl)) ?_
  refine sw_nil ?_
  refine post_then ?_
  refine cw_seq ?_
  refine cw_seq ?_
  -- region 3
  refine cw_region ?_
  refine sw_step rfl rfl rfl (OpR.q (q_move rfl rfl)) ?_
  refine sw_nil ?_
  refine post_then ?_
  -- STOP at: cond
  refine cw_cond rfl (fun h => ?_) (fun h => ?_)
  · skip
    cases h
  · skip
    refine cw_skip ?_
    refine post_then ?_
    refine cw_seq ?_
    refine cw_seq ?_
    -- region 7
    refine cw_region ?_
    refine sw_step rfl rfl rfl (OpR.q (q_move rfl rfl)) ?_
    refine sw_nil ?_
    refine post_then ?_
    -- STOP at: cond
    refine cw_cond rfl (fun h2 => ?_) (fun h2 => ?_)
    · skip
      cases h2
    · skip
      refine cw_skip ?_
      refine post_then ?_
      refine cw_seq ?_
      refine cw_seq ?_
      -- region 9
      refine cw_region ?_
      refine sw_step rfl rfl rfl (OpR.q (q_move rfl rfl)) ?_
      refine sw_step rfl rfl rfl (OpR.q (q_move rfl rfl)) ?_
      refine sw_step rfl rfl rfl (OpR.q (q_lss rfl rfl rfl)) ?_
      refine sw_nil ?_
      refine post_then ?_
      -- STOP at: cond
      refine cw_cond rfl (fun h3 => ?_) (fun h3 => ?_)
      · skip
        have h4 : x < y := by simpa using h3
        refine cw_seq ?_
        -- region 10
        refine cw_region ?_
        refine sw_step rfl rfl rfl (OpR.q (q_assign rfl rfl)) ?_
        refine sw_nil ?_
        refine post_then ?_
        refine cw_ret ?_
        refine post_then_r ?_
        refine post_ret1 rfl (resOk_tmp rfl) ?_
        exact fun w' hw => ⟨by simp [cmp3, h4], hw⟩
      · skip
        have h4 : ¬ x < y := by simpa using h3
        refine cw_skip ?_
        refine post_then ?_
        refine cw_seq ?_
        refine cw_seq ?_
        -- region 11
        refine cw_region ?_
        refine sw_step rfl rfl rfl (OpR.q (q_move rfl rfl)) ?_
        refine sw_step rfl rfl rfl (OpR.q (q_move rfl rfl)) ?_
        refine sw_step rfl rfl rfl (OpR.q (q_gtr rfl rfl rfl)) ?_
        refine sw_nil ?_
        refine post_then ?_
        -- STOP at: cond
        refine cw_cond rfl (fun h5 => ?_) (fun h5 => ?_)
        · skip
          have h6 : y < x := by simpa using h5
          refine cw_seq ?_
          -- region 12
          refine cw_region ?_
          refine sw_step rfl rfl rfl (OpR.q (q_assign rfl rfl)) ?_
          refine sw_nil ?_
          refine post_then ?_
          refine cw_ret ?_
          refine post_then_r ?_
          refine post_ret1 rfl (resOk_tmp rfl) ?_
          exact fun w' hw => ⟨by simp [cmp3, h4, h6], hw⟩
        · skip
          have h6 : ¬ y < x := by simpa using h5
          refine cw_skip ?_
          refine post_then ?_
          refine cw_seq ?_
          -- region 13
          refine cw_region ?_
          refine sw_step rfl rfl rfl (OpR.q (q_assign rfl rfl)) ?_
          refine sw_nil ?_
          refine post_then ?_
          refine cw_ret ?_
          refine post_ret1 rfl (resOk_tmp rfl) ?_
          exact fun w' hw => ⟨by simp [cmp3, h4, h6], hw⟩
def orL : List Int → Int
  | [] => 0
  | v :: l => if v = 0 then orL l else v
theorem or_spec (sv : Value) (l : List Int) (w : World) (hs : Stb w [] (RdL sv l)) : Calls Try.prog 88 #[sv] w fun e w' => e = .returned (.int .i64 (orL l)) ∧ Cl w [] [] w' := by
  refine calls_cw (vs := [_]) Try.func88 rfl Try.ntmps88 rfl (Cl.start0 w) ?_
  have hlen := rd_len hs.here
  refine cw_seq ?_
  -- region 0
  refine cw_region ?_
  refine sw_step rfl rfl rfl (OpR.q (q_assign rfl rfl)) ?_
  refine sw_nil ?_
  refine post_then ?_
  refine cw_seq ?_
  -- region 1
  refine cw_region ?_
  refine sw_step rfl rfl rfl (OpR.q (q_assign rfl rfl)) ?_
  refine sw_nil ?_
  refine post_then ?_
  refine cw_seq ?_
  refine cw_seq ?_
  -- region 2
  refine cw_region ?_
  refine sw_step rfl rfl rfl (OpR.q (q_move rfl rfl)) ?_
  refine sw_step rfl rfl rfl (OpR.q (q_len rfl (.cons rfl inferInstance (.nil)) (by exact fun w hw => Stb.cl (by assumption) hw))) ?_
  refine sw_step rfl rfl rfl (OpR.q (q_move rfl rfl)) ?_
  refine sw_nil ?_
  refine post_then ?_
  refine cw_block ?_
  -- STOP at: loop
  refine cw_loop (S := Nat) (fun k => [(3, [], .int .i64 0), (6, [], sv), (7, [], .int .i64 l.length), (8, [], .int .i64 k)]) (fun _ => Cl w [] []) (fun k => k ≤ l.length ∧ orL l = orL (l.drop k)) (fun k => l.length - k) 0 (by simp) (by exact .cons rfl (.cons rfl (.cons rfl (.cons rfl .nil)))) (fun _ h => h) ?_
  rintro k ⟨hk, ho⟩
  dsimp only
  refine cw_seq ?_
  -- region 3
  refine cw_region ?_
  refine sw_step rfl rfl rfl (OpR.q (q_lss rfl rfl rfl)) ?_
  refine sw_nil ?_
  refine post_then ?_
  refine cw_seq ?_
  -- STOP at: cond
  refine cw_cond rfl (fun h => ?_) (fun h => ?_)
  · skip
    have hk' : k < l.length := by simp at h; omega
    have e1 : l.drop k = nth l k :: l.drop (k + 1) := by rw [List.drop_eq_getElem_cons hk', nth_get hk']
    rw [e1, orL] at ho
    refine cw_skip ?_
    refine post_then ?_
    refine cw_seq ?_
    refine cw_block ?_
    refine cw_seq ?_
    -- region 4
    refine cw_region ?_
    refine sw_step rfl rfl rfl (OpR.q (q_indexN rfl rfl rfl (by exact fun w hw => Stb.cl (by assumption) hw) (by intro hc; omega))) ?_
    refine sw_step rfl rfl rfl (OpR.q (q_loadEl rfl rfl rfl (by exact fun w hw => Stb.cl (by assumption) hw) (by intro hc; omega))) ?_
    refine sw_step rfl rfl rfl (OpR.q (q_assign rfl rfl)) ?_
    refine sw_nil ?_
    refine post_then ?_
    refine cw_seq ?_
    -- region 5
    refine cw_region ?_
    refine sw_step rfl rfl rfl (OpR.q (q_move rfl rfl)) ?_
    refine sw_step rfl rfl rfl (OpR.q (q_move rfl rfl)) ?_
    refine sw_step rfl rfl rfl (OpR.q (q_neq rfl rfl rfl)) ?_
    refine sw_nil ?_
    refine post_then ?_
    -- STOP at: cond
    refine cw_cond rfl (fun h2 => ?_) (fun h2 => ?_)
    · skip
      have h3 : ¬ nth l k = 0 := by simpa using h2
      rw [if_neg h3] at ho
      refine cw_seq ?_
      -- region 6
      refine cw_region ?_
      refine sw_step rfl rfl rfl (OpR.q (q_move rfl rfl)) ?_
      refine sw_step rfl rfl rfl (OpR.q (q_assign rfl rfl)) ?_
      refine sw_nil ?_
      refine post_then ?_
      refine cw_ret ?_
      refine post_blk_r ?_
      refine post_then_r ?_
      refine post_then_r ?_
      refine post_blk_r ?_
      refine post_then_r ?_
      refine post_ret1 rfl (resOk_tmp rfl) ?_
      exact fun w' hw => ⟨by rw [ho]; rfl, hw⟩
    · skip
      have h3 : nth l k = 0 := by simpa using h2
      rw [if_pos h3] at ho
      refine cw_skip ?_
      refine post_blk ?_
      refine post_then ?_
      -- region 7
      refine cw_region ?_
      refine sw_step rfl rfl rfl (OpR.q (q_add rfl rfl rfl (by intro hc; omega))) ?_
      refine sw_step rfl rfl rfl (OpR.q (q_move rfl rfl)) ?_
      refine sw_nil ?_
      exact post_next (k + 1) (by exact .cons rfl (.cons rfl (.cons rfl (.cons rfl .nil)))) (fun _ h => h) ⟨by omega, ho⟩ (by omega)
  · skip
    have hk' : k = l.length := by simp at h; omega
    rw [hk', List.drop_length] at ho
    refine cw_exit ?_
    refine post_then_x ?_
    refine post_then_x ?_
    refine post_blk_eq ?_
    refine post_then ?_
    refine cw_seq ?_
    -- region 8
    refine cw_region ?_
    refine sw_step rfl rfl rfl (OpR.q (q_move rfl rfl)) ?_
    refine sw_step rfl rfl rfl (OpR.q (q_assign rfl rfl)) ?_
    refine sw_nil ?_
    refine post_then ?_
    refine cw_ret ?_
    refine post_ret1 rfl (resOk_tmp rfl) ?_
    exact fun w' hw => ⟨by rw [ho]; rfl, hw⟩

theorem wrap64 (z : Int) : IntKind.u64.wrap z = z % 18446744073709551616 := rfl
theorem wrap_id {z : Int} (h : 0 ≤ z ∧ z < 18446744073709551616) : IntKind.u64.wrap z = z := by rw [wrap64]; omega
theorem and32 (x : Int) (h : 0 ≤ x ∧ x < 18446744073709551616) : bits .and .u64 x 4294967295 = x % 4294967296 := by
  obtain ⟨n, rfl⟩ := Int.eq_ofNat_of_zero_le h.1
  have h1 := bits_and_u64_nat n 4294967295 (by omega) (by decide)
  have h2 : n &&& 4294967295 = n % 4294967296 := Nat.and_two_pow_sub_one_eq_mod n 32
  rw [h2] at h1
  show bits .and .u64 (n : Int) ((4294967295 : Nat) : Int) = _
  rw [h1]
  omega
theorem prod_bd {a b : Int} (ha : 0 ≤ a ∧ a ≤ 4294967295) (hb : 0 ≤ b ∧ b ≤ 4294967295) : 0 ≤ a * b ∧ a * b ≤ 18446744065119617025 :=
  ⟨Int.mul_nonneg ha.1 hb.1, Int.le_trans (Int.mul_le_mul ha.2 hb.2 hb.1 (by decide)) (by decide)⟩
theorem mul4 (a b c d : Int) : a * b * (c * d) = a * c * (b * d) := by
  rw [Int.mul_assoc, Int.mul_assoc, Int.mul_left_comm b c d]
theorem mul64_law (x y : Int) (hx : 0 ≤ x ∧ x < 18446744073709551616) (hy : 0 ≤ y ∧ y < 18446744073709551616) {x0 x1 y0 y1 t : Int} (e0 : x0 = x % 4294967296) (e1 : x1 = x / 4294967296) (f0 : y0 = y % 4294967296) (f1 : y1 = y / 4294967296)
    (ht : t = IntKind.u64.wrap (IntKind.u64.wrap (x1 * y0) + IntKind.u64.wrap (x0 * y0) / 4294967296)) :
    IntKind.u64.wrap (IntKind.u64.wrap (IntKind.u64.wrap (x1 * y1) + t / 4294967296) + IntKind.u64.wrap (bits .and .u64 t 4294967295 + IntKind.u64.wrap (x0 * y1)) / 4294967296) = x * y / 18446744073709551616 := by
  have b00 := prod_bd (a := x0) (b := y0) (by omega) (by omega)
  have b01 := prod_bd (a := x0) (b := y1) (by omega) (by omega)
  have b10 := prod_bd (a := x1) (b := y0) (by omega) (by omega)
  have b11 := prod_bd (a := x1) (b := y1) (by omega) (by omega)
  have hxy : x * y = x1 * y1 * 18446744073709551616 + (x1 * y0 + x0 * y1) * 4294967296 + x0 * y0 := by
    have hx' : x = x1 * 4294967296 + x0 := by omega
    have hy' : y = y1 * 4294967296 + y0 := by omega
    rw [hx', hy', Int.add_mul, Int.mul_add, Int.mul_add, mul4 x1 4294967296 y1 4294967296, Int.mul_right_comm x1 4294967296 y0, ← Int.mul_assoc x0 y1 4294967296]
    omega
  rw [hxy]
  generalize x0 * y0 = p00 at *
  generalize x0 * y1 = p01 at *
  generalize x1 * y0 = p10 at *
  generalize x1 * y1 = p11 at *
  rw [wrap_id (z := p10) (by omega), wrap_id (z := p00) (by omega), wrap_id (by omega)] at ht
  rw [wrap_id (z := p11) (by omega), wrap_id (z := p01) (by omega), and32 t (by omega), wrap_id (z := p11 + t / 4294967296) (by omega), wrap_id (z := t % 4294967296 + p01) (by omega), wrap_id (by omega)]
  omega
theorem mul64_spec (x y : Int) (hx : 0 ≤ x ∧ x < 18446744073709551616) (hy : 0 ≤ y ∧ y < 18446744073709551616) (w : World) :
    Calls Try.prog 87 #[.int .u64 x, .int .u64 y] w fun e w' => e = .returned (.tuple #[.int .u64 (x * y / 18446744073709551616), .int .u64 (x * y % 18446744073709551616)]) ∧ Cl w [] [] w' := by
  refine calls_cw (vs := [_, _]) Try.func87 rfl Try.ntmps87 rfl (Cl.start0 w) ?_
  refine cw_seq ?_
  -- region 0
  refine cw_region ?_
  refine sw_step rfl rfl rfl (OpR.q (q_assign rfl rfl)) ?_
  refine sw_step rfl rfl rfl (OpR.q (q_assign rfl rfl)) ?_
  refine sw_nil ?_
  refine post_then ?_
  refine cw_seq ?_
  -- region 1
  refine cw_region ?_
  refine sw_step rfl rfl rfl (OpR.q (q_move rfl rfl)) ?_
  refine sw_step rfl rfl rfl (OpR.q (q_and rfl rfl rfl)) ?_
  refine sw_step rfl rfl rfl (OpR.q (q_assign rfl rfl)) ?_
  refine sw_nil ?_
  refine post_then ?_
  refine cw_seq ?_
  -- region 2
  refine cw_region ?_
  refine sw_step rfl rfl rfl (OpR.q (q_move rfl rfl)) ?_
  refine sw_step rfl rfl rfl (OpR.q (q_shr rfl rfl rfl (by exact fun _ => ⟨by decide, by decide⟩))) ?_
  refine sw_step rfl rfl rfl (OpR.q (q_assign rfl rfl)) ?_
  refine sw_nil ?_
  refine post_then ?_
  refine cw_seq ?_
  -- region 3
  refine cw_region ?_
  refine sw_step rfl rfl rfl (OpR.q (q_move rfl rfl)) ?_
  refine sw_step rfl rfl rfl (OpR.q (q_and rfl rfl rfl)) ?_
  refine sw_step rfl rfl rfl (OpR.q (q_assign rfl rfl)) ?_
  refine sw_nil ?_
  refine post_then ?_
  refine cw_seq ?_
  -- region 4
  refine cw_region ?_
  refine sw_step rfl rfl rfl (OpR.q (q_move rfl rfl)) ?_
  refine sw_step rfl rfl rfl (OpR.q (q_shr rfl rfl rfl (by exact fun _ => ⟨by decide, by decide⟩))) ?_
  refine sw_step rfl rfl rfl (OpR.q (q_assign rfl rfl)) ?_
  refine sw_nil ?_
  refine post_then ?_
  refine cw_seq ?_
  -- region 5
  refine cw_region ?_
  refine sw_step rfl rfl rfl (OpR.q (q_move rfl rfl)) ?_
  refine sw_step rfl rfl rfl (OpR.q (q_move rfl rfl)) ?_
  refine sw_step rfl rfl rfl (OpR.q (q_mul_w rfl rfl rfl)) ?_
  refine sw_step rfl rfl rfl (OpR.q (q_assign rfl rfl)) ?_
  refine sw_nil ?_
  refine post_then ?_
  refine cw_seq ?_
  -- region 6
  refine cw_region ?_
  refine sw_step rfl rfl rfl (OpR.q (q_move rfl rfl)) ?_
  refine sw_step rfl rfl rfl (OpR.q (q_move rfl rfl)) ?_
  refine sw_step rfl rfl rfl (OpR.q (q_mul_w rfl rfl rfl)) ?_
  refine sw_step rfl rfl rfl (OpR.q (q_move rfl rfl)) ?_
  refine sw_step rfl rfl rfl (OpR.q (q_shr rfl rfl rfl (by exact fun _ => ⟨by decide, by decide⟩))) ?_
  refine sw_step rfl rfl rfl (OpR.q (q_add_w rfl rfl rfl)) ?_
  refine sw_step rfl rfl rfl (OpR.q (q_assign rfl rfl)) ?_
  refine sw_nil ?_
  refine post_then ?_
  refine cw_seq ?_
  -- region 7
  refine cw_region ?_
  refine sw_step rfl rfl rfl (OpR.q (q_move rfl rfl)) ?_
  refine sw_step rfl rfl rfl (OpR.q (q_and rfl rfl rfl)) ?_
  refine sw_step rfl rfl rfl (OpR.q (q_assign rfl rfl)) ?_
  refine sw_nil ?_
  refine post_then ?_
  refine cw_seq ?_
  -- region 8
  refine cw_region ?_
  refine sw_step rfl rfl rfl (OpR.q (q_move rfl rfl)) ?_
  refine sw_step rfl rfl rfl (OpR.q (q_shr rfl rfl rfl (by exact fun _ => ⟨by decide, by decide⟩))) ?_
  refine sw_step rfl rfl rfl (OpR.q (q_assign rfl rfl)) ?_
  refine sw_nil ?_
  refine post_then ?_
  refine cw_seq ?_
  -- region 9
  refine cw_region ?_
  refine sw_step rfl rfl rfl (OpR.q (q_move rfl rfl)) ?_
  refine sw_step rfl rfl rfl (OpR.q (q_move rfl rfl)) ?_
  refine sw_step rfl rfl rfl (OpR.q (q_move rfl rfl)) ?_
  refine sw_step rfl rfl rfl (OpR.q (q_mul_w rfl rfl rfl)) ?_
  refine sw_step rfl rfl rfl (OpR.q (q_add_w rfl rfl rfl)) ?_
  refine sw_step rfl rfl rfl (OpR.q (q_assign rfl rfl)) ?_
  refine sw_nil ?_
  refine post_then ?_
  refine cw_seq ?_
  -- region 10
  refine cw_region ?_
  refine sw_step rfl rfl rfl (OpR.q (q_move rfl rfl)) ?_
  refine sw_step rfl rfl rfl (OpR.q (q_move rfl rfl)) ?_
  refine sw_step rfl rfl rfl (OpR.q (q_mul_w rfl rfl rfl)) ?_
  refine sw_step rfl rfl rfl (OpR.q (q_move rfl rfl)) ?_
  refine sw_step rfl rfl rfl (OpR.q (q_add_w rfl rfl rfl)) ?_
  refine sw_step rfl rfl rfl (OpR.q (q_move rfl rfl)) ?_
  refine sw_step rfl rfl rfl (OpR.q (q_shr rfl rfl rfl (by exact fun _ => ⟨by decide, by decide⟩))) ?_
  refine sw_step rfl rfl rfl (OpR.q (q_add_w rfl rfl rfl)) ?_
  refine sw_step rfl rfl rfl (OpR.q (q_assign rfl rfl)) ?_
  refine sw_nil ?_
  refine post_then ?_
  refine cw_seq ?_
  -- region 11
  refine cw_region ?_
  refine sw_step rfl rfl rfl (OpR.q (q_move rfl rfl)) ?_
  refine sw_step rfl rfl rfl (OpR.q (q_move rfl rfl)) ?_
  refine sw_step rfl rfl rfl (OpR.q (q_mul_w rfl rfl rfl)) ?_
  refine sw_step rfl rfl rfl (OpR.q (q_assign rfl rfl)) ?_
  refine sw_nil ?_
  refine post_then ?_
  refine cw_ret ?_
  refine post_ret2 rfl (resOk_tmp rfl) (resOk_tmp rfl) ?_
  refine fun w' hw => ⟨?_, hw⟩
  have e32 : (2 : Int) ^ Int.toNat 32 = 4294967296 := by decide
  rw [e32, and32 x hx, and32 y hy, mul64_law x y hx hy rfl rfl rfl rfl rfl, wrap64]
end Go.Proofs.Ytekikelejncgeaa
