import Derived.Test.YtekikelejncgeaaK
set_option autoImplicit false
set_option linter.unusedSimpArgs false
set_option linter.unusedVariables false
set_option maxRecDepth 100000
namespace Go.Proofs.Ytekikelejncgeaa
open Go.Sx
open Enc (enc val)

/-! ### the sign test -/
def bin : Nat → Nat → Nat
  | _, 0 => 1
  | 0, _ + 1 => 0
  | n + 1, k + 1 => bin n k + bin n (k + 1)
theorem bin_out : ∀ n k, n < k → bin n k = 0
  | _, 0, h => by omega
  | 0, _ + 1, _ => rfl
  | n + 1, k + 1, h => by simp only [bin]; rw [bin_out n k (by omega), bin_out n (k + 1) (by omega)]
theorem bin_step : ∀ n k, k ≤ n → bin n (k + 1) * (k + 1) = bin n k * (n - k)
  | 0, 0, _ => rfl
  | 0, k + 1, h => by omega
  | n + 1, 0, _ => by
    have := bin_step n 0 (by omega)
    simp only [bin, Nat.sub_zero, Nat.one_mul, Nat.mul_one, Nat.zero_add] at this ⊢
    omega
  | n + 1, k + 1, h => by
    have i1 := bin_step n k (by omega)
    by_cases hk : k + 1 ≤ n
    · have i2 := bin_step n (k + 1) hk
      obtain ⟨d, rfl⟩ : ∃ d, n = k + 1 + d := ⟨n - (k + 1), by omega⟩
      have e1 : k + 1 + d - (k + 1) = d := by omega
      have e2 : k + 1 + d - k = d + 1 := by omega
      have e3 : k + 1 + d + 1 - (k + 1) = d + 1 := by omega
      rw [e1] at i2
      rw [e2] at i1
      rw [e3]
      simp only [bin]
      have h1 : (bin (k + 1 + d) (k + 1) + bin (k + 1 + d) (k + 1 + 1)) * (k + 1 + 1) = bin (k + 1 + d) (k + 1) * (k + 1) + bin (k + 1 + d) (k + 1) + bin (k + 1 + d) (k + 1 + 1) * (k + 1 + 1) := by
        rw [Nat.add_mul, Nat.mul_add (bin (k + 1 + d) (k + 1)), Nat.mul_one]
      rw [h1, i1, i2, Nat.add_mul, Nat.mul_add (bin (k + 1 + d) (k + 1)), Nat.mul_one]
      omega
    · have hk' : k = n := by omega
      subst hk'
      have e3 : k + 1 - (k + 1) = 0 := by omega
      rw [e3, Nat.mul_zero]
      simp only [bin]
      rw [bin_out k (k + 1) (by omega), bin_out k (k + 1 + 1) (by omega)]
      simp
theorem bin_le : ∀ n k, bin n k ≤ 2 ^ n
  | n, 0 => by simp only [bin]; exact Nat.one_le_two_pow
  | 0, _ + 1 => by simp [bin]
  | n + 1, k + 1 => by
    have h1 := bin_le n k
    have h2 := bin_le n (k + 1)
    simp only [bin, Nat.pow_succ]; omega
def offOf (k n : Int) : Int := max (2 * k - n) (n - 2 * k)
def signsTo (wins n : Int) (m : Nat) : Nat → Int
  | 0 => 0
  | k + 1 => signsTo wins n m k + (if offOf wins n ≤ offOf k n then bin m k else 0)
theorem signsTo_bd (wins n : Int) (m : Nat) (hm : m ≤ 40) : ∀ k, 0 ≤ signsTo wins n m k ∧ signsTo wins n m k ≤ 1099511627776 * k
  | 0 => by simp [signsTo]
  | k + 1 => by
    have h := signsTo_bd wins n m hm k
    have h1 := bin_le m k
    have h2 : 2 ^ m ≤ 2 ^ 40 := Nat.pow_le_pow_right (by decide) hm
    simp only [signsTo]
    split <;> omega

theorem off_spec (k n : Int) (b : Nat) (w : World) (hb : Stb w [] (BlkAt b [.int .i64 n] 3)) (hk : 0 ≤ k ∧ k ≤ 40) (hn : 0 ≤ n ∧ n ≤ 40) :
    Calls Try.prog 53 #[.int .i64 k, .pointer (some ⟨b, 0, none⟩)] w fun e w' => e = .returned (.int .i64 (offOf k n)) ∧ Cl w [] [] w' := by
  refine calls_cw (vs := [_, _]) Try.func53 rfl Try.ntmps53 rfl (Cl.start0 w) ?_
  refine cw_seq ?_
  -- region 0
  refine cw_region ?_
  refine sw_step rfl rfl rfl (OpR.q (q_assign rfl rfl)) ?_
  refine sw_nil ?_
  refine post_then ?_
  refine cw_seq ?_
  -- region 1
  refine cw_region ?_
  refine sw_step rfl rfl rfl (OpR.q (q_move rfl rfl)) ?_
  refine sw_step rfl rfl rfl (OpR.q (q_mul rfl rfl rfl (by intro hc; omega))) ?_
  refine sw_step rfl rfl rfl (OpR.q (q_loadS rfl rfl (fun w hw => Stb.cl (by assumption) hw) rfl)) ?_
  refine sw_step rfl rfl rfl (OpR.q (q_sub rfl rfl rfl (by intro hc; omega))) ?_
  refine sw_step rfl rfl rfl (OpR.q (q_loadS rfl rfl (fun w hw => Stb.cl (by assumption) hw) rfl)) ?_
  refine sw_step rfl rfl rfl (OpR.q (q_move rfl rfl)) ?_
  refine sw_step rfl rfl rfl (OpR.q (q_mul rfl rfl rfl (by intro hc; omega))) ?_
  refine sw_step rfl rfl rfl (OpR.q (q_sub rfl rfl rfl (by intro hc; omega))) ?_
  refine sw_step rfl rfl rfl (OpR.q (q_max rfl (.cons rfl inferInstance (.cons rfl inferInstance (.nil))))) ?_
  refine sw_step rfl rfl rfl (OpR.q (q_assign rfl rfl)) ?_
  refine sw_nil ?_
  refine post_then ?_
  refine cw_ret ?_
  refine post_ret1 rfl (resOk_tmp rfl) ?_
  exact fun w' hw => ⟨rfl, hw⟩

def signsOk (wins n : Int) : Bool := inB n 0 40 && inB wins 0 n
theorem signs_spec (wins n : Int) (w : World) :
    Calls Try.prog 16 #[.int .i64 wins, .int .i64 n] w fun e w' => ∃ u : Unit, e = .returned (.tuple #[val (if signsOk wins n then (⟨signsTo wins n n.toNat (n.toNat + 1), 2 ^ n.toNat⟩ : Chance) else ⟨0, 0⟩), .int .i64 (if signsOk wins n then 0 else 2)]) ∧ True ∧ Cl w [] [] w' := by
  refine calls_cw (vs := [_, _]) Try.func16 rfl Try.ntmps16 rfl (Cl.start0 w) ?_
  refine cw_seq ?_
  -- region 0
  refine cw_region ?_
  refine sw_x rfl rfl rfl (e_box rfl rfl rfl) (fun b3 => ?_)
  refine sw_x rfl rfl rfl (e_alloc rfl) (fun b4 => ?_)
  refine sw_step rfl rfl rfl (OpR.q (q_assign rfl rfl)) ?_
  refine sw_nil ?_
  refine post_then ?_
  refine cw_seq ?_
  refine cw_seq ?_
  -- region 1
  refine cw_region ?_
  refine sw_step rfl rfl rfl (OpR.q (q_loadC rfl rfl (by exact .tail _ (.head _)) rfl)) ?_
  refine sw_step rfl rfl rfl (q_call (CanCall.mk Try.call52) rfl (.cons rfl inferInstance (.cons rfl inferInstance (.cons rfl inferInstance (.nil)))) (fun _ w hw => callq hw (within_spec _ _ _ w))) ?_
  refine sw_step rfl rfl rfl (OpR.q (q_not rfl rfl)) ?_
  refine sw_step rfl rfl rfl (OpR.q (q_move rfl rfl)) ?_
  refine sw_step rfl rfl rfl (OpR.q (q_move rfl rfl)) ?_
  refine sw_step rfl rfl rfl (OpR.q (q_loadC rfl rfl (by exact .tail _ (.head _)) rfl)) ?_
  refine sw_step rfl rfl rfl (q_call (CanCall.mk Try.call52) rfl (.cons rfl inferInstance (.cons rfl inferInstance (.cons rfl inferInstance (.nil)))) (fun _ w hw => callq hw (within_spec _ _ _ w))) ?_
  refine sw_step rfl rfl rfl (OpR.q (q_not rfl rfl)) ?_
  refine sw_step rfl rfl rfl (OpR.q (q_or2 rfl rfl rfl)) ?_
  refine sw_nil ?_
  refine post_then ?_
  -- STOP at: cond
  refine cw_cond rfl (fun h => ?_) (fun h => ?_)
  · skip
    have h1 : signsOk wins n = false := by
      simp at h
      rcases h with h | h <;> simp [signsOk, h]
    refine cw_seq ?_
    -- region 2
    refine cw_region ?_
    refine sw_step rfl rfl rfl (OpR.q (q_build rfl (.nil) rfl)) ?_
    refine sw_eff0 rfl rfl (e_store (i := 0) rfl rfl rfl rfl rfl rfl rfl rfl) ?_
    refine sw_step rfl rfl rfl (OpR.q (q_assign rfl rfl)) ?_
    refine sw_nil ?_
    refine post_then ?_
    refine cw_ret ?_
    refine post_then_r ?_
    refine post_ret2 rfl (resOk_blk (x := (⟨0, 0⟩ : Chance)) rfl (by exact .head _) (by rfl)) (resOk_tmp rfl) ?_
    exact fun w' hw => ⟨(), by rw [h1]; rfl, trivial, (fun w h => Cl.sel (by exact .nil _) w h) _ hw⟩
  · skip
    have h1 : signsOk wins n = true := by
      simp at h
      simp [signsOk, h]
    have h2 : (0 ≤ n ∧ n ≤ 40) ∧ (0 ≤ wins ∧ wins ≤ n) := by simpa [signsOk, inB] using h1
    obtain ⟨m, rfl⟩ := Int.eq_ofNat_of_zero_le h2.1.1
    have h4 : IntKind.i64.wrap (1 * 2 ^ ((m : Int)).toNat) = 2 ^ m := by
      have h5 : (2 : Int) ^ m ≤ 2 ^ 40 := two_pow_le (by omega)
      have h6 : (0 : Int) ≤ 2 ^ m := Int.pow_nonneg (by decide)
      rw [Int.one_mul, Int.toNat_natCast]
      simp only [IntKind.wrap, IntKind.signed, IntKind.bits]
      generalize (2 : Int) ^ m = z at h5 h6
      simp
      omega
    refine cw_skip ?_
    refine post_then ?_
    refine cw_seq ?_
    -- region 3
    refine cw_region ?_
    refine sw_step rfl rfl rfl (OpR.q (q_loadC rfl rfl (by exact .tail _ (.head _)) rfl)) ?_
    refine sw_step rfl rfl rfl (OpR.q (q_shl rfl rfl rfl (by (dsimp only [IntKind.bits]; exact (by intro hc; omega))))) ?_
    refine sw_step rfl rfl rfl (OpR.q (q_build rfl (.cons rfl inferInstance (.nil)) rfl)) ?_
    refine sw_x rfl rfl rfl (e_alloc rfl) (fun b6 => ?_)
    refine sw_eff0 rfl rfl (e_store (i := 0) rfl rfl rfl rfl rfl rfl rfl rfl) ?_
    refine sw_nil ?_
    refine post_then ?_
    refine cw_seq ?_
    -- region 4
    refine cw_region ?_
    refine sw_step rfl rfl rfl (OpR.q (q_func_l rfl (.cons rfl inferInstance (.nil)))) ?_
    refine sw_step rfl rfl rfl (OpR.q (q_assign rfl rfl)) ?_
    refine sw_nil ?_
    refine post_then ?_
    refine cw_seq ?_
    -- region 5
    refine cw_region ?_
    refine sw_step rfl rfl rfl (OpR.q (q_assign rfl rfl)) ?_
    refine sw_nil ?_
    refine post_then ?_
    refine cw_seq ?_
    refine cw_seq ?_
    -- region 6
    refine cw_region ?_
    refine sw_step rfl rfl rfl (OpR.q (q_assign rfl rfl)) ?_
    refine sw_nil ?_
    refine post_then ?_
    refine cw_block ?_
    -- STOP at: loop
    refine cw_loop (S := Nat) (fun k => [(0, [], .int .i64 wins), (3, [], .pointer (some ⟨b3, 0, none⟩)), (4, [], .pointer (some ⟨b4, 0, none⟩)), (6, [], .pointer (some ⟨b6, 0, none⟩)), (7, [], .func (.func 53) #[] #[.pointer (some ⟨b3, 0, none⟩)]), (8, [], .int .i64 (bin m k)), (9, [], .int .i64 k)])
      (fun k => Cl w [] [blk b6 [.int .i64 (signsTo wins m m k), .int .i64 (IntKind.i64.wrap (1 * 2 ^ ((m : Int)).toNat))] 25, blk b4 [.int .i64 0, .int .i64 0] 25, blk b3 [.int .i64 m] 3]) (fun k => k ≤ m + 1) (fun k => m + 1 - k) 0 (by omega) (Le.cons rfl (Le.cons rfl (Le.cons rfl (Le.cons rfl (Le.cons rfl (Le.cons' rfl (by simp [bin]) (Le.cons rfl Le.nil))))))) (fun w h => Cl.sel (by exact .take 0 rfl (.take 0 rfl (.take 0 rfl (.nil _)))) w h) ?_
    intro k hk
    dsimp only
    refine cw_seq ?_
    refine cw_seq ?_
    -- region 7
    refine cw_region ?_
    refine sw_step rfl rfl rfl (OpR.q (q_move rfl rfl)) ?_
    refine sw_step rfl rfl rfl (OpR.q (q_loadC rfl rfl (by exact .tail _ (.tail _ (.head _))) rfl)) ?_
    refine sw_step rfl rfl rfl (OpR.q (q_leq rfl rfl rfl)) ?_
    refine sw_nil ?_
    refine post_then ?_
    -- STOP at: cond
    refine cw_cond rfl (fun h3 => ?_) (fun h3 => ?_)
    · skip
      have hk' : k ≤ m := by simp at h3; omega
      have hbs := bin_step m k hk'
      have hbl := bin_le m k
      have hp2 : 2 ^ m ≤ 2 ^ 40 := Nat.pow_le_pow_right (by decide) (show m ≤ 40 by omega)
      have hsb := signsTo_bd wins m m (by omega) k
      have hmul : (bin m k : Int) * ((m : Int) - k) = ((bin m (k + 1) * (k + 1) : Nat) : Int) := by
        rw [hbs, Int.natCast_mul, Int.natCast_sub hk']
      have hle : bin m k * (m - k) ≤ 1099511627776 * 40 := Nat.mul_le_mul (by omega) (by omega)
      rw [← hbs] at hle
      have hdiv : ((bin m (k + 1) * (k + 1) : Nat) : Int) / ((k : Int) + 1) = bin m (k + 1) := by
        rw [Int.natCast_mul]
        exact Int.mul_ediv_cancel _ (by omega)
      refine cw_skip ?_
      refine post_then ?_
      refine cw_seq ?_
      refine cw_block ?_
      refine cw_seq ?_
      refine cw_seq ?_
      -- region 9
      refine cw_region ?_
      refine sw_step rfl rfl rfl (OpR.q (q_move rfl rfl)) ?_
      refine sw_step rfl rfl rfl (OpR.q (q_move rfl rfl)) ?_
      -- STOP at: t31  := call {callee=(value t29), args=[t30], argTypes=[3]} :3
      refine sw_step rfl rfl rfl (q_callv (CanCall.mk Try.call53) rfl rfl (.cons rfl inferInstance (.nil)) (fun _ w hw => callq hw (off_spec _ m b3 w (stb_blk hw (by exact .tail _ (.tail _ (.head _)))) (by omega) (by omega)))) ?_
      refine sw_step rfl rfl rfl (OpR.q (q_move rfl rfl)) ?_
      refine sw_step rfl rfl rfl (OpR.q (q_move rfl rfl)) ?_
      -- STOP at: t34  := call {callee=(value t32), args=[t33], argTypes=[3]} :3
      refine sw_step rfl rfl rfl (q_callv (CanCall.mk Try.call53) rfl rfl (.cons rfl inferInstance (.nil)) (fun _ w hw => callq hw (off_spec _ m b3 w (stb_blk hw (by exact .tail _ (.tail _ (.head _)))) (by omega) (by omega)))) ?_
      refine sw_step rfl rfl rfl (OpR.q (q_geq rfl rfl rfl)) ?_
      refine sw_nil ?_
      refine post_then ?_
      -- STOP at: cond
      refine cw_cond rfl (fun h5 => ?_) (fun h5 => ?_)
      · skip
        have h6 : offOf wins m ≤ offOf k m := by simpa using h5
        have h7 : signsTo wins m m (k + 1) = signsTo wins m m k + bin m k := by simp [signsTo, h6]
        -- region 10
        refine cw_region ?_
        refine sw_step rfl rfl rfl (OpR.q (q_fieldAddr rfl rfl)) ?_
        refine sw_step rfl rfl rfl (OpR.q (q_loadC rfl rfl (by exact .head _) rfl)) ?_
        refine sw_step rfl rfl rfl (OpR.q (q_move rfl rfl)) ?_
        refine sw_step rfl rfl rfl (OpR.q (q_add rfl rfl rfl (by intro hc; omega))) ?_
        refine sw_step rfl rfl rfl (OpR.q (q_fieldAddr rfl rfl)) ?_
        refine sw_eff0 rfl rfl (e_store (i := 0) rfl rfl rfl rfl rfl rfl rfl rfl) ?_
        refine sw_nil ?_
        refine post_then ?_
        -- region 11
        refine cw_region ?_
        refine sw_step rfl rfl rfl (OpR.q (q_move rfl rfl)) ?_
        refine sw_step rfl rfl rfl (OpR.q (q_loadC rfl rfl (by exact .tail _ (.tail _ (.head _))) rfl)) ?_
        refine sw_step rfl rfl rfl (OpR.q (q_move rfl rfl)) ?_
        refine sw_step rfl rfl rfl (OpR.q (q_sub rfl rfl rfl (by intro hc; omega))) ?_
        refine sw_step rfl rfl rfl (OpR.q (q_mul rfl rfl rfl (by intro hc; omega))) ?_
        refine sw_step rfl rfl rfl (OpR.q (q_move rfl rfl)) ?_
        refine sw_step rfl rfl rfl (OpR.q (q_add rfl rfl rfl (by intro hc; omega))) ?_
        refine sw_step rfl rfl rfl (OpR.q (q_quo rfl rfl rfl (by intro hc; omega))) ?_
        refine sw_step rfl rfl rfl (OpR.q (q_assign rfl rfl)) ?_
        refine sw_nil ?_
        refine post_blk ?_
        refine post_then ?_
        -- region 8
        refine cw_region ?_
        refine sw_step rfl rfl rfl (OpR.q (q_move rfl rfl)) ?_
        refine sw_step rfl rfl rfl (OpR.q (q_add rfl rfl rfl (by intro hc; omega))) ?_
        refine sw_step rfl rfl rfl (OpR.q (q_assign rfl rfl)) ?_
        refine sw_nil ?_
        refine post_next (k + 1) ?_ (fun w3 hw3 => ?_) (by omega) (by omega)
        · refine Le.cons rfl (Le.cons rfl (Le.cons rfl (Le.cons rfl (Le.cons rfl (Le.cons' rfl ?_ (Le.cons rfl Le.nil))))))
          rw [hmul, hdiv]
        · rw [h7]; exact (fun w h => Cl.sel (by exact .take 0 rfl (.take 0 rfl (.take 0 rfl (.nil _)))) w h) _ hw3
      · skip
        have h6 : ¬ offOf wins m ≤ offOf k m := by simpa using h5
        have h7 : signsTo wins m m (k + 1) = signsTo wins m m k := by simp [signsTo, h6]
        refine cw_skip ?_
        refine post_then ?_
        -- region 11
        refine cw_region ?_
        refine sw_step rfl rfl rfl (OpR.q (q_move rfl rfl)) ?_
        refine sw_step rfl rfl rfl (OpR.q (q_loadC rfl rfl (by exact .tail _ (.tail _ (.head _))) rfl)) ?_
        refine sw_step rfl rfl rfl (OpR.q (q_move rfl rfl)) ?_
        refine sw_step rfl rfl rfl (OpR.q (q_sub rfl rfl rfl (by intro hc; omega))) ?_
        refine sw_step rfl rfl rfl (OpR.q (q_mul rfl rfl rfl (by intro hc; omega))) ?_
        refine sw_step rfl rfl rfl (OpR.q (q_move rfl rfl)) ?_
        refine sw_step rfl rfl rfl (OpR.q (q_add rfl rfl rfl (by intro hc; omega))) ?_
        refine sw_step rfl rfl rfl (OpR.q (q_quo rfl rfl rfl (by intro hc; omega))) ?_
        refine sw_step rfl rfl rfl (OpR.q (q_assign rfl rfl)) ?_
        refine sw_nil ?_
        refine post_blk ?_
        refine post_then ?_
        -- region 8
        refine cw_region ?_
        refine sw_step rfl rfl rfl (OpR.q (q_move rfl rfl)) ?_
        refine sw_step rfl rfl rfl (OpR.q (q_add rfl rfl rfl (by intro hc; omega))) ?_
        refine sw_step rfl rfl rfl (OpR.q (q_assign rfl rfl)) ?_
        refine sw_nil ?_
        refine post_next (k + 1) ?_ (fun w3 hw3 => ?_) (by omega) (by omega)
        · refine Le.cons rfl (Le.cons rfl (Le.cons rfl (Le.cons rfl (Le.cons rfl (Le.cons' rfl ?_ (Le.cons rfl Le.nil))))))
          rw [hmul, hdiv]
        · rw [h7]; exact (fun w h => Cl.sel (by exact .take 0 rfl (.take 0 rfl (.take 0 rfl (.nil _)))) w h) _ hw3
    · skip
      have hk' : k = m + 1 := by simp at h3; omega
      subst hk'
      refine cw_exit ?_
      refine post_then_x ?_
      refine post_then_x ?_
      refine post_blk_eq ?_
      refine post_then ?_
      refine cw_seq ?_
      -- region 12
      refine cw_region ?_
      refine sw_step rfl rfl rfl (OpR.q (q_loadA rfl rfl (by exact .head _) rfl)) ?_
      refine sw_eff0 rfl rfl (e_store (i := 1) rfl rfl rfl rfl rfl rfl rfl rfl) ?_
      refine sw_step rfl rfl rfl (OpR.q (q_assign rfl rfl)) ?_
      refine sw_nil ?_
      refine post_then ?_
      refine cw_ret ?_
      refine post_ret2 rfl (resOk_blk (x := (⟨signsTo wins m m (m + 1), IntKind.i64.wrap (1 * 2 ^ ((m : Int)).toNat)⟩ : Chance)) rfl (by exact .tail _ (.head _)) (by rfl)) (resOk_tmp rfl) ?_
      exact fun w' hw => ⟨(), by rw [h1, if_pos rfl, if_pos rfl, h4]; rfl, trivial, (fun w h => Cl.sel (by exact .nil _) w h) _ hw⟩
end Go.Proofs.Ytekikelejncgeaa
