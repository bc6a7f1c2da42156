import Derived.Test.YtekikelejncgeaaZK
set_option autoImplicit false
set_option linter.unusedSimpArgs false
set_option linter.unusedVariables false
set_option maxRecDepth 100000
namespace Go.Proofs.Ytekikelejncgeaa
open Go.Sx
open Enc (enc val)

/-! ### gain and noise -/
def rnd (a b : Int) : Int := if a < 0 then -((2 * -a + b) / (2 * b)) else (2 * a + b) / (2 * b)
theorem rnd0 {a b : Int} (ha : 0 ≤ a) : rnd a b = (2 * a + b) / (2 * b) := by rw [rnd, if_neg (by omega)]
theorem rnd_near0 {a b : Int} (hb : 1 ≤ b) (ha : 0 ≤ a) : -b ≤ 2 * b * ((2 * a + b) / (2 * b)) - 2 * a ∧ 2 * b * ((2 * a + b) / (2 * b)) - 2 * a ≤ b := by
  have h1 := Int.emod_add_mul_ediv (2 * a + b) (2 * b)
  have h2 := Int.emod_nonneg (2 * a + b) (show 2 * b ≠ 0 by omega)
  have h3 := Int.emod_lt_of_pos (2 * a + b) (show 0 < 2 * b by omega)
  omega
theorem rnd_near {a b : Int} (hb : 1 ≤ b) : -b ≤ 2 * b * rnd a b - 2 * a ∧ 2 * b * rnd a b - 2 * a ≤ b := by
  unfold rnd
  split
  · have := rnd_near0 (a := -a) hb (by omega)
    rw [Int.mul_neg]
    omega
  · exact rnd_near0 hb (by omega)
theorem rnd0_bd {a b : Int} (hb : 1 ≤ b) (ha : 0 ≤ a ∧ a ≤ 100000000000) : 0 ≤ (2 * a + b) / (2 * b) ∧ (2 * a + b) / (2 * b) ≤ 2 * a + b := by
  have h1 := Int.ediv_nonneg (show 0 ≤ 2 * a + b by omega) (show (0 : Int) ≤ 2 * b by omega)
  have h2 := Int.ediv_le_self (2 * b) (show 0 ≤ 2 * a + b by omega)
  exact ⟨h1, h2⟩
theorem round0_spec (a b : Int) (ha : 0 ≤ a ∧ a ≤ 100000000000) (hb : 1 ≤ b ∧ b ≤ 1000000) (w : World) : Calls Try.prog 83 #[.int .i64 a, .int .i64 b] w fun e w' => e = .returned (.int .i64 (rnd a b)) ∧ Cl w [] [] w' := by
  refine calls_cw (vs := [_, _]) Try.func83 rfl Try.ntmps83 rfl (Cl.start0 w) ?_
  refine cw_seq ?_
  -- region 0
  refine cw_region ?_
  refine sw_step rfl rfl rfl (OpR.q (q_assign rfl rfl)) ?_
  refine sw_nil ?_
  refine post_then ?_
  refine cw_seq ?_
  refine cw_seq ?_
  -- region 1
  refine cw_region ?_
  refine sw_step rfl rfl rfl (OpR.q (q_move rfl rfl)) ?_
  refine sw_step rfl rfl rfl (OpR.q (q_lss rfl rfl rfl)) ?_
  refine sw_nil ?_
  refine post_then ?_
  -- STOP at: cond
  refine cw_cond rfl (fun h => ?_) (fun h => ?_)
  · skip
    simp at h; omega
  · skip
    refine cw_skip ?_
    refine post_then ?_
    refine cw_seq ?_
    -- region 3
    refine cw_region ?_
    refine sw_step rfl rfl rfl (OpR.q (q_move rfl rfl)) ?_
    refine sw_step rfl rfl rfl (OpR.q (q_mul rfl rfl rfl (by intro hc; first | omega | (simp only [List.length_set, List.length_append, List.length_cons, List.length_nil, List.length_replicate, List.length_take, List.length_drop, List.length_map]; omega) | (simp only [AllT.iff, List.all_cons, List.all_nil, id, Bool.and_eq_true, Bool.not_eq_true', decide_eq_true_eq, decide_eq_false_iff_not, and_true] at hc; first | omega | (simp only [List.length_set, List.length_append, List.length_cons, List.length_nil, List.length_replicate, List.length_take, List.length_drop, List.length_map]; omega)) | (exfalso; simp_all [AllT]; done)))) ?_
    refine sw_step rfl rfl rfl (OpR.q (q_move rfl rfl)) ?_
    refine sw_step rfl rfl rfl (OpR.q (q_add rfl rfl rfl (by intro hc; first | omega | (simp only [List.length_set, List.length_append, List.length_cons, List.length_nil, List.length_replicate, List.length_take, List.length_drop, List.length_map]; omega) | (simp only [AllT.iff, List.all_cons, List.all_nil, id, Bool.and_eq_true, Bool.not_eq_true', decide_eq_true_eq, decide_eq_false_iff_not, and_true] at hc; first | omega | (simp only [List.length_set, List.length_append, List.length_cons, List.length_nil, List.length_replicate, List.length_take, List.length_drop, List.length_map]; omega)) | (exfalso; simp_all [AllT]; done)))) ?_
    refine sw_step rfl rfl rfl (OpR.q (q_move rfl rfl)) ?_
    refine sw_step rfl rfl rfl (OpR.q (q_mul rfl rfl rfl (by intro hc; first | omega | (simp only [List.length_set, List.length_append, List.length_cons, List.length_nil, List.length_replicate, List.length_take, List.length_drop, List.length_map]; omega) | (simp only [AllT.iff, List.all_cons, List.all_nil, id, Bool.and_eq_true, Bool.not_eq_true', decide_eq_true_eq, decide_eq_false_iff_not, and_true] at hc; first | omega | (simp only [List.length_set, List.length_append, List.length_cons, List.length_nil, List.length_replicate, List.length_take, List.length_drop, List.length_map]; omega)) | (exfalso; simp_all [AllT]; done)))) ?_
    refine sw_step rfl rfl rfl (OpR.q (q_quo rfl rfl rfl (by intro hc; first | omega | (simp only [List.length_set, List.length_append, List.length_cons, List.length_nil, List.length_replicate, List.length_take, List.length_drop, List.length_map]; omega) | (simp only [AllT.iff, List.all_cons, List.all_nil, id, Bool.and_eq_true, Bool.not_eq_true', decide_eq_true_eq, decide_eq_false_iff_not, and_true] at hc; first | omega | (simp only [List.length_set, List.length_append, List.length_cons, List.length_nil, List.length_replicate, List.length_take, List.length_drop, List.length_map]; omega)) | (exfalso; simp_all [AllT]; done)))) ?_
    refine sw_step rfl rfl rfl (OpR.q (q_assign rfl rfl)) ?_
    refine sw_nil ?_
    refine post_then ?_
    refine cw_ret ?_
    refine post_ret1 rfl (resOk_tmp rfl) ?_
    exact fun w' hw => ⟨by rw [rnd0 ha.1], hw⟩
theorem round_spec (a b : Int) (ha : -100000000000 ≤ a ∧ a ≤ 100000000000) (hb : 1 ≤ b ∧ b ≤ 1000000) (w : World) : Calls Try.prog 83 #[.int .i64 a, .int .i64 b] w fun e w' => e = .returned (.int .i64 (rnd a b)) ∧ Cl w [] [] w' := by
  by_cases h0 : 0 ≤ a
  · exact round0_spec a b ⟨h0, ha.2⟩ hb w
  · have h1 := rnd0_bd (a := -a) hb.1 (by omega)
    refine calls_cw (vs := [_, _]) Try.func83 rfl Try.ntmps83 rfl (Cl.start0 w) ?_
    refine cw_seq ?_
    -- region 0
    refine cw_region ?_
    refine sw_step rfl rfl rfl (OpR.q (q_assign rfl rfl)) ?_
    refine sw_nil ?_
    refine post_then ?_
    refine cw_seq ?_
    refine cw_seq ?_
    -- region 1
    refine cw_region ?_
    refine sw_step rfl rfl rfl (OpR.q (q_move rfl rfl)) ?_
    refine sw_step rfl rfl rfl (OpR.q (q_lss rfl rfl rfl)) ?_
    refine sw_nil ?_
    refine post_then ?_
    -- STOP at: cond
    refine cw_cond rfl (fun h => ?_) (fun h => ?_)
    · skip
      refine cw_seq ?_
      -- region 2
      refine cw_region ?_
      refine sw_step rfl rfl rfl (OpR.q (q_move rfl rfl)) ?_
      refine sw_step rfl rfl rfl (OpR.q (q_neg rfl rfl (by intro hc; first | omega | (simp only [List.length_set, List.length_append, List.length_cons, List.length_nil, List.length_replicate, List.length_take, List.length_drop, List.length_map]; omega) | (simp only [AllT.iff, List.all_cons, List.all_nil, id, Bool.and_eq_true, Bool.not_eq_true', decide_eq_true_eq, decide_eq_false_iff_not, and_true] at hc; first | omega | (simp only [List.length_set, List.length_append, List.length_cons, List.length_nil, List.length_replicate, List.length_take, List.length_drop, List.length_map]; omega)) | (exfalso; simp_all [AllT]; done)))) ?_
      refine sw_step rfl rfl rfl (OpR.q (q_move rfl rfl)) ?_
      -- STOP at: t10  := call {callee=(value F83), args=[t8, t9], argTypes=[3, 3]} :3
      refine sw_step rfl rfl rfl (q_call (CanCall.mk Try.call83) rfl (.cons rfl inferInstance (.cons rfl inferInstance (.nil))) (fun _ w hw => callq hw (round0_spec (-a) b (by omega) hb w))) ?_
      rw [rnd0 (show 0 ≤ -a by omega)]
      refine sw_step rfl rfl rfl (OpR.q (q_neg rfl rfl (by intro hc; first | omega | (simp only [List.length_set, List.length_append, List.length_cons, List.length_nil, List.length_replicate, List.length_take, List.length_drop, List.length_map]; omega) | (simp only [AllT.iff, List.all_cons, List.all_nil, id, Bool.and_eq_true, Bool.not_eq_true', decide_eq_true_eq, decide_eq_false_iff_not, and_true] at hc; first | omega | (simp only [List.length_set, List.length_append, List.length_cons, List.length_nil, List.length_replicate, List.length_take, List.length_drop, List.length_map]; omega)) | (exfalso; simp_all [AllT]; done)))) ?_
      refine sw_step rfl rfl rfl (OpR.q (q_assign rfl rfl)) ?_
      refine sw_nil ?_
      refine post_then ?_
      refine cw_ret ?_
      refine post_then_r ?_
      refine post_ret1 rfl (resOk_tmp rfl) ?_
      exact fun w' hw => ⟨by rw [rnd, if_pos (by omega)], hw⟩
    · skip
      simp at h; omega
def clipI (n : Int) : Int := max (-32768) (min 32767 n)
theorem clip_spec (n : Int) (w : World) : Calls Try.prog 84 #[.int .i64 n] w fun e w' => e = .returned (.int .i64 (clipI n)) ∧ Cl w [] [] w' := by
  refine calls_cw (vs := [_]) Try.func84 rfl Try.ntmps84 rfl (Cl.start0 w) ?_
  refine cw_seq ?_
  -- region 0
  refine cw_region ?_
  refine sw_step rfl rfl rfl (OpR.q (q_assign rfl rfl)) ?_
  refine sw_nil ?_
  refine post_then ?_
  refine cw_seq ?_
  -- region 1
  refine cw_region ?_
  refine sw_step rfl rfl rfl (OpR.q (q_move rfl rfl)) ?_
  refine sw_step rfl rfl rfl (OpR.q (q_min rfl (.cons rfl inferInstance (.cons rfl inferInstance (.nil))))) ?_
  refine sw_step rfl rfl rfl (OpR.q (q_max rfl (.cons rfl inferInstance (.cons rfl inferInstance (.nil))))) ?_
  refine sw_step rfl rfl rfl (OpR.q (q_assign rfl rfl)) ?_
  refine sw_nil ?_
  refine post_then ?_
  refine cw_ret ?_
  refine post_ret1 rfl (resOk_tmp rfl) ?_
  exact fun w' hw => ⟨rfl, hw⟩
def gainTo (a : List Int) (num den : Int) (k : Nat) : List Int := (List.range k).map fun i => clipI (rnd (nth a i * num) den)
def cutTo (a : List Int) (num den : Int) : Nat → Nat
  | 0 => 0
  | k + 1 => cutTo a num den k + (if rnd (nth a k * num) den = clipI (rnd (nth a k * num) den) then 0 else 1)
theorem gainTo_len (a : List Int) (num den : Int) (k : Nat) : (gainTo a num den k).length = k := by simp [gainTo]
theorem gainTo_succ (a : List Int) (num den : Int) (k : Nat) : gainTo a num den (k + 1) = gainTo a num den k ++ [clipI (rnd (nth a k * num) den)] := by simp [gainTo, List.range_succ]
theorem gainTo_nth {a : List Int} {num den : Int} {k i : Nat} (h : i < k) : nth (gainTo a num den k) i = clipI (rnd (nth a i * num) den) := by rw [nth_get (by rw [gainTo_len]; exact h)]; simp [gainTo]
theorem cutTo_le (a : List Int) (num den : Int) : ∀ k, cutTo a num den k ≤ k
  | 0 => by simp [cutTo]
  | k + 1 => by have := cutTo_le a num den k; simp only [cutTo]; split <;> omega
theorem cutTo_zero {a : List Int} {num den : Int} : ∀ {k : Nat}, cutTo a num den k = 0 → ∀ i, i < k → clipI (rnd (nth a i * num) den) = rnd (nth a i * num) den
  | 0, _, i, hi => by omega
  | k + 1, h, i, hi => by
    simp only [cutTo] at h
    by_cases he : i = k
    · subst he
      split at h
      · rename_i h1; exact h1.symm
      · omega
    · exact cutTo_zero (k := k) (by omega) i (by omega)
theorem prod_bd2 {a b A B : Int} (h1 : -A ≤ a ∧ a ≤ A) (h2 : 0 ≤ b ∧ b ≤ B) (hA : 0 ≤ A) : -(A * B) ≤ a * b ∧ a * b ≤ A * B := by
  have h3 := Int.mul_le_mul h1.2 h2.2 h2.1 hA
  have h4 := Int.mul_le_mul (show -a ≤ A by omega) h2.2 h2.1 hA
  rw [Int.neg_mul] at h4
  omega
theorem gain_spec (sv : Value) (a : List Int) (num den : Int) (hok : okS a = true) (hlen : a.length ≤ 100000) (hn : 1 ≤ num ∧ num ≤ 1000000) (hd : 1 ≤ den ∧ den ≤ 1000000) (w : World) (ha : Stb w [] (RdL sv a)) :
    Calls Try.prog 51 #[sv, .int .i64 num, .int .i64 den] w fun e w' => ∃ s : SlV, e = .returned (.tuple #[s.v, .int .i64 (cutTo a num den a.length)]) ∧ True ∧ Cl w [] [ownL 3 s.v (gainTo a num den a.length)] w' := by
  refine calls_cw (vs := [_, _, _]) Try.func51 rfl Try.ntmps51 rfl (Cl.start0 w) ?_
  refine cw_seq ?_
  -- region 0
  refine cw_region ?_
  refine sw_step rfl rfl rfl (OpR.q (q_assign rfl rfl)) ?_
  refine sw_step rfl rfl rfl (OpR.q (q_assign rfl rfl)) ?_
  refine sw_nil ?_
  refine post_then ?_
  refine cw_seq ?_
  -- region 1
  refine cw_region ?_
  refine sw_step rfl rfl rfl (OpR.q (q_assign rfl rfl)) ?_
  refine sw_nil ?_
  refine post_then ?_
  refine cw_seq ?_
  -- region 2
  refine cw_region ?_
  refine sw_step rfl rfl rfl (OpR.q (q_assign rfl rfl)) ?_
  refine sw_nil ?_
  refine post_then ?_
  refine cw_seq ?_
  refine cw_seq ?_
  -- region 3
  refine cw_region ?_
  refine sw_step rfl rfl rfl (OpR.q (q_assign rfl rfl)) ?_
  refine sw_nil ?_
  refine post_then ?_
  refine cw_block ?_
  -- STOP at: loop
  refine cw_loop (S := Nat × SlV) (fun x => [(0, [], sv), (1, [], .int .i64 num), (2, [], .int .i64 den), (8, [], x.2.v), (9, [], .int .i64 (cutTo a num den x.1)), (10, [], .int .i64 x.1)]) (fun x => Cl w [] [ownL 3 x.2.v (gainTo a num den x.1)]) (fun x => x.1 ≤ a.length) (fun x => a.length - x.1) (0, ⟨none, 0, 0⟩) (Nat.zero_le _) (by (repeat first | exact Le.nil | refine Le.cons rfl ?_ | refine Le.cons' rfl (by congr 1; first | omega | (simp only; omega)) ?_)) (fun _ h => Cl.addNil (α := Int) 3 h) ?_
  rintro ⟨k, s⟩ hk
  dsimp only at hk ⊢
  have hgl := gainTo_len a num den k
  have hcl := cutTo_le a num den k
  have hka := okS_nth hok k
  have hpr := prod_bd2 (a := nth a k) (b := num) (A := 32768) (B := 1000000) (by omega) (by omega) (by decide)
  refine cw_seq ?_
  refine cw_seq ?_
  -- region 4
  refine cw_region ?_
  refine sw_step rfl rfl rfl (OpR.q (q_move rfl rfl)) ?_
  refine sw_step rfl rfl rfl (OpR.q (q_move rfl rfl)) ?_
  first | refine sw_step rfl rfl rfl (OpR.q (q_len rfl (.cons rfl inferInstance (.nil)) (by first | exact fun w hw => Stb.cl (by assumption) hw | exact fun w hw => rd_own hw (by first | assumption | (repeat first | exact .head _ | apply List.Mem.tail)) | assumption))) ?_ | refine sw_step rfl rfl rfl (OpR.q (q_lenV rfl (.cons rfl inferInstance (.nil)))) ?_
  refine sw_step rfl rfl rfl (OpR.q (q_lss rfl rfl rfl)) ?_
  refine sw_nil ?_
  refine post_then ?_
  -- STOP at: cond
  refine cw_cond rfl (fun h => ?_) (fun h => ?_)
  · skip
    have hk' : k < a.length := by simp only [decide_eq_true_eq] at h; omega
    refine cw_skip ?_
    refine post_then ?_
    refine cw_seq ?_
    refine cw_block ?_
    refine cw_seq ?_
    -- region 6
    refine cw_region ?_
    refine sw_step rfl rfl rfl (OpR.q (q_move rfl rfl)) ?_
    refine sw_step rfl rfl rfl (OpR.q (q_move rfl rfl)) ?_
    first | refine sw_step rfl rfl rfl (OpR.q (q_indexN rfl rfl rfl (by first | exact fun w hw => Stb.cl (by assumption) hw | exact fun w hw => rd_own hw (by first | assumption | (repeat first | exact .head _ | apply List.Mem.tail)) | assumption) (by intro hc; first | omega | (simp only [List.length_set, List.length_append, List.length_cons, List.length_nil, List.length_replicate, List.length_take, List.length_drop, List.length_map]; omega) | (simp only [AllT.iff, List.all_cons, List.all_nil, id, Bool.and_eq_true, Bool.not_eq_true', decide_eq_true_eq, decide_eq_false_iff_not, and_true] at hc; first | omega | (simp only [List.length_set, List.length_append, List.length_cons, List.length_nil, List.length_replicate, List.length_take, List.length_drop, List.length_map]; omega)) | (exfalso; simp_all [AllT]; done)))) ?_ | refine sw_step rfl rfl rfl (OpR.q (q_index rfl rfl rfl (by first | exact fun w hw => Stb.cl (by assumption) hw | exact fun w hw => rd_own hw (by first | assumption | (repeat first | exact .head _ | apply List.Mem.tail)) | assumption) (by intro hc; first | omega | (simp only [List.length_set, List.length_append, List.length_cons, List.length_nil, List.length_replicate, List.length_take, List.length_drop, List.length_map]; omega) | (simp only [AllT.iff, List.all_cons, List.all_nil, id, Bool.and_eq_true, Bool.not_eq_true', decide_eq_true_eq, decide_eq_false_iff_not, and_true] at hc; first | omega | (simp only [List.length_set, List.length_append, List.length_cons, List.length_nil, List.length_replicate, List.length_take, List.length_drop, List.length_map]; omega)) | (exfalso; simp_all [AllT]; done)))) ?_
    first | refine sw_step rfl rfl rfl (OpR.q (q_loadC rfl rfl (by first | assumption | (repeat first | exact .head _ | apply List.Mem.tail)) rfl)) ?_ | refine sw_step rfl rfl rfl (OpR.q (q_loadA rfl rfl (by first | assumption | (repeat first | exact .head _ | apply List.Mem.tail)) rfl)) ?_ | refine sw_step rfl rfl rfl (OpR.q (q_loadEl rfl rfl rfl (by first | exact fun w hw => Stb.cl (by assumption) hw | exact fun w hw => rd_own hw (by first | assumption | (repeat first | exact .head _ | apply List.Mem.tail)) | assumption) (by intro hc; first | omega | (simp only [List.length_set, List.length_append, List.length_cons, List.length_nil, List.length_replicate, List.length_take, List.length_drop, List.length_map]; omega) | (simp only [AllT.iff, List.all_cons, List.all_nil, id, Bool.and_eq_true, Bool.not_eq_true', decide_eq_true_eq, decide_eq_false_iff_not, and_true] at hc; first | omega | (simp only [List.length_set, List.length_append, List.length_cons, List.length_nil, List.length_replicate, List.length_take, List.length_drop, List.length_map]; omega)) | (exfalso; simp_all [AllT]; done)))) ?_ | refine sw_step rfl rfl rfl (OpR.q (q_loadF rfl rfl rfl (by first | exact fun w hw => Stb.cl (by assumption) hw | exact fun w hw => rd_own hw (by first | assumption | (repeat first | exact .head _ | apply List.Mem.tail)) | assumption) (by intro hc; first | omega | (simp only [List.length_set, List.length_append, List.length_cons, List.length_nil, List.length_replicate, List.length_take, List.length_drop, List.length_map]; omega) | (simp only [AllT.iff, List.all_cons, List.all_nil, id, Bool.and_eq_true, Bool.not_eq_true', decide_eq_true_eq, decide_eq_false_iff_not, and_true] at hc; first | omega | (simp only [List.length_set, List.length_append, List.length_cons, List.length_nil, List.length_replicate, List.length_take, List.length_drop, List.length_map]; omega)) | (exfalso; simp_all [AllT]; done)) rfl)) ?_ | refine sw_step rfl rfl rfl (OpR.q (q_loadS rfl rfl (fun w hw => Stb.cl (by assumption) hw) rfl)) ?_
    refine sw_step rfl rfl rfl (OpR.q (q_move rfl rfl)) ?_
    refine sw_step rfl rfl rfl (OpR.q (q_mul rfl rfl rfl (by intro hc; first | omega | (simp only [List.length_set, List.length_append, List.length_cons, List.length_nil, List.length_replicate, List.length_take, List.length_drop, List.length_map]; omega) | (simp only [AllT.iff, List.all_cons, List.all_nil, id, Bool.and_eq_true, Bool.not_eq_true', decide_eq_true_eq, decide_eq_false_iff_not, and_true] at hc; first | omega | (simp only [List.length_set, List.length_append, List.length_cons, List.length_nil, List.length_replicate, List.length_take, List.length_drop, List.length_map]; omega)) | (exfalso; simp_all [AllT]; done)))) ?_
    refine sw_step rfl rfl rfl (OpR.q (q_move rfl rfl)) ?_
    -- STOP at: t25  := call {callee=(value F83), args=[t23, t24], argTypes=[3, 3]} :3
    refine sw_step rfl rfl rfl (q_call (CanCall.mk Try.call83) rfl (.cons rfl inferInstance (.cons rfl inferInstance (.nil))) (fun _ w hw => callq hw (round_spec (nth a k * num) den (by omega) hd w))) ?_
    refine sw_step rfl rfl rfl (OpR.q (q_assign rfl rfl)) ?_
    refine sw_nil ?_
    refine post_then ?_
    refine cw_seq ?_
    refine cw_seq ?_
    -- region 7
    refine cw_region ?_
    refine sw_step rfl rfl rfl (OpR.q (q_move rfl rfl)) ?_
    refine sw_step rfl rfl rfl (OpR.q (q_move rfl rfl)) ?_
    refine sw_step rfl rfl rfl (q_call (CanCall.mk Try.call84) rfl (.cons rfl inferInstance (.nil)) (fun _ w hw => callq hw (clip_spec _ w))) ?_
    refine sw_step rfl rfl rfl (OpR.q (q_neq rfl rfl rfl)) ?_
    refine sw_nil ?_
    refine post_then ?_
    -- STOP at: cond
    refine cw_cond rfl (fun h2 => ?_) (fun h2 => ?_)
    · skip
      have h3 : cutTo a num den (k + 1) = cutTo a num den k + 1 := by
        simp only [cutTo]; rw [if_neg (by simpa using h2)]
      -- region 8
      refine cw_region ?_
      refine sw_step rfl rfl rfl (OpR.q (q_move rfl rfl)) ?_
      refine sw_step rfl rfl rfl (OpR.q (q_add rfl rfl rfl (by intro hc; first | omega | (simp only [List.length_set, List.length_append, List.length_cons, List.length_nil, List.length_replicate, List.length_take, List.length_drop, List.length_map]; omega) | (simp only [AllT.iff, List.all_cons, List.all_nil, id, Bool.and_eq_true, Bool.not_eq_true', decide_eq_true_eq, decide_eq_false_iff_not, and_true] at hc; first | omega | (simp only [List.length_set, List.length_append, List.length_cons, List.length_nil, List.length_replicate, List.length_take, List.length_drop, List.length_map]; omega)) | (exfalso; simp_all [AllT]; done)))) ?_
      refine sw_step rfl rfl rfl (OpR.q (q_assign rfl rfl)) ?_
      refine sw_nil ?_
      refine post_then ?_
      -- region 9
      refine cw_region ?_
      refine sw_step rfl rfl rfl (OpR.q (q_move rfl rfl)) ?_
      refine sw_step rfl rfl rfl (OpR.q (q_move rfl rfl)) ?_
      refine sw_step rfl rfl rfl (q_call (CanCall.mk Try.call84) rfl (.cons rfl inferInstance (.nil)) (fun _ w hw => callq hw (clip_spec _ w))) ?_
      refine sw_x rfl rfl rfl (e_build1 (α := Int) rfl rfl rfl rfl) (fun s35 => ?_)
      first | refine sw_x rfl rfl rfl (e_append (i := 0) rfl (.cons rfl inferInstance (.cons rfl inferInstance (.nil))) rfl rfl (by first | exact fun w hw => Stb.cl (by assumption) hw | exact fun w hw => rd_own hw (by first | assumption | (repeat first | exact .head _ | apply List.Mem.tail)) | assumption) (by simp only [List.length_set, List.length_append, List.length_cons, List.length_nil, List.length_replicate, List.length_take, List.length_drop, List.length_map]; omega) rfl) (fun s36 => ?_) | refine sw_x rfl rfl rfl (e_append (i := 1) rfl (.cons rfl inferInstance (.cons rfl inferInstance (.nil))) rfl rfl (by first | exact fun w hw => Stb.cl (by assumption) hw | exact fun w hw => rd_own hw (by first | assumption | (repeat first | exact .head _ | apply List.Mem.tail)) | assumption) (by simp only [List.length_set, List.length_append, List.length_cons, List.length_nil, List.length_replicate, List.length_take, List.length_drop, List.length_map]; omega) rfl) (fun s36 => ?_) | refine sw_x rfl rfl rfl (e_append (i := 2) rfl (.cons rfl inferInstance (.cons rfl inferInstance (.nil))) rfl rfl (by first | exact fun w hw => Stb.cl (by assumption) hw | exact fun w hw => rd_own hw (by first | assumption | (repeat first | exact .head _ | apply List.Mem.tail)) | assumption) (by simp only [List.length_set, List.length_append, List.length_cons, List.length_nil, List.length_replicate, List.length_take, List.length_drop, List.length_map]; omega) rfl) (fun s36 => ?_) | refine sw_x rfl rfl rfl (e_append (i := 3) rfl (.cons rfl inferInstance (.cons rfl inferInstance (.nil))) rfl rfl (by first | exact fun w hw => Stb.cl (by assumption) hw | exact fun w hw => rd_own hw (by first | assumption | (repeat first | exact .head _ | apply List.Mem.tail)) | assumption) (by simp only [List.length_set, List.length_append, List.length_cons, List.length_nil, List.length_replicate, List.length_take, List.length_drop, List.length_map]; omega) rfl) (fun s36 => ?_) | refine sw_x rfl rfl rfl (e_append (i := 4) rfl (.cons rfl inferInstance (.cons rfl inferInstance (.nil))) rfl rfl (by first | exact fun w hw => Stb.cl (by assumption) hw | exact fun w hw => rd_own hw (by first | assumption | (repeat first | exact .head _ | apply List.Mem.tail)) | assumption) (by simp only [List.length_set, List.length_append, List.length_cons, List.length_nil, List.length_replicate, List.length_take, List.length_drop, List.length_map]; omega) rfl) (fun s36 => ?_) | refine sw_x rfl rfl rfl (e_append (i := 5) rfl (.cons rfl inferInstance (.cons rfl inferInstance (.nil))) rfl rfl (by first | exact fun w hw => Stb.cl (by assumption) hw | exact fun w hw => rd_own hw (by first | assumption | (repeat first | exact .head _ | apply List.Mem.tail)) | assumption) (by simp only [List.length_set, List.length_append, List.length_cons, List.length_nil, List.length_replicate, List.length_take, List.length_drop, List.length_map]; omega) rfl) (fun s36 => ?_) | refine sw_x rfl rfl rfl (e_append (i := 6) rfl (.cons rfl inferInstance (.cons rfl inferInstance (.nil))) rfl rfl (by first | exact fun w hw => Stb.cl (by assumption) hw | exact fun w hw => rd_own hw (by first | assumption | (repeat first | exact .head _ | apply List.Mem.tail)) | assumption) (by simp only [List.length_set, List.length_append, List.length_cons, List.length_nil, List.length_replicate, List.length_take, List.length_drop, List.length_map]; omega) rfl) (fun s36 => ?_) | refine sw_x rfl rfl rfl (e_append (i := 7) rfl (.cons rfl inferInstance (.cons rfl inferInstance (.nil))) rfl rfl (by first | exact fun w hw => Stb.cl (by assumption) hw | exact fun w hw => rd_own hw (by first | assumption | (repeat first | exact .head _ | apply List.Mem.tail)) | assumption) (by simp only [List.length_set, List.length_append, List.length_cons, List.length_nil, List.length_replicate, List.length_take, List.length_drop, List.length_map]; omega) rfl) (fun s36 => ?_) | refine sw_x rfl rfl rfl (e_append (i := 8) rfl (.cons rfl inferInstance (.cons rfl inferInstance (.nil))) rfl rfl (by first | exact fun w hw => Stb.cl (by assumption) hw | exact fun w hw => rd_own hw (by first | assumption | (repeat first | exact .head _ | apply List.Mem.tail)) | assumption) (by simp only [List.length_set, List.length_append, List.length_cons, List.length_nil, List.length_replicate, List.length_take, List.length_drop, List.length_map]; omega) rfl) (fun s36 => ?_) | refine sw_x rfl rfl rfl (e_append (i := 9) rfl (.cons rfl inferInstance (.cons rfl inferInstance (.nil))) rfl rfl (by first | exact fun w hw => Stb.cl (by assumption) hw | exact fun w hw => rd_own hw (by first | assumption | (repeat first | exact .head _ | apply List.Mem.tail)) | assumption) (by simp only [List.length_set, List.length_append, List.length_cons, List.length_nil, List.length_replicate, List.length_take, List.length_drop, List.length_map]; omega) rfl) (fun s36 => ?_) | refine sw_x rfl rfl rfl (e_append (i := 10) rfl (.cons rfl inferInstance (.cons rfl inferInstance (.nil))) rfl rfl (by first | exact fun w hw => Stb.cl (by assumption) hw | exact fun w hw => rd_own hw (by first | assumption | (repeat first | exact .head _ | apply List.Mem.tail)) | assumption) (by simp only [List.length_set, List.length_append, List.length_cons, List.length_nil, List.length_replicate, List.length_take, List.length_drop, List.length_map]; omega) rfl) (fun s36 => ?_) | refine sw_x rfl rfl rfl (e_append (i := 11) rfl (.cons rfl inferInstance (.cons rfl inferInstance (.nil))) rfl rfl (by first | exact fun w hw => Stb.cl (by assumption) hw | exact fun w hw => rd_own hw (by first | assumption | (repeat first | exact .head _ | apply List.Mem.tail)) | assumption) (by simp only [List.length_set, List.length_append, List.length_cons, List.length_nil, List.length_replicate, List.length_take, List.length_drop, List.length_map]; omega) rfl) (fun s36 => ?_) | refine sw_x rfl rfl rfl (e_append (i := 12) rfl (.cons rfl inferInstance (.cons rfl inferInstance (.nil))) rfl rfl (by first | exact fun w hw => Stb.cl (by assumption) hw | exact fun w hw => rd_own hw (by first | assumption | (repeat first | exact .head _ | apply List.Mem.tail)) | assumption) (by simp only [List.length_set, List.length_append, List.length_cons, List.length_nil, List.length_replicate, List.length_take, List.length_drop, List.length_map]; omega) rfl) (fun s36 => ?_) | refine sw_x rfl rfl rfl (e_append (i := 13) rfl (.cons rfl inferInstance (.cons rfl inferInstance (.nil))) rfl rfl (by first | exact fun w hw => Stb.cl (by assumption) hw | exact fun w hw => rd_own hw (by first | assumption | (repeat first | exact .head _ | apply List.Mem.tail)) | assumption) (by simp only [List.length_set, List.length_append, List.length_cons, List.length_nil, List.length_replicate, List.length_take, List.length_drop, List.length_map]; omega) rfl) (fun s36 => ?_) | refine sw_x rfl rfl rfl (e_append (i := 14) rfl (.cons rfl inferInstance (.cons rfl inferInstance (.nil))) rfl rfl (by first | exact fun w hw => Stb.cl (by assumption) hw | exact fun w hw => rd_own hw (by first | assumption | (repeat first | exact .head _ | apply List.Mem.tail)) | assumption) (by simp only [List.length_set, List.length_append, List.length_cons, List.length_nil, List.length_replicate, List.length_take, List.length_drop, List.length_map]; omega) rfl) (fun s36 => ?_) | refine sw_x rfl rfl rfl (e_append (i := 15) rfl (.cons rfl inferInstance (.cons rfl inferInstance (.nil))) rfl rfl (by first | exact fun w hw => Stb.cl (by assumption) hw | exact fun w hw => rd_own hw (by first | assumption | (repeat first | exact .head _ | apply List.Mem.tail)) | assumption) (by simp only [List.length_set, List.length_append, List.length_cons, List.length_nil, List.length_replicate, List.length_take, List.length_drop, List.length_map]; omega) rfl) (fun s36 => ?_)
      refine sw_step rfl rfl rfl (OpR.q (q_assign rfl rfl)) ?_
      refine sw_nil ?_
      refine post_blk ?_
      refine post_then ?_
      -- region 5
      refine cw_region ?_
      refine sw_step rfl rfl rfl (OpR.q (q_move rfl rfl)) ?_
      refine sw_step rfl rfl rfl (OpR.q (q_add rfl rfl rfl (by intro hc; first | omega | (simp only [List.length_set, List.length_append, List.length_cons, List.length_nil, List.length_replicate, List.length_take, List.length_drop, List.length_map]; omega) | (simp only [AllT.iff, List.all_cons, List.all_nil, id, Bool.and_eq_true, Bool.not_eq_true', decide_eq_true_eq, decide_eq_false_iff_not, and_true] at hc; first | omega | (simp only [List.length_set, List.length_append, List.length_cons, List.length_nil, List.length_replicate, List.length_take, List.length_drop, List.length_map]; omega)) | (exfalso; simp_all [AllT]; done)))) ?_
      refine sw_step rfl rfl rfl (OpR.q (q_assign rfl rfl)) ?_
      refine sw_nil ?_
      exact post_next (k + 1, s36) (by rw [h3]; exact (by (repeat first | exact Le.nil | refine Le.cons rfl ?_ | refine Le.cons' rfl (by congr 1; first | omega | (simp only; omega)) ?_))) (fun w3 hw3 => by dsimp only; rw [gainTo_succ]; exact (fun w h => Cl.sel (by (repeat first | exact Sel.nil _ | refine Sel.take 0 rfl ?_ | refine Sel.take 1 rfl ?_ | refine Sel.take 2 rfl ?_ | refine Sel.take 3 rfl ?_ | refine Sel.take 4 rfl ?_ | refine Sel.take 5 rfl ?_ | refine Sel.take 6 rfl ?_ | refine Sel.take 7 rfl ?_ | refine Sel.take 8 rfl ?_ | refine Sel.take 9 rfl ?_ | refine Sel.take 10 rfl ?_ | refine Sel.take 11 rfl ?_)) w h) _ hw3) (by simp only; omega) (by simp only; omega)
    · skip
      have h3 : cutTo a num den (k + 1) = cutTo a num den k := by
        simp only [cutTo]; rw [if_pos (by simpa using h2)]; rfl
      refine cw_skip ?_
      refine post_then ?_
      -- region 9
      refine cw_region ?_
      refine sw_step rfl rfl rfl (OpR.q (q_move rfl rfl)) ?_
      refine sw_step rfl rfl rfl (OpR.q (q_move rfl rfl)) ?_
      refine sw_step rfl rfl rfl (q_call (CanCall.mk Try.call84) rfl (.cons rfl inferInstance (.nil)) (fun _ w hw => callq hw (clip_spec _ w))) ?_
      refine sw_x rfl rfl rfl (e_build1 (α := Int) rfl rfl rfl rfl) (fun s35 => ?_)
      first | refine sw_x rfl rfl rfl (e_append (i := 0) rfl (.cons rfl inferInstance (.cons rfl inferInstance (.nil))) rfl rfl (by first | exact fun w hw => Stb.cl (by assumption) hw | exact fun w hw => rd_own hw (by first | assumption | (repeat first | exact .head _ | apply List.Mem.tail)) | assumption) (by simp only [List.length_set, List.length_append, List.length_cons, List.length_nil, List.length_replicate, List.length_take, List.length_drop, List.length_map]; omega) rfl) (fun s36 => ?_) | refine sw_x rfl rfl rfl (e_append (i := 1) rfl (.cons rfl inferInstance (.cons rfl inferInstance (.nil))) rfl rfl (by first | exact fun w hw => Stb.cl (by assumption) hw | exact fun w hw => rd_own hw (by first | assumption | (repeat first | exact .head _ | apply List.Mem.tail)) | assumption) (by simp only [List.length_set, List.length_append, List.length_cons, List.length_nil, List.length_replicate, List.length_take, List.length_drop, List.length_map]; omega) rfl) (fun s36 => ?_) | refine sw_x rfl rfl rfl (e_append (i := 2) rfl (.cons rfl inferInstance (.cons rfl inferInstance (.nil))) rfl rfl (by first | exact fun w hw => Stb.cl (by assumption) hw | exact fun w hw => rd_own hw (by first | assumption | (repeat first | exact .head _ | apply List.Mem.tail)) | assumption) (by simp only [List.length_set, List.length_append, List.length_cons, List.length_nil, List.length_replicate, List.length_take, List.length_drop, List.length_map]; omega) rfl) (fun s36 => ?_) | refine sw_x rfl rfl rfl (e_append (i := 3) rfl (.cons rfl inferInstance (.cons rfl inferInstance (.nil))) rfl rfl (by first | exact fun w hw => Stb.cl (by assumption) hw | exact fun w hw => rd_own hw (by first | assumption | (repeat first | exact .head _ | apply List.Mem.tail)) | assumption) (by simp only [List.length_set, List.length_append, List.length_cons, List.length_nil, List.length_replicate, List.length_take, List.length_drop, List.length_map]; omega) rfl) (fun s36 => ?_) | refine sw_x rfl rfl rfl (e_append (i := 4) rfl (.cons rfl inferInstance (.cons rfl inferInstance (.nil))) rfl rfl (by first | exact fun w hw => Stb.cl (by assumption) hw | exact fun w hw => rd_own hw (by first | assumption | (repeat first | exact .head _ | apply List.Mem.tail)) | assumption) (by simp only [List.length_set, List.length_append, List.length_cons, List.length_nil, List.length_replicate, List.length_take, List.length_drop, List.length_map]; omega) rfl) (fun s36 => ?_) | refine sw_x rfl rfl rfl (e_append (i := 5) rfl (.cons rfl inferInstance (.cons rfl inferInstance (.nil))) rfl rfl (by first | exact fun w hw => Stb.cl (by assumption) hw | exact fun w hw => rd_own hw (by first | assumption | (repeat first | exact .head _ | apply List.Mem.tail)) | assumption) (by simp only [List.length_set, List.length_append, List.length_cons, List.length_nil, List.length_replicate, List.length_take, List.length_drop, List.length_map]; omega) rfl) (fun s36 => ?_) | refine sw_x rfl rfl rfl (e_append (i := 6) rfl (.cons rfl inferInstance (.cons rfl inferInstance (.nil))) rfl rfl (by first | exact fun w hw => Stb.cl (by assumption) hw | exact fun w hw => rd_own hw (by first | assumption | (repeat first | exact .head _ | apply List.Mem.tail)) | assumption) (by simp only [List.length_set, List.length_append, List.length_cons, List.length_nil, List.length_replicate, List.length_take, List.length_drop, List.length_map]; omega) rfl) (fun s36 => ?_) | refine sw_x rfl rfl rfl (e_append (i := 7) rfl (.cons rfl inferInstance (.cons rfl inferInstance (.nil))) rfl rfl (by first | exact fun w hw => Stb.cl (by assumption) hw | exact fun w hw => rd_own hw (by first | assumption | (repeat first | exact .head _ | apply List.Mem.tail)) | assumption) (by simp only [List.length_set, List.length_append, List.length_cons, List.length_nil, List.length_replicate, List.length_take, List.length_drop, List.length_map]; omega) rfl) (fun s36 => ?_) | refine sw_x rfl rfl rfl (e_append (i := 8) rfl (.cons rfl inferInstance (.cons rfl inferInstance (.nil))) rfl rfl (by first | exact fun w hw => Stb.cl (by assumption) hw | exact fun w hw => rd_own hw (by first | assumption | (repeat first | exact .head _ | apply List.Mem.tail)) | assumption) (by simp only [List.length_set, List.length_append, List.length_cons, List.length_nil, List.length_replicate, List.length_take, List.length_drop, List.length_map]; omega) rfl) (fun s36 => ?_) | refine sw_x rfl rfl rfl (e_append (i := 9) rfl (.cons rfl inferInstance (.cons rfl inferInstance (.nil))) rfl rfl (by first | exact fun w hw => Stb.cl (by assumption) hw | exact fun w hw => rd_own hw (by first | assumption | (repeat first | exact .head _ | apply List.Mem.tail)) | assumption) (by simp only [List.length_set, List.length_append, List.length_cons, List.length_nil, List.length_replicate, List.length_take, List.length_drop, List.length_map]; omega) rfl) (fun s36 => ?_) | refine sw_x rfl rfl rfl (e_append (i := 10) rfl (.cons rfl inferInstance (.cons rfl inferInstance (.nil))) rfl rfl (by first | exact fun w hw => Stb.cl (by assumption) hw | exact fun w hw => rd_own hw (by first | assumption | (repeat first | exact .head _ | apply List.Mem.tail)) | assumption) (by simp only [List.length_set, List.length_append, List.length_cons, List.length_nil, List.length_replicate, List.length_take, List.length_drop, List.length_map]; omega) rfl) (fun s36 => ?_) | refine sw_x rfl rfl rfl (e_append (i := 11) rfl (.cons rfl inferInstance (.cons rfl inferInstance (.nil))) rfl rfl (by first | exact fun w hw => Stb.cl (by assumption) hw | exact fun w hw => rd_own hw (by first | assumption | (repeat first | exact .head _ | apply List.Mem.tail)) | assumption) (by simp only [List.length_set, List.length_append, List.length_cons, List.length_nil, List.length_replicate, List.length_take, List.length_drop, List.length_map]; omega) rfl) (fun s36 => ?_) | refine sw_x rfl rfl rfl (e_append (i := 12) rfl (.cons rfl inferInstance (.cons rfl inferInstance (.nil))) rfl rfl (by first | exact fun w hw => Stb.cl (by assumption) hw | exact fun w hw => rd_own hw (by first | assumption | (repeat first | exact .head _ | apply List.Mem.tail)) | assumption) (by simp only [List.length_set, List.length_append, List.length_cons, List.length_nil, List.length_replicate, List.length_take, List.length_drop, List.length_map]; omega) rfl) (fun s36 => ?_) | refine sw_x rfl rfl rfl (e_append (i := 13) rfl (.cons rfl inferInstance (.cons rfl inferInstance (.nil))) rfl rfl (by first | exact fun w hw => Stb.cl (by assumption) hw | exact fun w hw => rd_own hw (by first | assumption | (repeat first | exact .head _ | apply List.Mem.tail)) | assumption) (by simp only [List.length_set, List.length_append, List.length_cons, List.length_nil, List.length_replicate, List.length_take, List.length_drop, List.length_map]; omega) rfl) (fun s36 => ?_) | refine sw_x rfl rfl rfl (e_append (i := 14) rfl (.cons rfl inferInstance (.cons rfl inferInstance (.nil))) rfl rfl (by first | exact fun w hw => Stb.cl (by assumption) hw | exact fun w hw => rd_own hw (by first | assumption | (repeat first | exact .head _ | apply List.Mem.tail)) | assumption) (by simp only [List.length_set, List.length_append, List.length_cons, List.length_nil, List.length_replicate, List.length_take, List.length_drop, List.length_map]; omega) rfl) (fun s36 => ?_) | refine sw_x rfl rfl rfl (e_append (i := 15) rfl (.cons rfl inferInstance (.cons rfl inferInstance (.nil))) rfl rfl (by first | exact fun w hw => Stb.cl (by assumption) hw | exact fun w hw => rd_own hw (by first | assumption | (repeat first | exact .head _ | apply List.Mem.tail)) | assumption) (by simp only [List.length_set, List.length_append, List.length_cons, List.length_nil, List.length_replicate, List.length_take, List.length_drop, List.length_map]; omega) rfl) (fun s36 => ?_)
      refine sw_step rfl rfl rfl (OpR.q (q_assign rfl rfl)) ?_
      refine sw_nil ?_
      refine post_blk ?_
      refine post_then ?_
      -- region 5
      refine cw_region ?_
      refine sw_step rfl rfl rfl (OpR.q (q_move rfl rfl)) ?_
      refine sw_step rfl rfl rfl (OpR.q (q_add rfl rfl rfl (by intro hc; first | omega | (simp only [List.length_set, List.length_append, List.length_cons, List.length_nil, List.length_replicate, List.length_take, List.length_drop, List.length_map]; omega) | (simp only [AllT.iff, List.all_cons, List.all_nil, id, Bool.and_eq_true, Bool.not_eq_true', decide_eq_true_eq, decide_eq_false_iff_not, and_true] at hc; first | omega | (simp only [List.length_set, List.length_append, List.length_cons, List.length_nil, List.length_replicate, List.length_take, List.length_drop, List.length_map]; omega)) | (exfalso; simp_all [AllT]; done)))) ?_
      refine sw_step rfl rfl rfl (OpR.q (q_assign rfl rfl)) ?_
      refine sw_nil ?_
      exact post_next (k + 1, s36) (by rw [h3]; exact (by (repeat first | exact Le.nil | refine Le.cons rfl ?_ | refine Le.cons' rfl (by congr 1; first | omega | (simp only; omega)) ?_))) (fun w3 hw3 => by dsimp only; rw [gainTo_succ]; exact (fun w h => Cl.sel (by (repeat first | exact Sel.nil _ | refine Sel.take 0 rfl ?_ | refine Sel.take 1 rfl ?_ | refine Sel.take 2 rfl ?_ | refine Sel.take 3 rfl ?_ | refine Sel.take 4 rfl ?_ | refine Sel.take 5 rfl ?_ | refine Sel.take 6 rfl ?_ | refine Sel.take 7 rfl ?_ | refine Sel.take 8 rfl ?_ | refine Sel.take 9 rfl ?_ | refine Sel.take 10 rfl ?_ | refine Sel.take 11 rfl ?_)) w h) _ hw3) (by simp only; omega) (by simp only; omega)
  · skip
    have hk' : k = a.length := by simp only [decide_eq_false_iff_not] at h; omega
    subst hk'
    refine cw_exit ?_
    refine post_then_x ?_
    refine post_then_x ?_
    refine post_blk_eq ?_
    refine post_then ?_
    refine cw_seq ?_
    -- region 10
    refine cw_region ?_
    refine sw_step rfl rfl rfl (OpR.q (q_move rfl rfl)) ?_
    refine sw_step rfl rfl rfl (OpR.q (q_move rfl rfl)) ?_
    refine sw_step rfl rfl rfl (OpR.q (q_assign rfl rfl)) ?_
    refine sw_step rfl rfl rfl (OpR.q (q_assign rfl rfl)) ?_
    refine sw_nil ?_
    refine post_then ?_
    refine cw_ret ?_
    refine post_ret2 rfl (resOk_tmp rfl) (resOk_tmp rfl) ?_
    exact fun w' hw => ⟨s, rfl, trivial, (fun w h => Cl.sel (by (repeat first | exact Sel.nil _ | refine Sel.take 0 rfl ?_ | refine Sel.take 1 rfl ?_ | refine Sel.take 2 rfl ?_ | refine Sel.take 3 rfl ?_ | refine Sel.take 4 rfl ?_ | refine Sel.take 5 rfl ?_ | refine Sel.take 6 rfl ?_ | refine Sel.take 7 rfl ?_ | refine Sel.take 8 rfl ?_ | refine Sel.take 9 rfl ?_ | refine Sel.take 10 rfl ?_ | refine Sel.take 11 rfl ?_)) w h) _ hw⟩

/-! ### what survives -/
theorem corr_subo {a c : List Int} {lo hi o : Nat} (h2 : hi ≤ a.length) : ∀ k, lo + o + k ≤ hi → corrTo ((a.take hi).drop lo) c o k = corrTo a c (lo + o) k
  | 0, _ => rfl
  | k + 1, h => by simp only [corrTo]; rw [corr_subo h2 k (by omega), nth_sub a lo hi (o + k) (by omega) h2, show lo + (o + k) = lo + o + k by omega]
theorem corr_keep {x w c : List Int} {o : Nat} {num den E sg : Int} (hs : sg = 1 ∨ sg = -1) (hc : IsChips c) : ∀ k, k ≤ c.length → (∀ i, o ≤ i → i < o + k → -E ≤ 2 * den * nth x i - 2 * num * nth w i ∧ 2 * den * nth x i - 2 * num * nth w i ≤ E) →
    -(E * k) ≤ sg * (2 * den * corrTo x c o k - 2 * num * corrTo w c o k)
  | 0, _, _ => by simp [corrTo]
  | k + 1, hk, h => by
    have ih := corr_keep (x := x) (w := w) (num := num) (den := den) (E := E) hs hc k (by omega) fun i h1 h2 => h i h1 (by omega)
    have hi := h (o + k) (by omega) (by omega)
    simp only [corrTo]
    rw [Int.mul_add (2 * den), Int.mul_add (2 * num), show E * ((k + 1 : Nat) : Int) = E * k + E by rw [Int.natCast_add, Int.mul_add]; simp]
    generalize 2 * den * corrTo x c o k = X at ih
    generalize 2 * num * corrTo w c o k = Y at ih
    generalize E * (k : Int) = K at ih
    rcases hc k (by omega) with h1 | h1 <;> rw [h1] <;> rcases hs with rfl | rfl <;> simp only [Int.mul_one, Int.mul_neg, Int.one_mul, Int.neg_mul] at ih ⊢ <;>
      (generalize 2 * den * nth x (o + k) = U at hi; generalize 2 * num * nth w (o + k) = V at hi; first | omega | skip)
theorem survive {thr margin num den most S T : Int} {P : Nat} (hden : 1 ≤ den) (hnum : 1 ≤ num) (hS : margin ≤ S) (hs : den * (2 * thr + P + 2 * most * P) ≤ 2 * margin * num) (h : -((den + 2 * den * most) * P) ≤ 2 * den * T - 2 * num * S) : thr ≤ T := by
  have h1 : 2 * margin * num ≤ 2 * num * S := by
    rw [Int.mul_assoc 2 margin num, Int.mul_comm margin num, ← Int.mul_assoc]
    exact Int.mul_le_mul_of_nonneg_left hS (by omega)
  have h2 : den * (2 * thr + P + 2 * most * P) = 2 * den * thr + (den + 2 * den * most) * P := by
    rw [Int.mul_add, Int.mul_add, Int.add_mul, ← Int.mul_assoc den 2 thr, Int.mul_comm den 2, ← Int.mul_assoc den (2 * most) (P : Int), ← Int.mul_assoc den 2 most, Int.mul_comm den 2]
    omega
  have h3 : 2 * den * thr ≤ 2 * den * T := by omega
  exact Int.le_of_mul_le_mul_left h3 (by omega)
end Go.Proofs.Ytekikelejncgeaa
