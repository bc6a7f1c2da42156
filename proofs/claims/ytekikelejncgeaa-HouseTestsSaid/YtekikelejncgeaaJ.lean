import Derived.Test.YtekikelejncgeaaI
set_option autoImplicit false
set_option linter.unusedSimpArgs false
set_option linter.unusedVariables false
set_option maxRecDepth 100000
namespace Go.Proofs.Ytekikelejncgeaa
open Go.Sx
open Enc (enc val)



/-- What the lows that are done bring: for each, the highs that reach the threshold. -/
def part (A B : Int → Int) (K2 : List Int) (t : Int) (a : Int) : Int := A a * sumK (fun h => if t ≤ a + h then B h else 0) K2
theorem sumK_take_succ (f : Int → Int) (K : List Int) (i : Nat) (h : i < K.length) : sumK f (K.take (i + 1)) = sumK f (K.take i) + f (nth K i) := by
  have e : K.take (i + 1) = K.take i ++ [nth K i] := by rw [List.take_add_one, List.getElem?_eq_getElem h, nth_get h]; rfl
  rw [e, sumK_append]; simp [sumK]
theorem sumK_drop (f : Int → Int) (K : List Int) (j : Nat) (h : j < K.length) : sumK f (K.drop j) = f (nth K j) + sumK f (K.drop (j + 1)) := by
  rw [List.drop_eq_getElem_cons h, sumK, nth_get h]
theorem pw_nth {K : List Int} (h : K.Pairwise (· ≤ ·)) {i j : Nat} (hij : i ≤ j) (hj : j < K.length) : nth K i ≤ nth K j := by
  rcases Nat.lt_or_eq_of_le hij with hlt | rfl
  · rw [nth_get (by omega), nth_get hj]
    exact List.pairwise_iff_getElem.1 h i j (by omega) hj hlt
  · omega
theorem sum_cut (B : Int → Int) {K : List Int} (t a : Int) {j : Nat} (hj : j ≤ K.length) (h1 : ∀ q, q < j → a + nth K q < t) (h2 : ∀ q, j ≤ q → q < K.length → t ≤ a + nth K q) :
    sumK (fun h => if t ≤ a + h then B h else 0) K = sumK B (K.drop j) := by
  rw [← List.take_append_drop j K, sumK_append]
  rw [sumK_zero (K := K.take j), Int.zero_add, List.take_append_drop]
  · refine sumK_congr fun k hk => ?_
    obtain ⟨q, hq, rfl⟩ := List.mem_iff_getElem.1 hk
    rw [List.getElem_drop]
    have hl : j + q < K.length := by simp at hq; omega
    have := h2 (j + q) (by omega) hl
    rw [nth_get hl] at this
    rw [if_pos this]
  · intro k hk
    obtain ⟨q, hq, rfl⟩ := List.mem_iff_getElem.1 hk
    rw [List.getElem_take]
    have hl : q < j := by simp at hq; omega
    have := h1 q hl
    rw [nth_get (by omega)] at this
    rw [if_neg (by omega)]
theorem atLeast_law {x1 x2 : List Int} {l1 l2 : List (Int × Int)} {K1 K2 : List Int} (h1 : SumOk x1 x1.length l1) (h2 : SumOk x2 x2.length l2) (n1 : (l1.map (·.1)).Nodup) (n2 : (l2.map (·.1)).Nodup) (p1 : K1.Perm (l1.map (·.1))) (p2 : K2.Perm (l2.map (·.1))) (t : Int) :
    sumK (part (getZ 0 l1) (getZ 0 l2) K2 t) K1 = countGE (x1 ++ x2) t := by
  have e2 : ∀ a, sumK (fun h => if t ≤ a + h then getZ 0 l2 h else 0) K2 = wsumL x2 (fun b => if t ≤ a + b then 1 else 0) := by
    intro a
    have := wsum_keys x2 x2.length K2 (fun h => if t ≤ a + h then 1 else 0) (p2.nodup_iff.2 n2) (fun s hs => p2.mem_iff.2 (h2.support s hs))
    rw [wsumTo_eq _ _ _ (Nat.le_refl _), List.take_length] at this
    rw [← this]
    refine sumK_congr fun k _ => ?_
    rw [h2.get]
    split <;> simp
  have := wsum_keys x1 x1.length K1 (fun a => wsumL x2 (fun b => if t ≤ a + b then 1 else 0)) (p1.nodup_iff.2 n1) (fun s hs => p1.mem_iff.2 (h1.support s hs))
  rw [wsumTo_eq _ _ _ (Nat.le_refl _), List.take_length] at this
  unfold countGE
  rw [wsumL_append, ← this]
  exact sumK_congr fun k _ => by rw [part, e2, h1.get]
theorem total {x : List Int} {l : List (Int × Int)} {K : List Int} (h : SumOk x x.length l) (n : (l.map (·.1)).Nodup) (p : K.Perm (l.map (·.1))) : sumK (getZ 0 l) K = 2 ^ x.length := by
  have := wsum_keys x x.length K (fun _ => 1) (p.nodup_iff.2 n) (fun s hs => p.mem_iff.2 (h.support s hs))
  rw [wsumTo_eq _ _ _ (Nat.le_refl _), List.take_length, wsumL_const, Int.mul_one] at this
  rw [← this]
  exact sumK_congr fun k _ => by rw [h.get, Int.mul_one]
theorem nth_bd {lo hi : Int} (h0 : lo ≤ 0 ∧ 0 ≤ hi) {l : List Int} (h : ∀ v ∈ l, lo ≤ v ∧ v ≤ hi) (k : Nat) : lo ≤ nth l k ∧ nth l k ≤ hi := by
  by_cases hk : k < l.length
  · rw [nth_get hk]; exact h _ (List.getElem_mem hk)
  · rw [nth_out _ _ (by omega)]; exact h0
theorem sumK_take_le {f : Int → Int} (hf : ∀ k, 0 ≤ f k) (K : List Int) (i : Nat) : 0 ≤ sumK f (K.take i) ∧ sumK f (K.take i) ≤ sumK f K := by
  have h := sumK_append f (K.take i) (K.drop i)
  rw [List.take_append_drop] at h
  have h1 := sumK_nn (f := f) (K := K.take i) fun k _ => hf k
  have h2 := sumK_nn (f := f) (K := K.drop i) fun k _ => hf k
  omega
theorem sumK_drop_le {f : Int → Int} (hf : ∀ k, 0 ≤ f k) (K : List Int) (i : Nat) : 0 ≤ sumK f (K.drop i) ∧ sumK f (K.drop i) ≤ sumK f K := by
  have h := sumK_append f (K.take i) (K.drop i)
  rw [List.take_append_drop] at h
  have h1 := sumK_nn (f := f) (K := K.take i) fun k _ => hf k
  have h2 := sumK_nn (f := f) (K := K.drop i) fun k _ => hf k
  omega

theorem atLeast_spec (sx : SlV) (x : List Int) (t : Int) (w : World) (hx : Stb w [] (RdL sx.v x)) (hl : x.length ≤ 6) (hv : ∀ v ∈ x, -1000000000 ≤ v ∧ v ≤ 1000000000) :
    Calls Try.prog 65 #[sx.v, .int .i64 t] w fun e w' => ∃ u : Unit, e = .returned (.int .i64 (countGE x t)) ∧ True ∧ Cl w [] [] w' := by
  let M := ((x.length : Int) / 2).toNat
  have hM : M ≤ 3 ∧ x.length - M ≤ 3 ∧ M ≤ x.length := by simp only [M]; omega
  have hx12 : (x.take M).drop 0 ++ (x.take x.length).drop M = x := by simp
  have l1 : ((x.take M).drop 0).length ≤ 3 := by simp; omega
  have l2 : ((x.take x.length).drop M).length ≤ 3 := by simp; omega
  have v1 := nth_bd (lo := -1000000000) (hi := 1000000000) (by omega) (l := (x.take M).drop 0) fun v h => hv v (List.mem_of_mem_take (List.mem_of_mem_drop h))
  have v2 := nth_bd (lo := -1000000000) (hi := 1000000000) (by omega) (l := (x.take x.length).drop M) fun v h => hv v (List.mem_of_mem_take (List.mem_of_mem_drop h))
  refine calls_cw (vs := [_, _]) Try.func65 rfl Try.ntmps65 rfl (Cl.start0 w) ?_
  refine cw_seq ?_
  -- region 0
  refine cw_region ?_
  refine sw_step rfl rfl rfl (OpR.q (q_assign rfl rfl)) ?_
  refine sw_nil ?_
  refine post_then ?_
  refine cw_seq ?_
  -- region 1
  -- STOP: a region with effects that draws its order
  refine cw_region_a (Cl w [] []) [] mixed_Try ?_
  refine aw_pure 0 rfl (by kernel_rfl) (by kernel_rfl) (by kernel_rfl) (by kernel_rfl) (by kernel_rfl) rfl rfl rfl (q_move rfl rfl) ?_
  refine aw_pure 1 rfl (by kernel_rfl) (by kernel_rfl) (by kernel_rfl) (by kernel_rfl) (by kernel_rfl) rfl rfl rfl (q_move rfl rfl) ?_
  refine aw_take 2 (fun w h => Cl.sel (by exact .nil _) w h) rfl (by kernel_rfl) (by kernel_rfl) (by kernel_rfl) (by kernel_rfl) (by kernel_rfl) (by kernel_rfl) rfl rfl rfl (q_len rfl (.cons rfl inferInstance (.nil)) (by exact fun w hw => Stb.cl (by assumption) hw)) ?_
  refine aw_pure 3 rfl (by kernel_rfl) (by kernel_rfl) (by kernel_rfl) (by kernel_rfl) (by kernel_rfl) rfl rfl rfl (q_quo rfl rfl rfl (by intro hc; omega)) ?_
  refine aw_take 4 (fun w h => Cl.sel (by exact .nil _) w h) rfl (by kernel_rfl) (by kernel_rfl) (by kernel_rfl) (by kernel_rfl) (by kernel_rfl) (by kernel_rfl) rfl rfl rfl (q_sliceH rfl rfl rfl (by exact fun w hw => Stb.cl (by assumption) hw) (by intro hc; omega)) ?_
  refine aw_pure 6 rfl (by kernel_rfl) (by kernel_rfl) (by kernel_rfl) (by kernel_rfl) (by kernel_rfl) rfl rfl rfl (q_move rfl rfl) ?_
  refine aw_pure 7 rfl (by kernel_rfl) (by kernel_rfl) (by kernel_rfl) (by kernel_rfl) (by kernel_rfl) rfl rfl rfl (q_move rfl rfl) ?_
  refine aw_take 8 (fun w h => Cl.sel (by exact .nil _) w h) rfl (by kernel_rfl) (by kernel_rfl) (by kernel_rfl) (by kernel_rfl) (by kernel_rfl) (by kernel_rfl) rfl rfl rfl (q_len rfl (.cons rfl inferInstance (.nil)) (by exact fun w hw => Stb.cl (by assumption) hw)) ?_
  refine aw_pure 9 rfl (by kernel_rfl) (by kernel_rfl) (by kernel_rfl) (by kernel_rfl) (by kernel_rfl) rfl rfl rfl (q_quo rfl rfl rfl (by intro hc; omega)) ?_
  refine aw_take 10 (fun w h => Cl.sel (by exact .nil _) w h) rfl (by kernel_rfl) (by kernel_rfl) (by kernel_rfl) (by kernel_rfl) (by kernel_rfl) (by kernel_rfl) rfl rfl rfl (q_sliceL rfl rfl rfl (by exact fun w hw => Stb.cl (by assumption) hw) (by intro hc; omega)) ?_
  -- STOP at: 5 t19  := call {callee=(value F93), args=[t18], argTypes=[37]} :124
  refine aw_x 5 (by kernel_rfl) rfl rfl rfl rfl (e_call (CanCall.mk Try.call93) rfl (.cons rfl inferInstance (.nil)) (fun w hw => sums_spec (sx.sub 1 0 M) _ w (stb_sub (stb_arg hw hx) (Nat.zero_le _) hM.2.2) (by omega) v1)) (by intro hb; exact fun _ w h => (fun w h => Cl.sel (by exact .nil _) w h) w h.2) (fun y19 => ?_)
  refine aw_imp fun ok1 => ?_
  -- STOP at: 11 t25  := call {callee=(value F93), args=[t24], argTypes=[37]} :124
  refine aw_x 11 (by kernel_rfl) rfl rfl rfl rfl (e_call (CanCall.mk Try.call93) rfl (.cons rfl inferInstance (.nil)) (fun w hw => sums_spec (sx.sub 1 M x.length) _ w (stb_sub (stb_arg hw hx) hM.2.2 (Nat.le_refl _)) (by omega) v2)) (by intro hb; exact fun _ w h => (fun w h => Cl.sel (by exact .nil _) w h) w h.2) (fun y25 => ?_)
  refine aw_imp fun ok2 => ?_
  obtain ⟨b1, m1⟩ := y19
  obtain ⟨b2, m2⟩ := y25
  dsimp only at ok1 ok2 ⊢
  refine aw_pure 12 rfl (by kernel_rfl) (by kernel_rfl) (by kernel_rfl) (by kernel_rfl) (by kernel_rfl) rfl rfl rfl (q_assign rfl rfl) ?_
  refine aw_pure 13 rfl (by kernel_rfl) (by kernel_rfl) (by kernel_rfl) (by kernel_rfl) (by kernel_rfl) rfl rfl rfl (q_assign rfl rfl) ?_
  refine aw_end (by kernel_rfl) ?_
  refine post_then ?_
  refine cw_seq ?_
  -- region 2
  refine cw_region ?_
  refine sw_step rfl rfl rfl (OpR.q (q_move rfl rfl)) ?_
  -- STOP at: t27  := call {callee=(value F94), args=[t26], argTypes=[124]} :37
  refine sw_le (cl_open (i := 1) rfl) ?_
  refine sw_ex fun es1 => sw_ex fun c1 => sw_imp fun hok => ?_
  obtain ⟨eo1, rfl⟩ := hok
  refine sw_le (cl_open (i := 0) rfl) ?_
  refine sw_ex fun es2 => sw_ex fun c2 => sw_imp fun hok => ?_
  obtain ⟨eo2, rfl⟩ := hok
  have z1 : es1.length ≤ 12 := by
    have h1 := ok1.size
    have h2 := Nat.pow_le_pow_right (n := 2) (by decide) l1
    simp only [kvs, List.length_map] at h1
    omega
  have z2 : es2.length ≤ 12 := by
    have h1 := ok2.size
    have h2 := Nat.pow_le_pow_right (n := 2) (by decide) l2
    simp only [kvs, List.length_map] at h1
    omega
  refine sw_x rfl rfl rfl (e_call (CanCall.mk Try.call94) rfl (.cons rfl inferInstance (.nil)) (fun w hw => keys_spec b1 c1 es1 eo1 z1 w (stb_raw hw (by exact .tail _ (.head _))))) (fun y27 => ?_)
  refine sw_imp fun hk1 => ?_
  obtain ⟨sk1, K1⟩ := y27
  refine sw_step rfl rfl rfl (OpR.q (q_move rfl rfl)) ?_
  -- STOP at: t29  := call {callee=(value F94), args=[t28], argTypes=[124]} :37
  refine sw_x rfl rfl rfl (e_call (CanCall.mk Try.call94) rfl (.cons rfl inferInstance (.nil)) (fun w hw => keys_spec b2 c2 es2 eo2 z2 w (stb_raw hw (by exact .tail _ (.head _))))) (fun y29 => ?_)
  refine sw_imp fun hk2 => ?_
  obtain ⟨sk2, K2⟩ := y29
  dsimp only at hk1 hk2 ⊢
  obtain ⟨p1, s1⟩ := hk1
  obtain ⟨p2, s2⟩ := hk2
  have n1 : ((kvs es1).map (·.1)).Nodup := by rw [kvs_keys]; exact eo1.keys
  have n2 : ((kvs es2).map (·.1)).Nodup := by rw [kvs_keys]; exact eo2.keys
  rw [← kvs_keys] at p1 p2
  have hlaw := atLeast_law ok1 ok2 n1 n2 p1 p2 t
  have ht2 := total ok2 n2 p2
  rw [hx12] at hlaw
  have hcb := countGE_bd x t
  have hA : ∀ k, 0 ≤ getZ 0 (kvs es1) k := fun k => by rw [ok1.get]; exact (waysTo_bd _ _ _).1
  have hB : ∀ k, 0 ≤ getZ 0 (kvs es2) k := fun k => by rw [ok2.get]; exact (waysTo_bd _ _ _).1
  have hP : ∀ a, 0 ≤ part (getZ 0 (kvs es1)) (getZ 0 (kvs es2)) K2 t a := fun a => Int.mul_nonneg (hA a) (sumK_nn fun k _ => by split; exact hB k; omega)
  have kb1 := nth_bd (lo := -40000000000) (hi := 40000000000) (by omega) (l := K1) fun v h => by
    have := ok1.keys v (p1.mem_iff.1 h); omega
  have kb2 := nth_bd (lo := -40000000000) (hi := 40000000000) (by omega) (l := K2) fun v h => by
    have := ok2.keys v (p2.mem_iff.1 h); omega
  have pl6 : (2 : Int) ^ x.length ≤ 2 ^ 40 := two_pow_le (by omega)
  have pl2 : (2 : Int) ^ ((x.take x.length).drop M).length ≤ 2 ^ 40 := two_pow_le (by omega)
  have k1l : K1.length ≤ 12 := by rw [p1.length_eq]; simpa [kvs] using z1
  have k2l : K2.length ≤ 12 := by rw [p2.length_eq]; simpa [kvs] using z2
  refine sw_step rfl rfl rfl (OpR.q (q_assign rfl rfl)) ?_
  refine sw_step rfl rfl rfl (OpR.q (q_assign rfl rfl)) ?_
  refine sw_nil ?_
  refine post_then ?_
  refine cw_seq ?_
  -- region 3
  refine cw_region ?_
  refine sw_step rfl rfl rfl (OpR.q (q_assign rfl rfl)) ?_
  refine sw_step rfl rfl rfl (OpR.q (q_assign rfl rfl)) ?_
  refine sw_nil ?_
  refine post_then ?_
  refine cw_seq ?_
  -- region 4
  refine cw_region ?_
  refine sw_step rfl rfl rfl (OpR.q (q_move rfl rfl)) ?_
  refine sw_step rfl rfl rfl (OpR.q (q_len rfl (.cons rfl inferInstance (.nil)) (by exact fun w hw => rd_own hw (by exact .head _)))) ?_
  refine sw_step rfl rfl rfl (OpR.q (q_assign rfl rfl)) ?_
  refine sw_nil ?_
  refine post_then ?_
  refine cw_seq ?_
  refine cw_seq ?_
  -- region 5
  refine cw_region ?_
  refine sw_step rfl rfl rfl (OpR.q (q_move rfl rfl)) ?_
  refine sw_step rfl rfl rfl (OpR.q (q_len rfl (.cons rfl inferInstance (.nil)) (by exact fun w hw => rd_own hw (by exact .tail _ (.head _))))) ?_
  refine sw_step rfl rfl rfl (OpR.q (q_move rfl rfl)) ?_
  refine sw_nil ?_
  refine post_then ?_
  refine cw_block ?_
  -- STOP at: loop
  refine cw_loop (S := Nat × Nat × Int × Int) (fun y => [(1, [], .int .i64 t), (5, [], .map (some b1)), (6, [], .map (some b2)), (8, [], sk2.v), (9, [], .int .i64 y.2.2.2), (10, [], .int .i64 y.2.2.1), (11, [], .int .i64 y.2.1), (32, [], sk1.v), (33, [], .int .i64 K1.length), (34, [], .int .i64 y.1)])
    (fun _ => Cl w [] [ownL 3 sk2.v K2, ownL 3 sk1.v K1, obj b2 (mapO es2 c2), obj b1 (mapO es1 c1)])
    (fun y => y.1 ≤ K1.length ∧ y.2.1 ≤ K2.length ∧ y.2.2.1 = sumK (getZ 0 (kvs es2)) (K2.drop y.2.1) ∧ y.2.2.2 = sumK (part (getZ 0 (kvs es1)) (getZ 0 (kvs es2)) K2 t) (K1.take y.1) ∧ ∀ p, y.1 ≤ p → p < K1.length → ∀ q, y.2.1 ≤ q → q < K2.length → t ≤ nth K1 p + nth K2 q)
    (fun y => K1.length - y.1) (0, K2.length, 0, 0) ⟨by simp, by simp, by simp [sumK], by simp [sumK], fun p _ _ q h1 h2 => by simp only at h1; omega⟩ (by exact .cons rfl (.cons rfl (.cons rfl (.cons rfl (.cons rfl (.cons rfl (.cons rfl (.cons rfl (.cons rfl (.cons rfl .nil)))))))))) (fun w h => Cl.sel (by exact .take 0 rfl (.take 0 rfl (.take 0 rfl (.take 0 rfl (.nil _))))) w h) ?_
  rintro ⟨i, j, o, n⟩ ⟨hi, hj, ho, hn, hpq⟩
  dsimp only at hi hj ho hn hpq ⊢
  refine cw_seq ?_
  -- region 6
  refine cw_region ?_
  refine sw_step rfl rfl rfl (OpR.q (q_lss rfl rfl rfl)) ?_
  refine sw_nil ?_
  refine post_then ?_
  refine cw_seq ?_
  -- STOP at: cond
  refine cw_cond rfl (fun h => ?_) (fun h => ?_)
  · skip
    have hi' : i < K1.length := by simp at h; omega
    have e1 := sumK_take_succ (part (getZ 0 (kvs es1)) (getZ 0 (kvs es2)) K2 t) K1 i hi'
    have e2 := sumK_take_le hP K1 (i + 1)
    have e3 := sumK_take_le hP K1 i
    have k1i := kb1 i
    refine cw_skip ?_
    refine post_then ?_
    refine cw_seq ?_
    refine cw_block ?_
    refine cw_seq ?_
    -- region 7
    refine cw_region ?_
    refine sw_step rfl rfl rfl (OpR.q (q_indexN rfl rfl rfl (by exact fun w hw => rd_own hw (by exact .tail _ (.head _))) (by intro hc; omega))) ?_
    refine sw_step rfl rfl rfl (OpR.q (q_loadEl rfl rfl rfl (by exact fun w hw => rd_own hw (by exact .tail _ (.head _))) (by intro hc; omega))) ?_
    refine sw_step rfl rfl rfl (OpR.q (q_assign rfl rfl)) ?_
    refine sw_nil ?_
    refine post_then ?_
    refine cw_seq ?_
    refine cw_block ?_
    -- STOP at: loop
    refine cw_loop (S := Nat × Int) (fun y => [(1, [], .int .i64 t), (5, [], .map (some b1)), (6, [], .map (some b2)), (8, [], sk2.v), (9, [], .int .i64 n), (10, [], .int .i64 y.2), (11, [], .int .i64 y.1), (13, [], .int .i64 (nth K1 i)), (32, [], sk1.v), (33, [], .int .i64 K1.length), (34, [], .int .i64 i)])
      (fun _ => Cl w [] [ownL 3 sk2.v K2, ownL 3 sk1.v K1, obj b2 (mapO es2 c2), obj b1 (mapO es1 c1)])
      (fun y => y.1 ≤ K2.length ∧ y.2 = sumK (getZ 0 (kvs es2)) (K2.drop y.1) ∧ ∀ q, y.1 ≤ q → q < K2.length → t ≤ nth K1 i + nth K2 q)
      (fun y => y.1) (j, o) ⟨hj, ho, fun q h1 h2 => hpq i (Nat.le_refl _) hi' q h1 h2⟩ (by exact .cons rfl (.cons rfl (.cons rfl (.cons rfl (.cons rfl (.cons rfl (.cons rfl (.cons rfl (.cons rfl (.cons rfl (.cons rfl .nil))))))))))) (fun _ h => h) ?_
    rintro ⟨g, u⟩ ⟨hg, hu, hq⟩
    dsimp only at hg hu hq ⊢
    have eg : ((g : Int) - 1).toNat = g - 1 := by omega
    have k2g := kb2 ((g : Int) - 1).toNat
    have u1 := sumK_drop_le hB K2 g
    have u2 := sumK_drop_le hB K2 ((g : Int) - 1).toNat
    refine cw_seq ?_
    refine cw_seq ?_
    -- region 8
    refine cw_region ?_
    refine sw_step rfl rfl rfl (OpR.q (q_move rfl rfl)) ?_
    refine sw_step rfl rfl rfl (OpR.q (q_gtr rfl rfl rfl)) ?_
    refine sw_step rfl rfl rfl (OpR.q (q_move rfl rfl)) ?_
    refine sw_step rfl rfl rfl (OpR.q (q_move rfl rfl)) ?_
    refine sw_step rfl rfl rfl (OpR.q (q_move rfl rfl)) ?_
    refine sw_step rfl rfl rfl (OpR.q (q_move rfl rfl)) ?_
    refine sw_step rfl rfl rfl (OpR.q (q_sub rfl rfl rfl (by intro hc; omega))) ?_
    refine sw_step rfl rfl rfl (OpR.q (q_index rfl rfl rfl (by exact fun w hw => rd_own hw (by exact .head _)) (by intro hc; (simp only [AllT.iff, List.all_cons, List.all_nil, id, Bool.and_eq_true, Bool.not_eq_true', decide_eq_true_eq, decide_eq_false_iff_not, and_true] at hc; omega)))) ?_
    refine sw_step rfl rfl rfl (OpR.q (q_loadEl rfl rfl rfl (by exact fun w hw => rd_own hw (by exact .head _)) (by intro hc; (simp only [AllT.iff, List.all_cons, List.all_nil, id, Bool.and_eq_true, Bool.not_eq_true', decide_eq_true_eq, decide_eq_false_iff_not, and_true] at hc; omega)))) ?_
    refine sw_step rfl rfl rfl (OpR.q (q_add rfl rfl rfl (by intro hc; omega))) ?_
    refine sw_step rfl rfl rfl (OpR.q (q_move rfl rfl)) ?_
    refine sw_step rfl rfl rfl (OpR.q (q_geq rfl rfl rfl)) ?_
    refine sw_step rfl rfl rfl (OpR.q (q_and2 rfl rfl rfl)) ?_
    refine sw_nil ?_
    refine post_then ?_
    -- STOP at: cond
    refine cw_cond rfl (fun h2 => ?_) (fun h2 => ?_)
    · skip
      have h3 : 0 < g ∧ t ≤ nth K1 i + nth K2 (g - 1) := by
        simp only [Bool.and_eq_true, decide_eq_true_eq] at h2
        rw [eg] at h2
        omega
      have u3 := sumK_drop (getZ 0 (kvs es2)) K2 (g - 1) (by omega)
      have eg2 : g - 1 + 1 = g := by omega
      rw [eg2] at u3
      rw [← eg] at u3
      refine cw_skip ?_
      refine post_then ?_
      refine cw_block ?_
      refine cw_seq ?_
      -- region 9
      refine cw_region ?_
      refine sw_step rfl rfl rfl (OpR.q (q_move rfl rfl)) ?_
      refine sw_step rfl rfl rfl (OpR.q (q_sub rfl rfl rfl (by intro hc; omega))) ?_
      refine sw_step rfl rfl rfl (OpR.q (q_assign rfl rfl)) ?_
      refine sw_nil ?_
      refine post_then ?_
      -- region 10
      refine cw_region ?_
      refine sw_step rfl rfl rfl (OpR.q (q_move rfl rfl)) ?_
      refine sw_step rfl rfl rfl (OpR.q (q_move rfl rfl)) ?_
      refine sw_step rfl rfl rfl (OpR.q (q_move rfl rfl)) ?_
      refine sw_step rfl rfl rfl (OpR.q (q_move rfl rfl)) ?_
      refine sw_step rfl rfl rfl (OpR.q (q_index rfl rfl rfl (by exact fun w hw => rd_own hw (by exact .head _)) (by intro hc; omega))) ?_
      refine sw_step rfl rfl rfl (OpR.q (q_loadEl rfl rfl rfl (by exact fun w hw => rd_own hw (by exact .head _)) (by intro hc; omega))) ?_
      refine sw_step rfl rfl rfl (OpR.q (q_lookup (κ := Int) (ν := Int) rfl rfl rfl (by exact fun w hw => rdm_raw hw (by exact .tail _ (.tail _ (.head _))) (by assumption)))) ?_
      refine sw_step rfl rfl rfl (OpR.q (q_add rfl rfl rfl (by intro hc; omega))) ?_
      refine sw_step rfl rfl rfl (OpR.q (q_assign rfl rfl)) ?_
      refine sw_nil ?_
      refine post_blk ?_
      refine post_next (g - 1, u + getZ 0 (kvs es2) (nth K2 ((g : Int) - 1).toNat)) (by exact .cons rfl (.cons rfl (.cons rfl (.cons rfl (.cons rfl (.cons rfl (.cons' rfl (by congr 1; first | omega | (simp only; omega)) (.cons rfl (.cons rfl (.cons rfl (.cons rfl .nil))))))))))) (fun _ h => h) ⟨by simp only; omega, ?_, fun q h1 h2 => ?_⟩ (by simp only; omega)
      · simp only
        rw [← eg]
        omega
      · simp only at h1
        by_cases hh : q = g - 1
        · rw [hh]; exact h3.2
        · exact hq q (by omega) h2
    · skip
      have h3 : ∀ q, q < g → nth K1 i + nth K2 q < t := by
        intro q hqg
        have h4 := pw_nth s2 (i := q) (j := g - 1) (by omega) (by omega)
        have h5 : ¬ t ≤ nth K1 i + nth K2 (g - 1) := by
          intro h6
          rw [eg] at h2
          have : decide (0 < (g : Int)) = true := by simp; omega
          simp [this] at h2
          omega
        omega
      have hpart : part (getZ 0 (kvs es1)) (getZ 0 (kvs es2)) K2 t (nth K1 i) = getZ 0 (kvs es1) (nth K1 i) * u := by
        rw [part, sum_cut _ t (nth K1 i) hg h3 hq, hu]
      rw [hpart] at e1
      refine cw_exit ?_
      refine post_then_x ?_
      refine post_then_x ?_
      refine post_blk_eq ?_
      refine post_then ?_
      -- region 11
      refine cw_region ?_
      refine sw_step rfl rfl rfl (OpR.q (q_move rfl rfl)) ?_
      refine sw_step rfl rfl rfl (OpR.q (q_move rfl rfl)) ?_
      refine sw_step rfl rfl rfl (OpR.q (q_move rfl rfl)) ?_
      refine sw_step rfl rfl rfl (OpR.q (q_lookup (κ := Int) (ν := Int) rfl rfl rfl (by exact fun w hw => rdm_raw hw (by exact .tail _ (.tail _ (.tail _ (.head _)))) (by assumption)))) ?_
      refine sw_step rfl rfl rfl (OpR.q (q_move rfl rfl)) ?_
      refine sw_step rfl rfl rfl (OpR.q (q_mul rfl rfl rfl (by intro hc; omega))) ?_
      refine sw_step rfl rfl rfl (OpR.q (q_add rfl rfl rfl (by intro hc; omega))) ?_
      refine sw_step rfl rfl rfl (OpR.q (q_assign rfl rfl)) ?_
      refine sw_nil ?_
      refine post_blk ?_
      refine post_then ?_
      -- region 12
      refine cw_region ?_
      refine sw_step rfl rfl rfl (OpR.q (q_add rfl rfl rfl (by intro hc; omega))) ?_
      refine sw_step rfl rfl rfl (OpR.q (q_move rfl rfl)) ?_
      refine sw_nil ?_
      refine post_next (i + 1, g, u, n + getZ 0 (kvs es1) (nth K1 i) * u) (by exact .cons rfl (.cons rfl (.cons rfl (.cons rfl (.cons rfl (.cons rfl (.cons rfl (.cons rfl (.cons rfl (.cons rfl .nil)))))))))) (fun _ h => h) ⟨by simp only; omega, hg, hu, by simp only; omega, fun p h4 h5 q h6 h7 => ?_⟩ (by simp only; omega)
      have := pw_nth s1 (i := i) (j := p) (by simp only at h4; omega) h5
      have := hq q h6 h7
      omega
  · skip
    have hi' : i = K1.length := by simp at h; omega
    subst hi'
    rw [List.take_length, hlaw] at hn
    refine cw_exit ?_
    refine post_then_x ?_
    refine post_then_x ?_
    refine post_blk_eq ?_
    refine post_then ?_
    refine cw_seq ?_
    -- region 13
    refine cw_region ?_
    refine sw_step rfl rfl rfl (OpR.q (q_move rfl rfl)) ?_
    refine sw_step rfl rfl rfl (OpR.q (q_assign rfl rfl)) ?_
    refine sw_nil ?_
    refine post_then ?_
    refine cw_ret ?_
    refine post_ret1 rfl (resOk_tmp rfl) ?_
    exact fun w' hw => ⟨(), by rw [hn], trivial, (fun w h => Cl.sel (by exact .nil _) w h) _ hw⟩
end Go.Proofs.Ytekikelejncgeaa
