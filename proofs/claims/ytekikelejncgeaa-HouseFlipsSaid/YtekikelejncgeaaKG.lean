import Derived.Test.YtekikelejncgeaaHG
set_option autoImplicit false
set_option linter.unusedSimpArgs false
set_option linter.unusedVariables false
set_option maxRecDepth 100000
namespace Go.Proofs.Ytekikelejncgeaa
open Go.Sx
open Enc (enc val)

theorem atLeastG_spec (sx : SlV) (x : List Int) (t : Int) (w : World) (hx : Stb w [] (RdL sx.v x)) (hl : x.length ≤ 40) (hv : ∀ v ∈ x, -1000000000 ≤ v ∧ v ≤ 1000000000) :
    Calls Try.prog 65 #[sx.v, .int .i64 t] w fun e w' => ∃ u : Unit, e = .returned (.int .i64 (countGE x t)) ∧ True ∧ Cl w [] [] w' := by
  let M := ((x.length : Int) / 2).toNat
  have hM : M ≤ 20 ∧ x.length - M ≤ 20 ∧ M ≤ x.length := by simp only [M]; omega
  have hx12 : (x.take M).drop 0 ++ (x.take x.length).drop M = x := by simp
  have l1 : ((x.take M).drop 0).length ≤ 20 := by simp; omega
  have l2 : ((x.take x.length).drop M).length ≤ 20 := by simp; omega
  have v1 := nth_bd (lo := -1000000000) (hi := 1000000000) (by omega) (l := (x.take M).drop 0) fun v h => hv v (List.mem_of_mem_take (List.mem_of_mem_drop h))
  have v2 := nth_bd (lo := -1000000000) (hi := 1000000000) (by omega) (l := (x.take x.length).drop M) fun v h => hv v (List.mem_of_mem_take (List.mem_of_mem_drop h))
  refine calls_cw (vs := [_, _]) Try.func65 rfl Try.ntmps65 rfl (Cl.start0 w) ?_
  refine cw_seq ?_
  -- region 0
  refine cw_region ?_
  refine sw_step rfl rfl rfl (OpR.q (q_assign rfl rfl)) ?_
  refine sw_nil ?_
  refine post_then ?_
  refine cw_seq ?_
  -- region 1
  -- STOP: a region with effects that draws its order
  refine cw_region_a (Cl w [] []) [] mixed_Try ?_
  refine aw_pure 0 rfl (by kernel_rfl) (by kernel_rfl) (by kernel_rfl) (by kernel_rfl) (by kernel_rfl) rfl rfl rfl (q_move rfl rfl) ?_
  refine aw_pure 1 rfl (by kernel_rfl) (by kernel_rfl) (by kernel_rfl) (by kernel_rfl) (by kernel_rfl) rfl rfl rfl (q_move rfl rfl) ?_
  first | refine aw_take 2 (fun w h => Cl.sel (by (repeat first | exact Sel.nil _ | refine Sel.take 0 rfl ?_ | refine Sel.take 1 rfl ?_ | refine Sel.take 2 rfl ?_ | refine Sel.take 3 rfl ?_ | refine Sel.take 4 rfl ?_ | refine Sel.take 5 rfl ?_ | refine Sel.take 6 rfl ?_ | refine Sel.take 7 rfl ?_ | refine Sel.take 8 rfl ?_ | refine Sel.take 9 rfl ?_ | refine Sel.take 10 rfl ?_ | refine Sel.take 11 rfl ?_)) w h) rfl (by kernel_rfl) (by kernel_rfl) (by kernel_rfl) (by kernel_rfl) (by kernel_rfl) (by kernel_rfl) rfl rfl rfl (q_len rfl (.cons rfl inferInstance (.nil)) (by first | exact fun w hw => Stb.cl (by assumption) hw | exact fun w hw => rd_own hw (by first | assumption | (repeat first | exact .head _ | apply List.Mem.tail)) | assumption)) ?_ | refine aw_take 2 (fun w h => Cl.sel (by (repeat first | exact Sel.nil _ | refine Sel.take 0 rfl ?_ | refine Sel.take 1 rfl ?_ | refine Sel.take 2 rfl ?_ | refine Sel.take 3 rfl ?_ | refine Sel.take 4 rfl ?_ | refine Sel.take 5 rfl ?_ | refine Sel.take 6 rfl ?_ | refine Sel.take 7 rfl ?_ | refine Sel.take 8 rfl ?_ | refine Sel.take 9 rfl ?_ | refine Sel.take 10 rfl ?_ | refine Sel.take 11 rfl ?_)) w h) rfl (by kernel_rfl) (by kernel_rfl) (by kernel_rfl) (by kernel_rfl) (by kernel_rfl) (by kernel_rfl) rfl rfl rfl (q_lenV rfl (.cons rfl inferInstance (.nil))) ?_
  refine aw_pure 3 rfl (by kernel_rfl) (by kernel_rfl) (by kernel_rfl) (by kernel_rfl) (by kernel_rfl) rfl rfl rfl (q_quo rfl rfl rfl (by intro hc; first | omega | (simp only [List.length_set, List.length_append, List.length_cons, List.length_nil, List.length_replicate, List.length_take, List.length_drop, List.length_map]; omega) | (simp only [AllT.iff, List.all_cons, List.all_nil, id, Bool.and_eq_true, Bool.not_eq_true', decide_eq_true_eq, decide_eq_false_iff_not, and_true] at hc; first | omega | (simp only [List.length_set, List.length_append, List.length_cons, List.length_nil, List.length_replicate, List.length_take, List.length_drop, List.length_map]; omega)) | (exfalso; simp_all [AllT]; done))) ?_
  refine aw_take 4 (fun w h => Cl.sel (by (repeat first | exact Sel.nil _ | refine Sel.take 0 rfl ?_ | refine Sel.take 1 rfl ?_ | refine Sel.take 2 rfl ?_ | refine Sel.take 3 rfl ?_ | refine Sel.take 4 rfl ?_ | refine Sel.take 5 rfl ?_ | refine Sel.take 6 rfl ?_ | refine Sel.take 7 rfl ?_ | refine Sel.take 8 rfl ?_ | refine Sel.take 9 rfl ?_ | refine Sel.take 10 rfl ?_ | refine Sel.take 11 rfl ?_)) w h) rfl (by kernel_rfl) (by kernel_rfl) (by kernel_rfl) (by kernel_rfl) (by kernel_rfl) (by kernel_rfl) rfl rfl rfl (q_sliceH rfl rfl rfl (by first | exact fun w hw => Stb.cl (by assumption) hw | exact fun w hw => rd_own hw (by first | assumption | (repeat first | exact .head _ | apply List.Mem.tail)) | assumption) (by intro hc; first | omega | (simp only [List.length_set, List.length_append, List.length_cons, List.length_nil, List.length_replicate, List.length_take, List.length_drop, List.length_map]; omega) | (simp only [AllT.iff, List.all_cons, List.all_nil, id, Bool.and_eq_true, Bool.not_eq_true', decide_eq_true_eq, decide_eq_false_iff_not, and_true] at hc; first | omega | (simp only [List.length_set, List.length_append, List.length_cons, List.length_nil, List.length_replicate, List.length_take, List.length_drop, List.length_map]; omega)) | (exfalso; simp_all [AllT]; done))) ?_
  refine aw_pure 6 rfl (by kernel_rfl) (by kernel_rfl) (by kernel_rfl) (by kernel_rfl) (by kernel_rfl) rfl rfl rfl (q_move rfl rfl) ?_
  refine aw_pure 7 rfl (by kernel_rfl) (by kernel_rfl) (by kernel_rfl) (by kernel_rfl) (by kernel_rfl) rfl rfl rfl (q_move rfl rfl) ?_
  first | refine aw_take 8 (fun w h => Cl.sel (by (repeat first | exact Sel.nil _ | refine Sel.take 0 rfl ?_ | refine Sel.take 1 rfl ?_ | refine Sel.take 2 rfl ?_ | refine Sel.take 3 rfl ?_ | refine Sel.take 4 rfl ?_ | refine Sel.take 5 rfl ?_ | refine Sel.take 6 rfl ?_ | refine Sel.take 7 rfl ?_ | refine Sel.take 8 rfl ?_ | refine Sel.take 9 rfl ?_ | refine Sel.take 10 rfl ?_ | refine Sel.take 11 rfl ?_)) w h) rfl (by kernel_rfl) (by kernel_rfl) (by kernel_rfl) (by kernel_rfl) (by kernel_rfl) (by kernel_rfl) rfl rfl rfl (q_len rfl (.cons rfl inferInstance (.nil)) (by first | exact fun w hw => Stb.cl (by assumption) hw | exact fun w hw => rd_own hw (by first | assumption | (repeat first | exact .head _ | apply List.Mem.tail)) | assumption)) ?_ | refine aw_take 8 (fun w h => Cl.sel (by (repeat first | exact Sel.nil _ | refine Sel.take 0 rfl ?_ | refine Sel.take 1 rfl ?_ | refine Sel.take 2 rfl ?_ | refine Sel.take 3 rfl ?_ | refine Sel.take 4 rfl ?_ | refine Sel.take 5 rfl ?_ | refine Sel.take 6 rfl ?_ | refine Sel.take 7 rfl ?_ | refine Sel.take 8 rfl ?_ | refine Sel.take 9 rfl ?_ | refine Sel.take 10 rfl ?_ | refine Sel.take 11 rfl ?_)) w h) rfl (by kernel_rfl) (by kernel_rfl) (by kernel_rfl) (by kernel_rfl) (by kernel_rfl) (by kernel_rfl) rfl rfl rfl (q_lenV rfl (.cons rfl inferInstance (.nil))) ?_
  refine aw_pure 9 rfl (by kernel_rfl) (by kernel_rfl) (by kernel_rfl) (by kernel_rfl) (by kernel_rfl) rfl rfl rfl (q_quo rfl rfl rfl (by intro hc; first | omega | (simp only [List.length_set, List.length_append, List.length_cons, List.length_nil, List.length_replicate, List.length_take, List.length_drop, List.length_map]; omega) | (simp only [AllT.iff, List.all_cons, List.all_nil, id, Bool.and_eq_true, Bool.not_eq_true', decide_eq_true_eq, decide_eq_false_iff_not, and_true] at hc; first | omega | (simp only [List.length_set, List.length_append, List.length_cons, List.length_nil, List.length_replicate, List.length_take, List.length_drop, List.length_map]; omega)) | (exfalso; simp_all [AllT]; done))) ?_
  refine aw_take 10 (fun w h => Cl.sel (by (repeat first | exact Sel.nil _ | refine Sel.take 0 rfl ?_ | refine Sel.take 1 rfl ?_ | refine Sel.take 2 rfl ?_ | refine Sel.take 3 rfl ?_ | refine Sel.take 4 rfl ?_ | refine Sel.take 5 rfl ?_ | refine Sel.take 6 rfl ?_ | refine Sel.take 7 rfl ?_ | refine Sel.take 8 rfl ?_ | refine Sel.take 9 rfl ?_ | refine Sel.take 10 rfl ?_ | refine Sel.take 11 rfl ?_)) w h) rfl (by kernel_rfl) (by kernel_rfl) (by kernel_rfl) (by kernel_rfl) (by kernel_rfl) (by kernel_rfl) rfl rfl rfl (q_sliceL rfl rfl rfl (by first | exact fun w hw => Stb.cl (by assumption) hw | exact fun w hw => rd_own hw (by first | assumption | (repeat first | exact .head _ | apply List.Mem.tail)) | assumption) (by intro hc; first | omega | (simp only [List.length_set, List.length_append, List.length_cons, List.length_nil, List.length_replicate, List.length_take, List.length_drop, List.length_map]; omega) | (simp only [AllT.iff, List.all_cons, List.all_nil, id, Bool.and_eq_true, Bool.not_eq_true', decide_eq_true_eq, decide_eq_false_iff_not, and_true] at hc; first | omega | (simp only [List.length_set, List.length_append, List.length_cons, List.length_nil, List.length_replicate, List.length_take, List.length_drop, List.length_map]; omega)) | (exfalso; simp_all [AllT]; done))) ?_
  -- STOP at: 5 t19  := call {callee=(value F93), args=[t18], argTypes=[37]} :124
  refine aw_x 5 (by kernel_rfl) rfl rfl rfl rfl (e_call (CanCall.mk Try.call93) rfl (.cons rfl inferInstance (.nil)) (fun w hw => sums_spec (sx.sub 1 0 M) _ w (stb_sub (stb_arg hw hx) (Nat.zero_le _) hM.2.2) (by omega) v1)) (by intro hb; first | (exact absurd hb (by decide)) | exact fun _ => (fun w h => Cl.sel (by (repeat first | exact Sel.nil _ | refine Sel.take 0 rfl ?_ | refine Sel.take 1 rfl ?_ | refine Sel.take 2 rfl ?_ | refine Sel.take 3 rfl ?_ | refine Sel.take 4 rfl ?_ | refine Sel.take 5 rfl ?_ | refine Sel.take 6 rfl ?_ | refine Sel.take 7 rfl ?_ | refine Sel.take 8 rfl ?_ | refine Sel.take 9 rfl ?_ | refine Sel.take 10 rfl ?_ | refine Sel.take 11 rfl ?_)) w h) | exact fun _ w h => (fun w h => Cl.sel (by (repeat first | exact Sel.nil _ | refine Sel.take 0 rfl ?_ | refine Sel.take 1 rfl ?_ | refine Sel.take 2 rfl ?_ | refine Sel.take 3 rfl ?_ | refine Sel.take 4 rfl ?_ | refine Sel.take 5 rfl ?_ | refine Sel.take 6 rfl ?_ | refine Sel.take 7 rfl ?_ | refine Sel.take 8 rfl ?_ | refine Sel.take 9 rfl ?_ | refine Sel.take 10 rfl ?_ | refine Sel.take 11 rfl ?_)) w h) w h.2) (fun y19 => ?_)
  refine aw_imp fun ok1 => ?_
  -- STOP at: 11 t25  := call {callee=(value F93), args=[t24], argTypes=[37]} :124
  refine aw_x 11 (by kernel_rfl) rfl rfl rfl rfl (e_call (CanCall.mk Try.call93) rfl (.cons rfl inferInstance (.nil)) (fun w hw => sums_spec (sx.sub 1 M x.length) _ w (stb_sub (stb_arg hw hx) hM.2.2 (Nat.le_refl _)) (by omega) v2)) (by intro hb; first | (exact absurd hb (by decide)) | exact fun _ => (fun w h => Cl.sel (by (repeat first | exact Sel.nil _ | refine Sel.take 0 rfl ?_ | refine Sel.take 1 rfl ?_ | refine Sel.take 2 rfl ?_ | refine Sel.take 3 rfl ?_ | refine Sel.take 4 rfl ?_ | refine Sel.take 5 rfl ?_ | refine Sel.take 6 rfl ?_ | refine Sel.take 7 rfl ?_ | refine Sel.take 8 rfl ?_ | refine Sel.take 9 rfl ?_ | refine Sel.take 10 rfl ?_ | refine Sel.take 11 rfl ?_)) w h) | exact fun _ w h => (fun w h => Cl.sel (by (repeat first | exact Sel.nil _ | refine Sel.take 0 rfl ?_ | refine Sel.take 1 rfl ?_ | refine Sel.take 2 rfl ?_ | refine Sel.take 3 rfl ?_ | refine Sel.take 4 rfl ?_ | refine Sel.take 5 rfl ?_ | refine Sel.take 6 rfl ?_ | refine Sel.take 7 rfl ?_ | refine Sel.take 8 rfl ?_ | refine Sel.take 9 rfl ?_ | refine Sel.take 10 rfl ?_ | refine Sel.take 11 rfl ?_)) w h) w h.2) (fun y25 => ?_)
  refine aw_imp fun ok2 => ?_
  obtain ⟨b1, m1⟩ := y19
  obtain ⟨b2, m2⟩ := y25
  dsimp only at ok1 ok2 ⊢
  refine aw_pure 12 rfl (by kernel_rfl) (by kernel_rfl) (by kernel_rfl) (by kernel_rfl) (by kernel_rfl) rfl rfl rfl (q_assign rfl rfl) ?_
  refine aw_pure 13 rfl (by kernel_rfl) (by kernel_rfl) (by kernel_rfl) (by kernel_rfl) (by kernel_rfl) rfl rfl rfl (q_assign rfl rfl) ?_
  refine aw_end (by kernel_rfl) ?_
  refine post_then ?_
  refine cw_seq ?_
  -- region 2
  refine cw_region ?_
  refine sw_step rfl rfl rfl (OpR.q (q_move rfl rfl)) ?_
  -- STOP at: t27  := call {callee=(value F94), args=[t26], argTypes=[124]} :37
  refine sw_le (cl_open (i := 1) rfl) ?_
  refine sw_ex fun es1 => sw_ex fun c1 => sw_imp fun hok => ?_
  obtain ⟨eo1, rfl⟩ := hok
  refine sw_le (cl_open (i := 0) rfl) ?_
  refine sw_ex fun es2 => sw_ex fun c2 => sw_imp fun hok => ?_
  obtain ⟨eo2, rfl⟩ := hok
  have z1 : es1.length ≤ 1048576 := by
    have h1 := ok1.size
    have h2 := Nat.pow_le_pow_right (n := 2) (by decide) l1
    simp only [kvs, List.length_map] at h1
    omega
  have z2 : es2.length ≤ 1048576 := by
    have h1 := ok2.size
    have h2 := Nat.pow_le_pow_right (n := 2) (by decide) l2
    simp only [kvs, List.length_map] at h1
    omega
  refine sw_x rfl rfl rfl (e_call (CanCall.mk Try.call94) rfl (.cons rfl inferInstance (.nil)) (fun w hw => keysG_spec b1 c1 es1 eo1 z1 w (stb_raw hw (by first | assumption | (repeat first | exact .head _ | apply List.Mem.tail))))) (fun y27 => ?_)
  refine sw_imp fun hk1 => ?_
  obtain ⟨sk1, K1⟩ := y27
  refine sw_step rfl rfl rfl (OpR.q (q_move rfl rfl)) ?_
  -- STOP at: t29  := call {callee=(value F94), args=[t28], argTypes=[124]} :37
  refine sw_x rfl rfl rfl (e_call (CanCall.mk Try.call94) rfl (.cons rfl inferInstance (.nil)) (fun w hw => keysG_spec b2 c2 es2 eo2 z2 w (stb_raw hw (by first | assumption | (repeat first | exact .head _ | apply List.Mem.tail))))) (fun y29 => ?_)
  refine sw_imp fun hk2 => ?_
  obtain ⟨sk2, K2⟩ := y29
  dsimp only at hk1 hk2 ⊢
  obtain ⟨p1, s1⟩ := hk1
  obtain ⟨p2, s2⟩ := hk2
  have n1 : ((kvs es1).map (·.1)).Nodup := by rw [kvs_keys]; exact eo1.keys
  have n2 : ((kvs es2).map (·.1)).Nodup := by rw [kvs_keys]; exact eo2.keys
  rw [← kvs_keys] at p1 p2
  have hlaw := atLeast_law ok1 ok2 n1 n2 p1 p2 t
  have ht2 := total ok2 n2 p2
  rw [hx12] at hlaw
  have hcb := countGE_bd x t
  have hA : ∀ k, 0 ≤ getZ 0 (kvs es1) k := fun k => by rw [ok1.get]; exact (waysTo_bd _ _ _).1
  have hB : ∀ k, 0 ≤ getZ 0 (kvs es2) k := fun k => by rw [ok2.get]; exact (waysTo_bd _ _ _).1
  have hP : ∀ a, 0 ≤ part (getZ 0 (kvs es1)) (getZ 0 (kvs es2)) K2 t a := fun a => Int.mul_nonneg (hA a) (sumK_nn fun k _ => by split; exact hB k; omega)
  have kb1 := nth_bd (lo := -40000000000) (hi := 40000000000) (by omega) (l := K1) fun v h => by
    have := ok1.keys v (p1.mem_iff.1 h); omega
  have kb2 := nth_bd (lo := -40000000000) (hi := 40000000000) (by omega) (l := K2) fun v h => by
    have := ok2.keys v (p2.mem_iff.1 h); omega
  have pl6 : (2 : Int) ^ x.length ≤ 2 ^ 40 := two_pow_le (by omega)
  have pl2 : (2 : Int) ^ ((x.take x.length).drop M).length ≤ 2 ^ 40 := two_pow_le (by omega)
  have k1l : K1.length ≤ 1048576 := by rw [p1.length_eq]; simpa [kvs] using z1
  have k2l : K2.length ≤ 1048576 := by rw [p2.length_eq]; simpa [kvs] using z2
  refine sw_step rfl rfl rfl (OpR.q (q_assign rfl rfl)) ?_
  refine sw_step rfl rfl rfl (OpR.q (q_assign rfl rfl)) ?_
  refine sw_nil ?_
  refine post_then ?_
  refine cw_seq ?_
  -- region 3
  refine cw_region ?_
  refine sw_step rfl rfl rfl (OpR.q (q_assign rfl rfl)) ?_
  refine sw_step rfl rfl rfl (OpR.q (q_assign rfl rfl)) ?_
  refine sw_nil ?_
  refine post_then ?_
  refine cw_seq ?_
  -- region 4
  refine cw_region ?_
  refine sw_step rfl rfl rfl (OpR.q (q_move rfl rfl)) ?_
  first | refine sw_step rfl rfl rfl (OpR.q (q_len rfl (.cons rfl inferInstance (.nil)) (by first | exact fun w hw => Stb.cl (by assumption) hw | exact fun w hw => rd_own hw (by first | assumption | (repeat first | exact .head _ | apply List.Mem.tail)) | assumption))) ?_ | refine sw_step rfl rfl rfl (OpR.q (q_lenV rfl (.cons rfl inferInstance (.nil)))) ?_
  refine sw_step rfl rfl rfl (OpR.q (q_assign rfl rfl)) ?_
  refine sw_nil ?_
  refine post_then ?_
  refine cw_seq ?_
  refine cw_seq ?_
  -- region 5
  refine cw_region ?_
  refine sw_step rfl rfl rfl (OpR.q (q_move rfl rfl)) ?_
  first | refine sw_step rfl rfl rfl (OpR.q (q_len rfl (.cons rfl inferInstance (.nil)) (by first | exact fun w hw => Stb.cl (by assumption) hw | exact fun w hw => rd_own hw (by first | assumption | (repeat first | exact .head _ | apply List.Mem.tail)) | assumption))) ?_ | refine sw_step rfl rfl rfl (OpR.q (q_lenV rfl (.cons rfl inferInstance (.nil)))) ?_
  refine sw_step rfl rfl rfl (OpR.q (q_move rfl rfl)) ?_
  refine sw_nil ?_
  refine post_then ?_
  refine cw_block ?_
  -- STOP at: loop
  refine cw_loop (S := Nat × Nat × Int × Int) (fun y => [(1, [], .int .i64 t), (5, [], .map (some b1)), (6, [], .map (some b2)), (8, [], sk2.v), (9, [], .int .i64 y.2.2.2), (10, [], .int .i64 y.2.2.1), (11, [], .int .i64 y.2.1), (32, [], sk1.v), (33, [], .int .i64 K1.length), (34, [], .int .i64 y.1)])
    (fun _ => Cl w [] [ownL 3 sk2.v K2, ownL 3 sk1.v K1, obj b2 (mapO es2 c2), obj b1 (mapO es1 c1)])
    (fun y => y.1 ≤ K1.length ∧ y.2.1 ≤ K2.length ∧ y.2.2.1 = sumK (getZ 0 (kvs es2)) (K2.drop y.2.1) ∧ y.2.2.2 = sumK (part (getZ 0 (kvs es1)) (getZ 0 (kvs es2)) K2 t) (K1.take y.1) ∧ ∀ p, y.1 ≤ p → p < K1.length → ∀ q, y.2.1 ≤ q → q < K2.length → t ≤ nth K1 p + nth K2 q)
    (fun y => K1.length - y.1) (0, K2.length, 0, 0) ⟨by simp, by simp, by simp [sumK], by simp [sumK], fun p _ _ q h1 h2 => by simp only at h1; omega⟩ (by (repeat first | exact Le.nil | refine Le.cons rfl ?_ | refine Le.cons' rfl (by congr 1; first | omega | (simp only; omega)) ?_)) (fun w h => Cl.sel (by (repeat first | exact Sel.nil _ | refine Sel.take 0 rfl ?_ | refine Sel.take 1 rfl ?_ | refine Sel.take 2 rfl ?_ | refine Sel.take 3 rfl ?_ | refine Sel.take 4 rfl ?_ | refine Sel.take 5 rfl ?_ | refine Sel.take 6 rfl ?_ | refine Sel.take 7 rfl ?_ | refine Sel.take 8 rfl ?_ | refine Sel.take 9 rfl ?_ | refine Sel.take 10 rfl ?_ | refine Sel.take 11 rfl ?_)) w h) ?_
  rintro ⟨i, j, o, n⟩ ⟨hi, hj, ho, hn, hpq⟩
  dsimp only at hi hj ho hn hpq ⊢
  refine cw_seq ?_
  -- region 6
  refine cw_region ?_
  refine sw_step rfl rfl rfl (OpR.q (q_lss rfl rfl rfl)) ?_
  refine sw_nil ?_
  refine post_then ?_
  refine cw_seq ?_
  -- STOP at: cond
  refine cw_cond rfl (fun h => ?_) (fun h => ?_)
  · skip
    have hi' : i < K1.length := by simp at h; omega
    have e1 := sumK_take_succ (part (getZ 0 (kvs es1)) (getZ 0 (kvs es2)) K2 t) K1 i hi'
    have e2 := sumK_take_le hP K1 (i + 1)
    have e3 := sumK_take_le hP K1 i
    have k1i := kb1 i
    refine cw_skip ?_
    refine post_then ?_
    refine cw_seq ?_
    refine cw_block ?_
    refine cw_seq ?_
    -- region 7
    refine cw_region ?_
    first | refine sw_step rfl rfl rfl (OpR.q (q_indexN rfl rfl rfl (by first | exact fun w hw => Stb.cl (by assumption) hw | exact fun w hw => rd_own hw (by first | assumption | (repeat first | exact .head _ | apply List.Mem.tail)) | assumption) (by intro hc; first | omega | (simp only [List.length_set, List.length_append, List.length_cons, List.length_nil, List.length_replicate, List.length_take, List.length_drop, List.length_map]; omega) | (simp only [AllT.iff, List.all_cons, List.all_nil, id, Bool.and_eq_true, Bool.not_eq_true', decide_eq_true_eq, decide_eq_false_iff_not, and_true] at hc; first | omega | (simp only [List.length_set, List.length_append, List.length_cons, List.length_nil, List.length_replicate, List.length_take, List.length_drop, List.length_map]; omega)) | (exfalso; simp_all [AllT]; done)))) ?_ | refine sw_step rfl rfl rfl (OpR.q (q_index rfl rfl rfl (by first | exact fun w hw => Stb.cl (by assumption) hw | exact fun w hw => rd_own hw (by first | assumption | (repeat first | exact .head _ | apply List.Mem.tail)) | assumption) (by intro hc; first | omega | (simp only [List.length_set, List.length_append, List.length_cons, List.length_nil, List.length_replicate, List.length_take, List.length_drop, List.length_map]; omega) | (simp only [AllT.iff, List.all_cons, List.all_nil, id, Bool.and_eq_true, Bool.not_eq_true', decide_eq_true_eq, decide_eq_false_iff_not, and_true] at hc; first | omega | (simp only [List.length_set, List.length_append, List.length_cons, List.length_nil, List.length_replicate, List.length_take, List.length_drop, List.length_map]; omega)) | (exfalso; simp_all [AllT]; done)))) ?_
    first | refine sw_step rfl rfl rfl (OpR.q (q_loadC rfl rfl (by first | assumption | (repeat first | exact .head _ | apply List.Mem.tail)) rfl)) ?_ | refine sw_step rfl rfl rfl (OpR.q (q_loadA rfl rfl (by first | assumption | (repeat first | exact .head _ | apply List.Mem.tail)) rfl)) ?_ | refine sw_step rfl rfl rfl (OpR.q (q_loadEl rfl rfl rfl (by first | exact fun w hw => Stb.cl (by assumption) hw | exact fun w hw => rd_own hw (by first | assumption | (repeat first | exact .head _ | apply List.Mem.tail)) | assumption) (by intro hc; first | omega | (simp only [List.length_set, List.length_append, List.length_cons, List.length_nil, List.length_replicate, List.length_take, List.length_drop, List.length_map]; omega) | (simp only [AllT.iff, List.all_cons, List.all_nil, id, Bool.and_eq_true, Bool.not_eq_true', decide_eq_true_eq, decide_eq_false_iff_not, and_true] at hc; first | omega | (simp only [List.length_set, List.length_append, List.length_cons, List.length_nil, List.length_replicate, List.length_take, List.length_drop, List.length_map]; omega)) | (exfalso; simp_all [AllT]; done)))) ?_ | refine sw_step rfl rfl rfl (OpR.q (q_loadF rfl rfl rfl (by first | exact fun w hw => Stb.cl (by assumption) hw | exact fun w hw => rd_own hw (by first | assumption | (repeat first | exact .head _ | apply List.Mem.tail)) | assumption) (by intro hc; first | omega | (simp only [List.length_set, List.length_append, List.length_cons, List.length_nil, List.length_replicate, List.length_take, List.length_drop, List.length_map]; omega) | (simp only [AllT.iff, List.all_cons, List.all_nil, id, Bool.and_eq_true, Bool.not_eq_true', decide_eq_true_eq, decide_eq_false_iff_not, and_true] at hc; first | omega | (simp only [List.length_set, List.length_append, List.length_cons, List.length_nil, List.length_replicate, List.length_take, List.length_drop, List.length_map]; omega)) | (exfalso; simp_all [AllT]; done)) rfl)) ?_ | refine sw_step rfl rfl rfl (OpR.q (q_loadS rfl rfl (fun w hw => Stb.cl (by assumption) hw) rfl)) ?_
    refine sw_step rfl rfl rfl (OpR.q (q_assign rfl rfl)) ?_
    refine sw_nil ?_
    refine post_then ?_
    refine cw_seq ?_
    refine cw_block ?_
    -- STOP at: loop
    refine cw_loop (S := Nat × Int) (fun y => [(1, [], .int .i64 t), (5, [], .map (some b1)), (6, [], .map (some b2)), (8, [], sk2.v), (9, [], .int .i64 n), (10, [], .int .i64 y.2), (11, [], .int .i64 y.1), (13, [], .int .i64 (nth K1 i)), (32, [], sk1.v), (33, [], .int .i64 K1.length), (34, [], .int .i64 i)])
      (fun _ => Cl w [] [ownL 3 sk2.v K2, ownL 3 sk1.v K1, obj b2 (mapO es2 c2), obj b1 (mapO es1 c1)])
      (fun y => y.1 ≤ K2.length ∧ y.2 = sumK (getZ 0 (kvs es2)) (K2.drop y.1) ∧ ∀ q, y.1 ≤ q → q < K2.length → t ≤ nth K1 i + nth K2 q)
      (fun y => y.1) (j, o) ⟨hj, ho, fun q h1 h2 => hpq i (Nat.le_refl _) hi' q h1 h2⟩ (by (repeat first | exact Le.nil | refine Le.cons rfl ?_ | refine Le.cons' rfl (by congr 1; first | omega | (simp only; omega)) ?_)) (fun _ h => h) ?_
    rintro ⟨g, u⟩ ⟨hg, hu, hq⟩
    dsimp only at hg hu hq ⊢
    have eg : ((g : Int) - 1).toNat = g - 1 := by omega
    have k2g := kb2 ((g : Int) - 1).toNat
    have u1 := sumK_drop_le hB K2 g
    have u2 := sumK_drop_le hB K2 ((g : Int) - 1).toNat
    refine cw_seq ?_
    refine cw_seq ?_
    -- region 8
    refine cw_region ?_
    refine sw_step rfl rfl rfl (OpR.q (q_move rfl rfl)) ?_
    refine sw_step rfl rfl rfl (OpR.q (q_gtr rfl rfl rfl)) ?_
    refine sw_step rfl rfl rfl (OpR.q (q_move rfl rfl)) ?_
    refine sw_step rfl rfl rfl (OpR.q (q_move rfl rfl)) ?_
    refine sw_step rfl rfl rfl (OpR.q (q_move rfl rfl)) ?_
    refine sw_step rfl rfl rfl (OpR.q (q_move rfl rfl)) ?_
    refine sw_step rfl rfl rfl (OpR.q (q_sub rfl rfl rfl (by intro hc; first | omega | (simp only [List.length_set, List.length_append, List.length_cons, List.length_nil, List.length_replicate, List.length_take, List.length_drop, List.length_map]; omega) | (simp only [AllT.iff, List.all_cons, List.all_nil, id, Bool.and_eq_true, Bool.not_eq_true', decide_eq_true_eq, decide_eq_false_iff_not, and_true] at hc; first | omega | (simp only [List.length_set, List.length_append, List.length_cons, List.length_nil, List.length_replicate, List.length_take, List.length_drop, List.length_map]; omega)) | (exfalso; simp_all [AllT]; done)))) ?_
    first | refine sw_step rfl rfl rfl (OpR.q (q_indexN rfl rfl rfl (by first | exact fun w hw => Stb.cl (by assumption) hw | exact fun w hw => rd_own hw (by first | assumption | (repeat first | exact .head _ | apply List.Mem.tail)) | assumption) (by intro hc; first | omega | (simp only [List.length_set, List.length_append, List.length_cons, List.length_nil, List.length_replicate, List.length_take, List.length_drop, List.length_map]; omega) | (simp only [AllT.iff, List.all_cons, List.all_nil, id, Bool.and_eq_true, Bool.not_eq_true', decide_eq_true_eq, decide_eq_false_iff_not, and_true] at hc; first | omega | (simp only [List.length_set, List.length_append, List.length_cons, List.length_nil, List.length_replicate, List.length_take, List.length_drop, List.length_map]; omega)) | (exfalso; simp_all [AllT]; done)))) ?_ | refine sw_step rfl rfl rfl (OpR.q (q_index rfl rfl rfl (by first | exact fun w hw => Stb.cl (by assumption) hw | exact fun w hw => rd_own hw (by first | assumption | (repeat first | exact .head _ | apply List.Mem.tail)) | assumption) (by intro hc; first | omega | (simp only [List.length_set, List.length_append, List.length_cons, List.length_nil, List.length_replicate, List.length_take, List.length_drop, List.length_map]; omega) | (simp only [AllT.iff, List.all_cons, List.all_nil, id, Bool.and_eq_true, Bool.not_eq_true', decide_eq_true_eq, decide_eq_false_iff_not, and_true] at hc; first | omega | (simp only [List.length_set, List.length_append, List.length_cons, List.length_nil, List.length_replicate, List.length_take, List.length_drop, List.length_map]; omega)) | (exfalso; simp_all [AllT]; done)))) ?_
    first | refine sw_step rfl rfl rfl (OpR.q (q_loadC rfl rfl (by first | assumption | (repeat first | exact .head _ | apply List.Mem.tail)) rfl)) ?_ | refine sw_step rfl rfl rfl (OpR.q (q_loadA rfl rfl (by first | assumption | (repeat first | exact .head _ | apply List.Mem.tail)) rfl)) ?_ | refine sw_step rfl rfl rfl (OpR.q (q_loadEl rfl rfl rfl (by first | exact fun w hw => Stb.cl (by assumption) hw | exact fun w hw => rd_own hw (by first | assumption | (repeat first | exact .head _ | apply List.Mem.tail)) | assumption) (by intro hc; first | omega | (simp only [List.length_set, List.length_append, List.length_cons, List.length_nil, List.length_replicate, List.length_take, List.length_drop, List.length_map]; omega) | (simp only [AllT.iff, List.all_cons, List.all_nil, id, Bool.and_eq_true, Bool.not_eq_true', decide_eq_true_eq, decide_eq_false_iff_not, and_true] at hc; first | omega | (simp only [List.length_set, List.length_append, List.length_cons, List.length_nil, List.length_replicate, List.length_take, List.length_drop, List.length_map]; omega)) | (exfalso; simp_all [AllT]; done)))) ?_ | refine sw_step rfl rfl rfl (OpR.q (q_loadF rfl rfl rfl (by first | exact fun w hw => Stb.cl (by assumption) hw | exact fun w hw => rd_own hw (by first | assumption | (repeat first | exact .head _ | apply List.Mem.tail)) | assumption) (by intro hc; first | omega | (simp only [List.length_set, List.length_append, List.length_cons, List.length_nil, List.length_replicate, List.length_take, List.length_drop, List.length_map]; omega) | (simp only [AllT.iff, List.all_cons, List.all_nil, id, Bool.and_eq_true, Bool.not_eq_true', decide_eq_true_eq, decide_eq_false_iff_not, and_true] at hc; first | omega | (simp only [List.length_set, List.length_append, List.length_cons, List.length_nil, List.length_replicate, List.length_take, List.length_drop, List.length_map]; omega)) | (exfalso; simp_all [AllT]; done)) rfl)) ?_ | refine sw_step rfl rfl rfl (OpR.q (q_loadS rfl rfl (fun w hw => Stb.cl (by assumption) hw) rfl)) ?_
    refine sw_step rfl rfl rfl (OpR.q (q_add rfl rfl rfl (by intro hc; first | omega | (simp only [List.length_set, List.length_append, List.length_cons, List.length_nil, List.length_replicate, List.length_take, List.length_drop, List.length_map]; omega) | (simp only [AllT.iff, List.all_cons, List.all_nil, id, Bool.and_eq_true, Bool.not_eq_true', decide_eq_true_eq, decide_eq_false_iff_not, and_true] at hc; first | omega | (simp only [List.length_set, List.length_append, List.length_cons, List.length_nil, List.length_replicate, List.length_take, List.length_drop, List.length_map]; omega)) | (exfalso; simp_all [AllT]; done)))) ?_
    refine sw_step rfl rfl rfl (OpR.q (q_move rfl rfl)) ?_
    refine sw_step rfl rfl rfl (OpR.q (q_geq rfl rfl rfl)) ?_
    refine sw_step rfl rfl rfl (OpR.q (q_and2 rfl rfl rfl)) ?_
    refine sw_nil ?_
    refine post_then ?_
    -- STOP at: cond
    refine cw_cond rfl (fun h2 => ?_) (fun h2 => ?_)
    · skip
      have h3 : 0 < g ∧ t ≤ nth K1 i + nth K2 (g - 1) := by
        simp only [Bool.and_eq_true, decide_eq_true_eq] at h2
        rw [eg] at h2
        omega
      have u3 := sumK_drop (getZ 0 (kvs es2)) K2 (g - 1) (by omega)
      have eg2 : g - 1 + 1 = g := by omega
      rw [eg2] at u3
      rw [← eg] at u3
      refine cw_skip ?_
      refine post_then ?_
      refine cw_block ?_
      refine cw_seq ?_
      -- region 9
      refine cw_region ?_
      refine sw_step rfl rfl rfl (OpR.q (q_move rfl rfl)) ?_
      refine sw_step rfl rfl rfl (OpR.q (q_sub rfl rfl rfl (by intro hc; first | omega | (simp only [List.length_set, List.length_append, List.length_cons, List.length_nil, List.length_replicate, List.length_take, List.length_drop, List.length_map]; omega) | (simp only [AllT.iff, List.all_cons, List.all_nil, id, Bool.and_eq_true, Bool.not_eq_true', decide_eq_true_eq, decide_eq_false_iff_not, and_true] at hc; first | omega | (simp only [List.length_set, List.length_append, List.length_cons, List.length_nil, List.length_replicate, List.length_take, List.length_drop, List.length_map]; omega)) | (exfalso; simp_all [AllT]; done)))) ?_
      refine sw_step rfl rfl rfl (OpR.q (q_assign rfl rfl)) ?_
      refine sw_nil ?_
      refine post_then ?_
      -- region 10
      refine cw_region ?_
      refine sw_step rfl rfl rfl (OpR.q (q_move rfl rfl)) ?_
      refine sw_step rfl rfl rfl (OpR.q (q_move rfl rfl)) ?_
      refine sw_step rfl rfl rfl (OpR.q (q_move rfl rfl)) ?_
      refine sw_step rfl rfl rfl (OpR.q (q_move rfl rfl)) ?_
      first | refine sw_step rfl rfl rfl (OpR.q (q_indexN rfl rfl rfl (by first | exact fun w hw => Stb.cl (by assumption) hw | exact fun w hw => rd_own hw (by first | assumption | (repeat first | exact .head _ | apply List.Mem.tail)) | assumption) (by intro hc; first | omega | (simp only [List.length_set, List.length_append, List.length_cons, List.length_nil, List.length_replicate, List.length_take, List.length_drop, List.length_map]; omega) | (simp only [AllT.iff, List.all_cons, List.all_nil, id, Bool.and_eq_true, Bool.not_eq_true', decide_eq_true_eq, decide_eq_false_iff_not, and_true] at hc; first | omega | (simp only [List.length_set, List.length_append, List.length_cons, List.length_nil, List.length_replicate, List.length_take, List.length_drop, List.length_map]; omega)) | (exfalso; simp_all [AllT]; done)))) ?_ | refine sw_step rfl rfl rfl (OpR.q (q_index rfl rfl rfl (by first | exact fun w hw => Stb.cl (by assumption) hw | exact fun w hw => rd_own hw (by first | assumption | (repeat first | exact .head _ | apply List.Mem.tail)) | assumption) (by intro hc; first | omega | (simp only [List.length_set, List.length_append, List.length_cons, List.length_nil, List.length_replicate, List.length_take, List.length_drop, List.length_map]; omega) | (simp only [AllT.iff, List.all_cons, List.all_nil, id, Bool.and_eq_true, Bool.not_eq_true', decide_eq_true_eq, decide_eq_false_iff_not, and_true] at hc; first | omega | (simp only [List.length_set, List.length_append, List.length_cons, List.length_nil, List.length_replicate, List.length_take, List.length_drop, List.length_map]; omega)) | (exfalso; simp_all [AllT]; done)))) ?_
      first | refine sw_step rfl rfl rfl (OpR.q (q_loadC rfl rfl (by first | assumption | (repeat first | exact .head _ | apply List.Mem.tail)) rfl)) ?_ | refine sw_step rfl rfl rfl (OpR.q (q_loadA rfl rfl (by first | assumption | (repeat first | exact .head _ | apply List.Mem.tail)) rfl)) ?_ | refine sw_step rfl rfl rfl (OpR.q (q_loadEl rfl rfl rfl (by first | exact fun w hw => Stb.cl (by assumption) hw | exact fun w hw => rd_own hw (by first | assumption | (repeat first | exact .head _ | apply List.Mem.tail)) | assumption) (by intro hc; first | omega | (simp only [List.length_set, List.length_append, List.length_cons, List.length_nil, List.length_replicate, List.length_take, List.length_drop, List.length_map]; omega) | (simp only [AllT.iff, List.all_cons, List.all_nil, id, Bool.and_eq_true, Bool.not_eq_true', decide_eq_true_eq, decide_eq_false_iff_not, and_true] at hc; first | omega | (simp only [List.length_set, List.length_append, List.length_cons, List.length_nil, List.length_replicate, List.length_take, List.length_drop, List.length_map]; omega)) | (exfalso; simp_all [AllT]; done)))) ?_ | refine sw_step rfl rfl rfl (OpR.q (q_loadF rfl rfl rfl (by first | exact fun w hw => Stb.cl (by assumption) hw | exact fun w hw => rd_own hw (by first | assumption | (repeat first | exact .head _ | apply List.Mem.tail)) | assumption) (by intro hc; first | omega | (simp only [List.length_set, List.length_append, List.length_cons, List.length_nil, List.length_replicate, List.length_take, List.length_drop, List.length_map]; omega) | (simp only [AllT.iff, List.all_cons, List.all_nil, id, Bool.and_eq_true, Bool.not_eq_true', decide_eq_true_eq, decide_eq_false_iff_not, and_true] at hc; first | omega | (simp only [List.length_set, List.length_append, List.length_cons, List.length_nil, List.length_replicate, List.length_take, List.length_drop, List.length_map]; omega)) | (exfalso; simp_all [AllT]; done)) rfl)) ?_ | refine sw_step rfl rfl rfl (OpR.q (q_loadS rfl rfl (fun w hw => Stb.cl (by assumption) hw) rfl)) ?_
      refine sw_step rfl rfl rfl (OpR.q (q_lookup (κ := Int) (ν := Int) rfl rfl rfl (by first | exact fun w hw => Stb.cl (by assumption) hw | exact fun w hw => rdm_own hw (by first | assumption | (repeat first | exact .head _ | apply List.Mem.tail)) | exact fun w hw => rdm_raw hw (by first | assumption | (repeat first | exact .head _ | apply List.Mem.tail)) (by assumption)))) ?_
      refine sw_step rfl rfl rfl (OpR.q (q_add rfl rfl rfl (by intro hc; first | omega | (simp only [List.length_set, List.length_append, List.length_cons, List.length_nil, List.length_replicate, List.length_take, List.length_drop, List.length_map]; omega) | (simp only [AllT.iff, List.all_cons, List.all_nil, id, Bool.and_eq_true, Bool.not_eq_true', decide_eq_true_eq, decide_eq_false_iff_not, and_true] at hc; first | omega | (simp only [List.length_set, List.length_append, List.length_cons, List.length_nil, List.length_replicate, List.length_take, List.length_drop, List.length_map]; omega)) | (exfalso; simp_all [AllT]; done)))) ?_
      refine sw_step rfl rfl rfl (OpR.q (q_assign rfl rfl)) ?_
      refine sw_nil ?_
      refine post_blk ?_
      refine post_next (g - 1, u + getZ 0 (kvs es2) (nth K2 ((g : Int) - 1).toNat)) (by (repeat first | exact Le.nil | refine Le.cons rfl ?_ | refine Le.cons' rfl (by congr 1; first | omega | (simp only; omega)) ?_)) (fun _ h => h) ⟨by simp only; omega, ?_, fun q h1 h2 => ?_⟩ (by simp only; omega)
      · simp only
        rw [← eg]
        omega
      · simp only at h1
        by_cases hh : q = g - 1
        · rw [hh]; exact h3.2
        · exact hq q (by omega) h2
    · skip
      have h3 : ∀ q, q < g → nth K1 i + nth K2 q < t := by
        intro q hqg
        have h4 := pw_nth s2 (i := q) (j := g - 1) (by omega) (by omega)
        have h5 : ¬ t ≤ nth K1 i + nth K2 (g - 1) := by
          intro h6
          rw [eg] at h2
          have : decide (0 < (g : Int)) = true := by simp; omega
          simp [this] at h2
          omega
        omega
      have hpart : part (getZ 0 (kvs es1)) (getZ 0 (kvs es2)) K2 t (nth K1 i) = getZ 0 (kvs es1) (nth K1 i) * u := by
        rw [part, sum_cut _ t (nth K1 i) hg h3 hq, hu]
      rw [hpart] at e1
      refine cw_exit ?_
      refine post_then_x ?_
      refine post_then_x ?_
      refine post_blk_eq ?_
      refine post_then ?_
      -- region 11
      refine cw_region ?_
      refine sw_step rfl rfl rfl (OpR.q (q_move rfl rfl)) ?_
      refine sw_step rfl rfl rfl (OpR.q (q_move rfl rfl)) ?_
      refine sw_step rfl rfl rfl (OpR.q (q_move rfl rfl)) ?_
      refine sw_step rfl rfl rfl (OpR.q (q_lookup (κ := Int) (ν := Int) rfl rfl rfl (by first | exact fun w hw => Stb.cl (by assumption) hw | exact fun w hw => rdm_own hw (by first | assumption | (repeat first | exact .head _ | apply List.Mem.tail)) | exact fun w hw => rdm_raw hw (by first | assumption | (repeat first | exact .head _ | apply List.Mem.tail)) (by assumption)))) ?_
      refine sw_step rfl rfl rfl (OpR.q (q_move rfl rfl)) ?_
      refine sw_step rfl rfl rfl (OpR.q (q_mul rfl rfl rfl (by intro hc; first | omega | (simp only [List.length_set, List.length_append, List.length_cons, List.length_nil, List.length_replicate, List.length_take, List.length_drop, List.length_map]; omega) | (simp only [AllT.iff, List.all_cons, List.all_nil, id, Bool.and_eq_true, Bool.not_eq_true', decide_eq_true_eq, decide_eq_false_iff_not, and_true] at hc; first | omega | (simp only [List.length_set, List.length_append, List.length_cons, List.length_nil, List.length_replicate, List.length_take, List.length_drop, List.length_map]; omega)) | (exfalso; simp_all [AllT]; done)))) ?_
      refine sw_step rfl rfl rfl (OpR.q (q_add rfl rfl rfl (by intro hc; first | omega | (simp only [List.length_set, List.length_append, List.length_cons, List.length_nil, List.length_replicate, List.length_take, List.length_drop, List.length_map]; omega) | (simp only [AllT.iff, List.all_cons, List.all_nil, id, Bool.and_eq_true, Bool.not_eq_true', decide_eq_true_eq, decide_eq_false_iff_not, and_true] at hc; first | omega | (simp only [List.length_set, List.length_append, List.length_cons, List.length_nil, List.length_replicate, List.length_take, List.length_drop, List.length_map]; omega)) | (exfalso; simp_all [AllT]; done)))) ?_
      refine sw_step rfl rfl rfl (OpR.q (q_assign rfl rfl)) ?_
      refine sw_nil ?_
      refine post_blk ?_
      refine post_then ?_
      -- region 12
      refine cw_region ?_
      refine sw_step rfl rfl rfl (OpR.q (q_add rfl rfl rfl (by intro hc; first | omega | (simp only [List.length_set, List.length_append, List.length_cons, List.length_nil, List.length_replicate, List.length_take, List.length_drop, List.length_map]; omega) | (simp only [AllT.iff, List.all_cons, List.all_nil, id, Bool.and_eq_true, Bool.not_eq_true', decide_eq_true_eq, decide_eq_false_iff_not, and_true] at hc; first | omega | (simp only [List.length_set, List.length_append, List.length_cons, List.length_nil, List.length_replicate, List.length_take, List.length_drop, List.length_map]; omega)) | (exfalso; simp_all [AllT]; done)))) ?_
      refine sw_step rfl rfl rfl (OpR.q (q_move rfl rfl)) ?_
      refine sw_nil ?_
      refine post_next (i + 1, g, u, n + getZ 0 (kvs es1) (nth K1 i) * u) (by (repeat first | exact Le.nil | refine Le.cons rfl ?_ | refine Le.cons' rfl (by congr 1; first | omega | (simp only; omega)) ?_)) (fun _ h => h) ⟨by simp only; omega, hg, hu, by simp only; omega, fun p h4 h5 q h6 h7 => ?_⟩ (by simp only; omega)
      have := pw_nth s1 (i := i) (j := p) (by simp only at h4; omega) h5
      have := hq q h6 h7
      omega
  · skip
    have hi' : i = K1.length := by simp at h; omega
    subst hi'
    rw [List.take_length, hlaw] at hn
    refine cw_exit ?_
    refine post_then_x ?_
    refine post_then_x ?_
    refine post_blk_eq ?_
    refine post_then ?_
    refine cw_seq ?_
    -- region 13
    refine cw_region ?_
    refine sw_step rfl rfl rfl (OpR.q (q_move rfl rfl)) ?_
    refine sw_step rfl rfl rfl (OpR.q (q_assign rfl rfl)) ?_
    refine sw_nil ?_
    refine post_then ?_
    refine cw_ret ?_
    refine post_ret1 rfl (resOk_tmp rfl) ?_
    exact fun w' hw => ⟨(), by rw [hn], trivial, (fun w h => Cl.sel (by (repeat first | exact Sel.nil _ | refine Sel.take 0 rfl ?_ | refine Sel.take 1 rfl ?_ | refine Sel.take 2 rfl ?_ | refine Sel.take 3 rfl ?_ | refine Sel.take 4 rfl ?_ | refine Sel.take 5 rfl ?_ | refine Sel.take 6 rfl ?_ | refine Sel.take 7 rfl ?_ | refine Sel.take 8 rfl ?_ | refine Sel.take 9 rfl ?_ | refine Sel.take 10 rfl ?_ | refine Sel.take 11 rfl ?_)) w h) _ hw⟩
theorem countG_spec (sx : SlV) (x : List Int) (t : Int) (w : World) (hx : Stb w [] (RdL sx.v x)) :
    Calls Try.prog 28 #[sx.v, .int .i64 t] w fun e w' => ∃ u : Unit, e = .returned (.tuple #[val (if cntE x t = 0 then (⟨countGE x t, 2 ^ x.length⟩ : Chance) else ⟨0, 0⟩), .int .i64 (cntE x t)]) ∧ True ∧ Cl w [] [] w' := by
  refine calls_cw (vs := [_, _]) Try.func28 rfl Try.ntmps28 rfl (Cl.start0 w) ?_
  refine cw_seq ?_
  -- region 0
  refine cw_region ?_
  refine sw_x rfl rfl rfl (e_alloc rfl) (fun b4 => ?_)
  refine sw_step rfl rfl rfl (OpR.q (q_assign rfl rfl)) ?_
  refine sw_nil ?_
  refine post_then ?_
  refine cw_seq ?_
  refine cw_seq ?_
  -- region 1
  refine cw_region ?_
  refine sw_step rfl rfl rfl (OpR.q (q_move rfl rfl)) ?_
  refine sw_step rfl rfl rfl (q_call (CanCall.mk Try.call64) rfl (.cons rfl inferInstance (.nil)) (fun _ w hw => callq hw (integers_spec _ _ w (by first | exact stb_arg hw (by assumption) | exact stb_own hw (by first | assumption | (repeat first | exact .head _ | apply List.Mem.tail)))))) ?_
  refine sw_step rfl rfl rfl (OpR.q (q_assign rfl rfl)) ?_
  refine sw_nil ?_
  refine post_then ?_
  refine cw_seq ?_
  -- region 2
  refine cw_region ?_
  refine sw_step rfl rfl rfl (OpR.q (q_move rfl rfl)) ?_
  refine sw_step rfl rfl rfl (OpR.q (q_neq rfl rfl rfl)) ?_
  refine sw_nil ?_
  refine post_then ?_
  -- STOP at: cond
  refine cw_cond rfl (fun h => ?_) (fun h => ?_)
  · skip
    have h1 : intsE x ≠ 0 := by simpa using h
    have h2 : cntE x t = intsE x := by simp [cntE, h1]
    refine cw_seq ?_
    -- region 3
    refine cw_region ?_
    refine sw_step rfl rfl rfl (OpR.q (q_build rfl (.nil) rfl)) ?_
    refine sw_step rfl rfl rfl (OpR.q (q_move rfl rfl)) ?_
    first | refine sw_eff0 rfl rfl (e_store (i := 0) rfl rfl rfl rfl rfl rfl rfl rfl) ?_ | refine sw_eff0 rfl rfl (e_store (i := 1) rfl rfl rfl rfl rfl rfl rfl rfl) ?_ | refine sw_eff0 rfl rfl (e_store (i := 2) rfl rfl rfl rfl rfl rfl rfl rfl) ?_ | refine sw_eff0 rfl rfl (e_store (i := 3) rfl rfl rfl rfl rfl rfl rfl rfl) ?_ | refine sw_eff0 rfl rfl (e_store (i := 4) rfl rfl rfl rfl rfl rfl rfl rfl) ?_ | refine sw_eff0 rfl rfl (e_store (i := 5) rfl rfl rfl rfl rfl rfl rfl rfl) ?_ | refine sw_eff0 rfl rfl (e_store (i := 6) rfl rfl rfl rfl rfl rfl rfl rfl) ?_ | refine sw_eff0 rfl rfl (e_store (i := 7) rfl rfl rfl rfl rfl rfl rfl rfl) ?_ | refine sw_eff0 rfl rfl (e_store (i := 8) rfl rfl rfl rfl rfl rfl rfl rfl) ?_ | refine sw_eff0 rfl rfl (e_store (i := 9) rfl rfl rfl rfl rfl rfl rfl rfl) ?_ | refine sw_eff0 rfl rfl (e_store (i := 10) rfl rfl rfl rfl rfl rfl rfl rfl) ?_ | refine sw_eff0 rfl rfl (e_store (i := 11) rfl rfl rfl rfl rfl rfl rfl rfl) ?_ | refine sw_eff0 rfl rfl (e_store (i := 12) rfl rfl rfl rfl rfl rfl rfl rfl) ?_ | refine sw_eff0 rfl rfl (e_store (i := 13) rfl rfl rfl rfl rfl rfl rfl rfl) ?_ | refine sw_eff0 rfl rfl (e_store (i := 14) rfl rfl rfl rfl rfl rfl rfl rfl) ?_ | refine sw_eff0 rfl rfl (e_store (i := 15) rfl rfl rfl rfl rfl rfl rfl rfl) ?_ | refine sw_eff0 rfl rfl (e_storeEl1 (i := 0) rfl rfl rfl rfl rfl (by first | omega | (simp only [List.length_set, List.length_append, List.length_cons, List.length_nil, List.length_replicate, List.length_take, List.length_drop, List.length_map]; omega))) ?_ | refine sw_eff0 rfl rfl (e_storeEl1 (i := 1) rfl rfl rfl rfl rfl (by first | omega | (simp only [List.length_set, List.length_append, List.length_cons, List.length_nil, List.length_replicate, List.length_take, List.length_drop, List.length_map]; omega))) ?_ | refine sw_eff0 rfl rfl (e_storeEl1 (i := 2) rfl rfl rfl rfl rfl (by first | omega | (simp only [List.length_set, List.length_append, List.length_cons, List.length_nil, List.length_replicate, List.length_take, List.length_drop, List.length_map]; omega))) ?_ | refine sw_eff0 rfl rfl (e_storeEl1 (i := 3) rfl rfl rfl rfl rfl (by first | omega | (simp only [List.length_set, List.length_append, List.length_cons, List.length_nil, List.length_replicate, List.length_take, List.length_drop, List.length_map]; omega))) ?_ | refine sw_eff0 rfl rfl (e_storeEl1 (i := 4) rfl rfl rfl rfl rfl (by first | omega | (simp only [List.length_set, List.length_append, List.length_cons, List.length_nil, List.length_replicate, List.length_take, List.length_drop, List.length_map]; omega))) ?_ | refine sw_eff0 rfl rfl (e_storeEl1 (i := 5) rfl rfl rfl rfl rfl (by first | omega | (simp only [List.length_set, List.length_append, List.length_cons, List.length_nil, List.length_replicate, List.length_take, List.length_drop, List.length_map]; omega))) ?_ | refine sw_eff0 rfl rfl (e_storeEl1 (i := 6) rfl rfl rfl rfl rfl (by first | omega | (simp only [List.length_set, List.length_append, List.length_cons, List.length_nil, List.length_replicate, List.length_take, List.length_drop, List.length_map]; omega))) ?_ | refine sw_eff0 rfl rfl (e_storeEl1 (i := 7) rfl rfl rfl rfl rfl (by first | omega | (simp only [List.length_set, List.length_append, List.length_cons, List.length_nil, List.length_replicate, List.length_take, List.length_drop, List.length_map]; omega))) ?_ | refine sw_eff0 rfl rfl (e_storeEl1 (i := 8) rfl rfl rfl rfl rfl (by first | omega | (simp only [List.length_set, List.length_append, List.length_cons, List.length_nil, List.length_replicate, List.length_take, List.length_drop, List.length_map]; omega))) ?_ | refine sw_eff0 rfl rfl (e_storeEl1 (i := 9) rfl rfl rfl rfl rfl (by first | omega | (simp only [List.length_set, List.length_append, List.length_cons, List.length_nil, List.length_replicate, List.length_take, List.length_drop, List.length_map]; omega))) ?_ | refine sw_eff0 rfl rfl (e_storeEl1 (i := 10) rfl rfl rfl rfl rfl (by first | omega | (simp only [List.length_set, List.length_append, List.length_cons, List.length_nil, List.length_replicate, List.length_take, List.length_drop, List.length_map]; omega))) ?_ | refine sw_eff0 rfl rfl (e_storeEl1 (i := 11) rfl rfl rfl rfl rfl (by first | omega | (simp only [List.length_set, List.length_append, List.length_cons, List.length_nil, List.length_replicate, List.length_take, List.length_drop, List.length_map]; omega))) ?_ | refine sw_eff0 rfl rfl (e_storeEl1 (i := 12) rfl rfl rfl rfl rfl (by first | omega | (simp only [List.length_set, List.length_append, List.length_cons, List.length_nil, List.length_replicate, List.length_take, List.length_drop, List.length_map]; omega))) ?_ | refine sw_eff0 rfl rfl (e_storeEl1 (i := 13) rfl rfl rfl rfl rfl (by first | omega | (simp only [List.length_set, List.length_append, List.length_cons, List.length_nil, List.length_replicate, List.length_take, List.length_drop, List.length_map]; omega))) ?_ | refine sw_eff0 rfl rfl (e_storeEl1 (i := 14) rfl rfl rfl rfl rfl (by first | omega | (simp only [List.length_set, List.length_append, List.length_cons, List.length_nil, List.length_replicate, List.length_take, List.length_drop, List.length_map]; omega))) ?_ | refine sw_eff0 rfl rfl (e_storeEl1 (i := 15) rfl rfl rfl rfl rfl (by first | omega | (simp only [List.length_set, List.length_append, List.length_cons, List.length_nil, List.length_replicate, List.length_take, List.length_drop, List.length_map]; omega))) ?_
    refine sw_step rfl rfl rfl (OpR.q (q_assign rfl rfl)) ?_
    refine sw_nil ?_
    refine post_then ?_
    refine cw_ret ?_
    refine post_then_r ?_
    refine post_ret2 rfl (resOk_blk (x := (⟨0, 0⟩ : Chance)) rfl (by first | assumption | (repeat first | exact .head _ | apply List.Mem.tail)) (by rfl)) (resOk_tmp rfl) ?_
    exact fun w' hw => ⟨(), by rw [h2, if_neg h1], trivial, (fun w h => Cl.sel (by (repeat first | exact Sel.nil _ | refine Sel.take 0 rfl ?_ | refine Sel.take 1 rfl ?_ | refine Sel.take 2 rfl ?_ | refine Sel.take 3 rfl ?_ | refine Sel.take 4 rfl ?_ | refine Sel.take 5 rfl ?_ | refine Sel.take 6 rfl ?_ | refine Sel.take 7 rfl ?_ | refine Sel.take 8 rfl ?_ | refine Sel.take 9 rfl ?_ | refine Sel.take 10 rfl ?_ | refine Sel.take 11 rfl ?_)) w h) _ hw⟩
  · skip
    have h1 : intsE x = 0 := by simpa using h
    have hx2 : x.length ≤ 40 ∧ ∀ v ∈ x, -1000000000 ≤ v ∧ v ≤ 1000000000 := by
      unfold intsE at h1
      split at h1
      · omega
      · split at h1
        · rename_i h3
          refine ⟨by omega, fun v hv => ?_⟩
          have := List.all_eq_true.1 h3 v hv
          simpa [inB] using this
        · omega
    refine cw_skip ?_
    refine post_then ?_
    refine cw_seq ?_
    refine cw_seq ?_
    -- region 4
    refine cw_region ?_
    refine sw_step rfl rfl rfl (OpR.q (q_move rfl rfl)) ?_
    refine sw_step rfl rfl rfl (q_call (CanCall.mk Try.call52) rfl (.cons rfl inferInstance (.cons rfl inferInstance (.cons rfl inferInstance (.nil)))) (fun _ w hw => callq hw (within_spec _ _ _ w))) ?_
    refine sw_step rfl rfl rfl (OpR.q (q_not rfl rfl)) ?_
    refine sw_nil ?_
    refine post_then ?_
    -- STOP at: cond
    refine cw_cond rfl (fun h3 => ?_) (fun h3 => ?_)
    · skip
      have h2 : cntE x t = 2 := by simp at h3; simp [cntE, h1, h3]
      refine cw_seq ?_
      -- region 5
      refine cw_region ?_
      refine sw_step rfl rfl rfl (OpR.q (q_build rfl (.nil) rfl)) ?_
      first | refine sw_eff0 rfl rfl (e_store (i := 0) rfl rfl rfl rfl rfl rfl rfl rfl) ?_ | refine sw_eff0 rfl rfl (e_store (i := 1) rfl rfl rfl rfl rfl rfl rfl rfl) ?_ | refine sw_eff0 rfl rfl (e_store (i := 2) rfl rfl rfl rfl rfl rfl rfl rfl) ?_ | refine sw_eff0 rfl rfl (e_store (i := 3) rfl rfl rfl rfl rfl rfl rfl rfl) ?_ | refine sw_eff0 rfl rfl (e_store (i := 4) rfl rfl rfl rfl rfl rfl rfl rfl) ?_ | refine sw_eff0 rfl rfl (e_store (i := 5) rfl rfl rfl rfl rfl rfl rfl rfl) ?_ | refine sw_eff0 rfl rfl (e_store (i := 6) rfl rfl rfl rfl rfl rfl rfl rfl) ?_ | refine sw_eff0 rfl rfl (e_store (i := 7) rfl rfl rfl rfl rfl rfl rfl rfl) ?_ | refine sw_eff0 rfl rfl (e_store (i := 8) rfl rfl rfl rfl rfl rfl rfl rfl) ?_ | refine sw_eff0 rfl rfl (e_store (i := 9) rfl rfl rfl rfl rfl rfl rfl rfl) ?_ | refine sw_eff0 rfl rfl (e_store (i := 10) rfl rfl rfl rfl rfl rfl rfl rfl) ?_ | refine sw_eff0 rfl rfl (e_store (i := 11) rfl rfl rfl rfl rfl rfl rfl rfl) ?_ | refine sw_eff0 rfl rfl (e_store (i := 12) rfl rfl rfl rfl rfl rfl rfl rfl) ?_ | refine sw_eff0 rfl rfl (e_store (i := 13) rfl rfl rfl rfl rfl rfl rfl rfl) ?_ | refine sw_eff0 rfl rfl (e_store (i := 14) rfl rfl rfl rfl rfl rfl rfl rfl) ?_ | refine sw_eff0 rfl rfl (e_store (i := 15) rfl rfl rfl rfl rfl rfl rfl rfl) ?_ | refine sw_eff0 rfl rfl (e_storeEl1 (i := 0) rfl rfl rfl rfl rfl (by first | omega | (simp only [List.length_set, List.length_append, List.length_cons, List.length_nil, List.length_replicate, List.length_take, List.length_drop, List.length_map]; omega))) ?_ | refine sw_eff0 rfl rfl (e_storeEl1 (i := 1) rfl rfl rfl rfl rfl (by first | omega | (simp only [List.length_set, List.length_append, List.length_cons, List.length_nil, List.length_replicate, List.length_take, List.length_drop, List.length_map]; omega))) ?_ | refine sw_eff0 rfl rfl (e_storeEl1 (i := 2) rfl rfl rfl rfl rfl (by first | omega | (simp only [List.length_set, List.length_append, List.length_cons, List.length_nil, List.length_replicate, List.length_take, List.length_drop, List.length_map]; omega))) ?_ | refine sw_eff0 rfl rfl (e_storeEl1 (i := 3) rfl rfl rfl rfl rfl (by first | omega | (simp only [List.length_set, List.length_append, List.length_cons, List.length_nil, List.length_replicate, List.length_take, List.length_drop, List.length_map]; omega))) ?_ | refine sw_eff0 rfl rfl (e_storeEl1 (i := 4) rfl rfl rfl rfl rfl (by first | omega | (simp only [List.length_set, List.length_append, List.length_cons, List.length_nil, List.length_replicate, List.length_take, List.length_drop, List.length_map]; omega))) ?_ | refine sw_eff0 rfl rfl (e_storeEl1 (i := 5) rfl rfl rfl rfl rfl (by first | omega | (simp only [List.length_set, List.length_append, List.length_cons, List.length_nil, List.length_replicate, List.length_take, List.length_drop, List.length_map]; omega))) ?_ | refine sw_eff0 rfl rfl (e_storeEl1 (i := 6) rfl rfl rfl rfl rfl (by first | omega | (simp only [List.length_set, List.length_append, List.length_cons, List.length_nil, List.length_replicate, List.length_take, List.length_drop, List.length_map]; omega))) ?_ | refine sw_eff0 rfl rfl (e_storeEl1 (i := 7) rfl rfl rfl rfl rfl (by first | omega | (simp only [List.length_set, List.length_append, List.length_cons, List.length_nil, List.length_replicate, List.length_take, List.length_drop, List.length_map]; omega))) ?_ | refine sw_eff0 rfl rfl (e_storeEl1 (i := 8) rfl rfl rfl rfl rfl (by first | omega | (simp only [List.length_set, List.length_append, List.length_cons, List.length_nil, List.length_replicate, List.length_take, List.length_drop, List.length_map]; omega))) ?_ | refine sw_eff0 rfl rfl (e_storeEl1 (i := 9) rfl rfl rfl rfl rfl (by first | omega | (simp only [List.length_set, List.length_append, List.length_cons, List.length_nil, List.length_replicate, List.length_take, List.length_drop, List.length_map]; omega))) ?_ | refine sw_eff0 rfl rfl (e_storeEl1 (i := 10) rfl rfl rfl rfl rfl (by first | omega | (simp only [List.length_set, List.length_append, List.length_cons, List.length_nil, List.length_replicate, List.length_take, List.length_drop, List.length_map]; omega))) ?_ | refine sw_eff0 rfl rfl (e_storeEl1 (i := 11) rfl rfl rfl rfl rfl (by first | omega | (simp only [List.length_set, List.length_append, List.length_cons, List.length_nil, List.length_replicate, List.length_take, List.length_drop, List.length_map]; omega))) ?_ | refine sw_eff0 rfl rfl (e_storeEl1 (i := 12) rfl rfl rfl rfl rfl (by first | omega | (simp only [List.length_set, List.length_append, List.length_cons, List.length_nil, List.length_replicate, List.length_take, List.length_drop, List.length_map]; omega))) ?_ | refine sw_eff0 rfl rfl (e_storeEl1 (i := 13) rfl rfl rfl rfl rfl (by first | omega | (simp only [List.length_set, List.length_append, List.length_cons, List.length_nil, List.length_replicate, List.length_take, List.length_drop, List.length_map]; omega))) ?_ | refine sw_eff0 rfl rfl (e_storeEl1 (i := 14) rfl rfl rfl rfl rfl (by first | omega | (simp only [List.length_set, List.length_append, List.length_cons, List.length_nil, List.length_replicate, List.length_take, List.length_drop, List.length_map]; omega))) ?_ | refine sw_eff0 rfl rfl (e_storeEl1 (i := 15) rfl rfl rfl rfl rfl (by first | omega | (simp only [List.length_set, List.length_append, List.length_cons, List.length_nil, List.length_replicate, List.length_take, List.length_drop, List.length_map]; omega))) ?_
      refine sw_step rfl rfl rfl (OpR.q (q_assign rfl rfl)) ?_
      refine sw_nil ?_
      refine post_then ?_
      refine cw_ret ?_
      refine post_then_r ?_
      refine post_ret2 rfl (resOk_blk (x := (⟨0, 0⟩ : Chance)) rfl (by first | assumption | (repeat first | exact .head _ | apply List.Mem.tail)) (by rfl)) (resOk_tmp rfl) ?_
      exact fun w' hw => ⟨(), by rw [h2]; rfl, trivial, (fun w h => Cl.sel (by (repeat first | exact Sel.nil _ | refine Sel.take 0 rfl ?_ | refine Sel.take 1 rfl ?_ | refine Sel.take 2 rfl ?_ | refine Sel.take 3 rfl ?_ | refine Sel.take 4 rfl ?_ | refine Sel.take 5 rfl ?_ | refine Sel.take 6 rfl ?_ | refine Sel.take 7 rfl ?_ | refine Sel.take 8 rfl ?_ | refine Sel.take 9 rfl ?_ | refine Sel.take 10 rfl ?_ | refine Sel.take 11 rfl ?_)) w h) _ hw⟩
    · skip
      have h2 : cntE x t = 0 := by simp at h3; simp [cntE, h1, h3]
      refine cw_skip ?_
      refine post_then ?_
      refine cw_seq ?_
      -- region 6
      -- STOP: a region with effects that draws its order
      refine cw_region_a (Cl w [] [blk b4 [.int .i64 0, .int .i64 0] 25]) [7] mixed_Try ?_
      refine aw_pure 0 rfl (by kernel_rfl) (by kernel_rfl) (by kernel_rfl) (by kernel_rfl) (by kernel_rfl) rfl rfl rfl (q_move rfl rfl) ?_
      refine aw_pure 1 rfl (by kernel_rfl) (by kernel_rfl) (by kernel_rfl) (by kernel_rfl) (by kernel_rfl) rfl rfl rfl (q_move rfl rfl) ?_
      refine aw_pure 3 rfl (by kernel_rfl) (by kernel_rfl) (by kernel_rfl) (by kernel_rfl) (by kernel_rfl) rfl rfl rfl (q_move rfl rfl) ?_
      first | refine aw_take 4 (fun w h => Cl.sel (by (repeat first | exact Sel.nil _ | refine Sel.take 0 rfl ?_ | refine Sel.take 1 rfl ?_ | refine Sel.take 2 rfl ?_ | refine Sel.take 3 rfl ?_ | refine Sel.take 4 rfl ?_ | refine Sel.take 5 rfl ?_ | refine Sel.take 6 rfl ?_ | refine Sel.take 7 rfl ?_ | refine Sel.take 8 rfl ?_ | refine Sel.take 9 rfl ?_ | refine Sel.take 10 rfl ?_ | refine Sel.take 11 rfl ?_)) w h) rfl (by kernel_rfl) (by kernel_rfl) (by kernel_rfl) (by kernel_rfl) (by kernel_rfl) (by kernel_rfl) rfl rfl rfl (q_len rfl (.cons rfl inferInstance (.nil)) (by first | exact fun w hw => Stb.cl (by assumption) hw | exact fun w hw => rd_own hw (by first | assumption | (repeat first | exact .head _ | apply List.Mem.tail)) | assumption)) ?_ | refine aw_take 4 (fun w h => Cl.sel (by (repeat first | exact Sel.nil _ | refine Sel.take 0 rfl ?_ | refine Sel.take 1 rfl ?_ | refine Sel.take 2 rfl ?_ | refine Sel.take 3 rfl ?_ | refine Sel.take 4 rfl ?_ | refine Sel.take 5 rfl ?_ | refine Sel.take 6 rfl ?_ | refine Sel.take 7 rfl ?_ | refine Sel.take 8 rfl ?_ | refine Sel.take 9 rfl ?_ | refine Sel.take 10 rfl ?_ | refine Sel.take 11 rfl ?_)) w h) rfl (by kernel_rfl) (by kernel_rfl) (by kernel_rfl) (by kernel_rfl) (by kernel_rfl) (by kernel_rfl) rfl rfl rfl (q_lenV rfl (.cons rfl inferInstance (.nil))) ?_
      refine aw_pure 5 rfl (by kernel_rfl) (by kernel_rfl) (by kernel_rfl) (by kernel_rfl) (by kernel_rfl) rfl rfl rfl (q_shl rfl rfl rfl (by first | exact fun _ => ⟨by decide, by decide⟩ | (dsimp only [IntKind.bits]; exact (by intro hc; first | omega | (simp only [List.length_set, List.length_append, List.length_cons, List.length_nil, List.length_replicate, List.length_take, List.length_drop, List.length_map]; omega) | (simp only [AllT.iff, List.all_cons, List.all_nil, id, Bool.and_eq_true, Bool.not_eq_true', decide_eq_true_eq, decide_eq_false_iff_not, and_true] at hc; first | omega | (simp only [List.length_set, List.length_append, List.length_cons, List.length_nil, List.length_replicate, List.length_take, List.length_drop, List.length_map]; omega)) | (exfalso; simp_all [AllT]; done))))) ?_
      -- STOP at: 2 t19  := call {callee=(value F65), args=[t17, t18], argTypes=[37, 3]} :3
      refine aw_x 2 (by kernel_rfl) rfl rfl rfl rfl (e_call (CanCall.mk Try.call65) rfl (.cons rfl inferInstance (.cons rfl inferInstance (.nil))) (fun w hw => atLeastG_spec sx x t w (stb_arg hw hx) (by omega) hx2.2)) (by intro hb; first | (exact absurd hb (by decide)) | exact fun _ => (fun w h => Cl.sel (by (repeat first | exact Sel.nil _ | refine Sel.take 0 rfl ?_ | refine Sel.take 1 rfl ?_ | refine Sel.take 2 rfl ?_ | refine Sel.take 3 rfl ?_ | refine Sel.take 4 rfl ?_ | refine Sel.take 5 rfl ?_ | refine Sel.take 6 rfl ?_ | refine Sel.take 7 rfl ?_ | refine Sel.take 8 rfl ?_ | refine Sel.take 9 rfl ?_ | refine Sel.take 10 rfl ?_ | refine Sel.take 11 rfl ?_)) w h) | exact fun _ w h => (fun w h => Cl.sel (by (repeat first | exact Sel.nil _ | refine Sel.take 0 rfl ?_ | refine Sel.take 1 rfl ?_ | refine Sel.take 2 rfl ?_ | refine Sel.take 3 rfl ?_ | refine Sel.take 4 rfl ?_ | refine Sel.take 5 rfl ?_ | refine Sel.take 6 rfl ?_ | refine Sel.take 7 rfl ?_ | refine Sel.take 8 rfl ?_ | refine Sel.take 9 rfl ?_ | refine Sel.take 10 rfl ?_ | refine Sel.take 11 rfl ?_)) w h) w h.2) (fun u19 => ?_)
      refine aw_imp fun _ => ?_
      refine aw_pure 6 rfl (by kernel_rfl) (by kernel_rfl) (by kernel_rfl) (by kernel_rfl) (by kernel_rfl) rfl rfl rfl (q_build rfl (.cons rfl inferInstance (.cons rfl inferInstance (.nil))) rfl) ?_
      first | refine aw_one0 7 (by kernel_rfl) rfl rfl rfl (e_store (i := 0) rfl rfl rfl rfl rfl rfl rfl rfl) (by intro hb; first | (exact absurd hb (by decide)) | exact (fun w h => Cl.sel (by (repeat first | exact Sel.nil _ | refine Sel.take 0 rfl ?_ | refine Sel.take 1 rfl ?_ | refine Sel.take 2 rfl ?_ | refine Sel.take 3 rfl ?_ | refine Sel.take 4 rfl ?_ | refine Sel.take 5 rfl ?_ | refine Sel.take 6 rfl ?_ | refine Sel.take 7 rfl ?_ | refine Sel.take 8 rfl ?_ | refine Sel.take 9 rfl ?_ | refine Sel.take 10 rfl ?_ | refine Sel.take 11 rfl ?_)) w h)) ?_ | refine aw_one0 7 (by kernel_rfl) rfl rfl rfl (e_store (i := 1) rfl rfl rfl rfl rfl rfl rfl rfl) (by intro hb; first | (exact absurd hb (by decide)) | exact (fun w h => Cl.sel (by (repeat first | exact Sel.nil _ | refine Sel.take 0 rfl ?_ | refine Sel.take 1 rfl ?_ | refine Sel.take 2 rfl ?_ | refine Sel.take 3 rfl ?_ | refine Sel.take 4 rfl ?_ | refine Sel.take 5 rfl ?_ | refine Sel.take 6 rfl ?_ | refine Sel.take 7 rfl ?_ | refine Sel.take 8 rfl ?_ | refine Sel.take 9 rfl ?_ | refine Sel.take 10 rfl ?_ | refine Sel.take 11 rfl ?_)) w h)) ?_ | refine aw_one0 7 (by kernel_rfl) rfl rfl rfl (e_store (i := 2) rfl rfl rfl rfl rfl rfl rfl rfl) (by intro hb; first | (exact absurd hb (by decide)) | exact (fun w h => Cl.sel (by (repeat first | exact Sel.nil _ | refine Sel.take 0 rfl ?_ | refine Sel.take 1 rfl ?_ | refine Sel.take 2 rfl ?_ | refine Sel.take 3 rfl ?_ | refine Sel.take 4 rfl ?_ | refine Sel.take 5 rfl ?_ | refine Sel.take 6 rfl ?_ | refine Sel.take 7 rfl ?_ | refine Sel.take 8 rfl ?_ | refine Sel.take 9 rfl ?_ | refine Sel.take 10 rfl ?_ | refine Sel.take 11 rfl ?_)) w h)) ?_ | refine aw_one0 7 (by kernel_rfl) rfl rfl rfl (e_store (i := 3) rfl rfl rfl rfl rfl rfl rfl rfl) (by intro hb; first | (exact absurd hb (by decide)) | exact (fun w h => Cl.sel (by (repeat first | exact Sel.nil _ | refine Sel.take 0 rfl ?_ | refine Sel.take 1 rfl ?_ | refine Sel.take 2 rfl ?_ | refine Sel.take 3 rfl ?_ | refine Sel.take 4 rfl ?_ | refine Sel.take 5 rfl ?_ | refine Sel.take 6 rfl ?_ | refine Sel.take 7 rfl ?_ | refine Sel.take 8 rfl ?_ | refine Sel.take 9 rfl ?_ | refine Sel.take 10 rfl ?_ | refine Sel.take 11 rfl ?_)) w h)) ?_ | refine aw_one0 7 (by kernel_rfl) rfl rfl rfl (e_store (i := 4) rfl rfl rfl rfl rfl rfl rfl rfl) (by intro hb; first | (exact absurd hb (by decide)) | exact (fun w h => Cl.sel (by (repeat first | exact Sel.nil _ | refine Sel.take 0 rfl ?_ | refine Sel.take 1 rfl ?_ | refine Sel.take 2 rfl ?_ | refine Sel.take 3 rfl ?_ | refine Sel.take 4 rfl ?_ | refine Sel.take 5 rfl ?_ | refine Sel.take 6 rfl ?_ | refine Sel.take 7 rfl ?_ | refine Sel.take 8 rfl ?_ | refine Sel.take 9 rfl ?_ | refine Sel.take 10 rfl ?_ | refine Sel.take 11 rfl ?_)) w h)) ?_ | refine aw_one0 7 (by kernel_rfl) rfl rfl rfl (e_store (i := 5) rfl rfl rfl rfl rfl rfl rfl rfl) (by intro hb; first | (exact absurd hb (by decide)) | exact (fun w h => Cl.sel (by (repeat first | exact Sel.nil _ | refine Sel.take 0 rfl ?_ | refine Sel.take 1 rfl ?_ | refine Sel.take 2 rfl ?_ | refine Sel.take 3 rfl ?_ | refine Sel.take 4 rfl ?_ | refine Sel.take 5 rfl ?_ | refine Sel.take 6 rfl ?_ | refine Sel.take 7 rfl ?_ | refine Sel.take 8 rfl ?_ | refine Sel.take 9 rfl ?_ | refine Sel.take 10 rfl ?_ | refine Sel.take 11 rfl ?_)) w h)) ?_ | refine aw_one0 7 (by kernel_rfl) rfl rfl rfl (e_store (i := 6) rfl rfl rfl rfl rfl rfl rfl rfl) (by intro hb; first | (exact absurd hb (by decide)) | exact (fun w h => Cl.sel (by (repeat first | exact Sel.nil _ | refine Sel.take 0 rfl ?_ | refine Sel.take 1 rfl ?_ | refine Sel.take 2 rfl ?_ | refine Sel.take 3 rfl ?_ | refine Sel.take 4 rfl ?_ | refine Sel.take 5 rfl ?_ | refine Sel.take 6 rfl ?_ | refine Sel.take 7 rfl ?_ | refine Sel.take 8 rfl ?_ | refine Sel.take 9 rfl ?_ | refine Sel.take 10 rfl ?_ | refine Sel.take 11 rfl ?_)) w h)) ?_ | refine aw_one0 7 (by kernel_rfl) rfl rfl rfl (e_store (i := 7) rfl rfl rfl rfl rfl rfl rfl rfl) (by intro hb; first | (exact absurd hb (by decide)) | exact (fun w h => Cl.sel (by (repeat first | exact Sel.nil _ | refine Sel.take 0 rfl ?_ | refine Sel.take 1 rfl ?_ | refine Sel.take 2 rfl ?_ | refine Sel.take 3 rfl ?_ | refine Sel.take 4 rfl ?_ | refine Sel.take 5 rfl ?_ | refine Sel.take 6 rfl ?_ | refine Sel.take 7 rfl ?_ | refine Sel.take 8 rfl ?_ | refine Sel.take 9 rfl ?_ | refine Sel.take 10 rfl ?_ | refine Sel.take 11 rfl ?_)) w h)) ?_ | refine aw_one0 7 (by kernel_rfl) rfl rfl rfl (e_store (i := 8) rfl rfl rfl rfl rfl rfl rfl rfl) (by intro hb; first | (exact absurd hb (by decide)) | exact (fun w h => Cl.sel (by (repeat first | exact Sel.nil _ | refine Sel.take 0 rfl ?_ | refine Sel.take 1 rfl ?_ | refine Sel.take 2 rfl ?_ | refine Sel.take 3 rfl ?_ | refine Sel.take 4 rfl ?_ | refine Sel.take 5 rfl ?_ | refine Sel.take 6 rfl ?_ | refine Sel.take 7 rfl ?_ | refine Sel.take 8 rfl ?_ | refine Sel.take 9 rfl ?_ | refine Sel.take 10 rfl ?_ | refine Sel.take 11 rfl ?_)) w h)) ?_ | refine aw_one0 7 (by kernel_rfl) rfl rfl rfl (e_store (i := 9) rfl rfl rfl rfl rfl rfl rfl rfl) (by intro hb; first | (exact absurd hb (by decide)) | exact (fun w h => Cl.sel (by (repeat first | exact Sel.nil _ | refine Sel.take 0 rfl ?_ | refine Sel.take 1 rfl ?_ | refine Sel.take 2 rfl ?_ | refine Sel.take 3 rfl ?_ | refine Sel.take 4 rfl ?_ | refine Sel.take 5 rfl ?_ | refine Sel.take 6 rfl ?_ | refine Sel.take 7 rfl ?_ | refine Sel.take 8 rfl ?_ | refine Sel.take 9 rfl ?_ | refine Sel.take 10 rfl ?_ | refine Sel.take 11 rfl ?_)) w h)) ?_ | refine aw_one0 7 (by kernel_rfl) rfl rfl rfl (e_store (i := 10) rfl rfl rfl rfl rfl rfl rfl rfl) (by intro hb; first | (exact absurd hb (by decide)) | exact (fun w h => Cl.sel (by (repeat first | exact Sel.nil _ | refine Sel.take 0 rfl ?_ | refine Sel.take 1 rfl ?_ | refine Sel.take 2 rfl ?_ | refine Sel.take 3 rfl ?_ | refine Sel.take 4 rfl ?_ | refine Sel.take 5 rfl ?_ | refine Sel.take 6 rfl ?_ | refine Sel.take 7 rfl ?_ | refine Sel.take 8 rfl ?_ | refine Sel.take 9 rfl ?_ | refine Sel.take 10 rfl ?_ | refine Sel.take 11 rfl ?_)) w h)) ?_ | refine aw_one0 7 (by kernel_rfl) rfl rfl rfl (e_store (i := 11) rfl rfl rfl rfl rfl rfl rfl rfl) (by intro hb; first | (exact absurd hb (by decide)) | exact (fun w h => Cl.sel (by (repeat first | exact Sel.nil _ | refine Sel.take 0 rfl ?_ | refine Sel.take 1 rfl ?_ | refine Sel.take 2 rfl ?_ | refine Sel.take 3 rfl ?_ | refine Sel.take 4 rfl ?_ | refine Sel.take 5 rfl ?_ | refine Sel.take 6 rfl ?_ | refine Sel.take 7 rfl ?_ | refine Sel.take 8 rfl ?_ | refine Sel.take 9 rfl ?_ | refine Sel.take 10 rfl ?_ | refine Sel.take 11 rfl ?_)) w h)) ?_ | refine aw_one0 7 (by kernel_rfl) rfl rfl rfl (e_store (i := 12) rfl rfl rfl rfl rfl rfl rfl rfl) (by intro hb; first | (exact absurd hb (by decide)) | exact (fun w h => Cl.sel (by (repeat first | exact Sel.nil _ | refine Sel.take 0 rfl ?_ | refine Sel.take 1 rfl ?_ | refine Sel.take 2 rfl ?_ | refine Sel.take 3 rfl ?_ | refine Sel.take 4 rfl ?_ | refine Sel.take 5 rfl ?_ | refine Sel.take 6 rfl ?_ | refine Sel.take 7 rfl ?_ | refine Sel.take 8 rfl ?_ | refine Sel.take 9 rfl ?_ | refine Sel.take 10 rfl ?_ | refine Sel.take 11 rfl ?_)) w h)) ?_ | refine aw_one0 7 (by kernel_rfl) rfl rfl rfl (e_store (i := 13) rfl rfl rfl rfl rfl rfl rfl rfl) (by intro hb; first | (exact absurd hb (by decide)) | exact (fun w h => Cl.sel (by (repeat first | exact Sel.nil _ | refine Sel.take 0 rfl ?_ | refine Sel.take 1 rfl ?_ | refine Sel.take 2 rfl ?_ | refine Sel.take 3 rfl ?_ | refine Sel.take 4 rfl ?_ | refine Sel.take 5 rfl ?_ | refine Sel.take 6 rfl ?_ | refine Sel.take 7 rfl ?_ | refine Sel.take 8 rfl ?_ | refine Sel.take 9 rfl ?_ | refine Sel.take 10 rfl ?_ | refine Sel.take 11 rfl ?_)) w h)) ?_ | refine aw_one0 7 (by kernel_rfl) rfl rfl rfl (e_store (i := 14) rfl rfl rfl rfl rfl rfl rfl rfl) (by intro hb; first | (exact absurd hb (by decide)) | exact (fun w h => Cl.sel (by (repeat first | exact Sel.nil _ | refine Sel.take 0 rfl ?_ | refine Sel.take 1 rfl ?_ | refine Sel.take 2 rfl ?_ | refine Sel.take 3 rfl ?_ | refine Sel.take 4 rfl ?_ | refine Sel.take 5 rfl ?_ | refine Sel.take 6 rfl ?_ | refine Sel.take 7 rfl ?_ | refine Sel.take 8 rfl ?_ | refine Sel.take 9 rfl ?_ | refine Sel.take 10 rfl ?_ | refine Sel.take 11 rfl ?_)) w h)) ?_ | refine aw_one0 7 (by kernel_rfl) rfl rfl rfl (e_store (i := 15) rfl rfl rfl rfl rfl rfl rfl rfl) (by intro hb; first | (exact absurd hb (by decide)) | exact (fun w h => Cl.sel (by (repeat first | exact Sel.nil _ | refine Sel.take 0 rfl ?_ | refine Sel.take 1 rfl ?_ | refine Sel.take 2 rfl ?_ | refine Sel.take 3 rfl ?_ | refine Sel.take 4 rfl ?_ | refine Sel.take 5 rfl ?_ | refine Sel.take 6 rfl ?_ | refine Sel.take 7 rfl ?_ | refine Sel.take 8 rfl ?_ | refine Sel.take 9 rfl ?_ | refine Sel.take 10 rfl ?_ | refine Sel.take 11 rfl ?_)) w h)) ?_ | refine aw_one0 7 (by kernel_rfl) rfl rfl rfl (e_storeEl1 (i := 0) rfl rfl rfl rfl rfl (by first | omega | (simp only [List.length_set, List.length_append, List.length_cons, List.length_nil, List.length_replicate, List.length_take, List.length_drop, List.length_map]; omega))) (by intro hb; first | (exact absurd hb (by decide)) | exact (fun w h => Cl.sel (by (repeat first | exact Sel.nil _ | refine Sel.take 0 rfl ?_ | refine Sel.take 1 rfl ?_ | refine Sel.take 2 rfl ?_ | refine Sel.take 3 rfl ?_ | refine Sel.take 4 rfl ?_ | refine Sel.take 5 rfl ?_ | refine Sel.take 6 rfl ?_ | refine Sel.take 7 rfl ?_ | refine Sel.take 8 rfl ?_ | refine Sel.take 9 rfl ?_ | refine Sel.take 10 rfl ?_ | refine Sel.take 11 rfl ?_)) w h)) ?_ | refine aw_one0 7 (by kernel_rfl) rfl rfl rfl (e_storeEl1 (i := 1) rfl rfl rfl rfl rfl (by first | omega | (simp only [List.length_set, List.length_append, List.length_cons, List.length_nil, List.length_replicate, List.length_take, List.length_drop, List.length_map]; omega))) (by intro hb; first | (exact absurd hb (by decide)) | exact (fun w h => Cl.sel (by (repeat first | exact Sel.nil _ | refine Sel.take 0 rfl ?_ | refine Sel.take 1 rfl ?_ | refine Sel.take 2 rfl ?_ | refine Sel.take 3 rfl ?_ | refine Sel.take 4 rfl ?_ | refine Sel.take 5 rfl ?_ | refine Sel.take 6 rfl ?_ | refine Sel.take 7 rfl ?_ | refine Sel.take 8 rfl ?_ | refine Sel.take 9 rfl ?_ | refine Sel.take 10 rfl ?_ | refine Sel.take 11 rfl ?_)) w h)) ?_ | refine aw_one0 7 (by kernel_rfl) rfl rfl rfl (e_storeEl1 (i := 2) rfl rfl rfl rfl rfl (by first | omega | (simp only [List.length_set, List.length_append, List.length_cons, List.length_nil, List.length_replicate, List.length_take, List.length_drop, List.length_map]; omega))) (by intro hb; first | (exact absurd hb (by decide)) | exact (fun w h => Cl.sel (by (repeat first | exact Sel.nil _ | refine Sel.take 0 rfl ?_ | refine Sel.take 1 rfl ?_ | refine Sel.take 2 rfl ?_ | refine Sel.take 3 rfl ?_ | refine Sel.take 4 rfl ?_ | refine Sel.take 5 rfl ?_ | refine Sel.take 6 rfl ?_ | refine Sel.take 7 rfl ?_ | refine Sel.take 8 rfl ?_ | refine Sel.take 9 rfl ?_ | refine Sel.take 10 rfl ?_ | refine Sel.take 11 rfl ?_)) w h)) ?_ | refine aw_one0 7 (by kernel_rfl) rfl rfl rfl (e_storeEl1 (i := 3) rfl rfl rfl rfl rfl (by first | omega | (simp only [List.length_set, List.length_append, List.length_cons, List.length_nil, List.length_replicate, List.length_take, List.length_drop, List.length_map]; omega))) (by intro hb; first | (exact absurd hb (by decide)) | exact (fun w h => Cl.sel (by (repeat first | exact Sel.nil _ | refine Sel.take 0 rfl ?_ | refine Sel.take 1 rfl ?_ | refine Sel.take 2 rfl ?_ | refine Sel.take 3 rfl ?_ | refine Sel.take 4 rfl ?_ | refine Sel.take 5 rfl ?_ | refine Sel.take 6 rfl ?_ | refine Sel.take 7 rfl ?_ | refine Sel.take 8 rfl ?_ | refine Sel.take 9 rfl ?_ | refine Sel.take 10 rfl ?_ | refine Sel.take 11 rfl ?_)) w h)) ?_ | refine aw_one0 7 (by kernel_rfl) rfl rfl rfl (e_storeEl1 (i := 4) rfl rfl rfl rfl rfl (by first | omega | (simp only [List.length_set, List.length_append, List.length_cons, List.length_nil, List.length_replicate, List.length_take, List.length_drop, List.length_map]; omega))) (by intro hb; first | (exact absurd hb (by decide)) | exact (fun w h => Cl.sel (by (repeat first | exact Sel.nil _ | refine Sel.take 0 rfl ?_ | refine Sel.take 1 rfl ?_ | refine Sel.take 2 rfl ?_ | refine Sel.take 3 rfl ?_ | refine Sel.take 4 rfl ?_ | refine Sel.take 5 rfl ?_ | refine Sel.take 6 rfl ?_ | refine Sel.take 7 rfl ?_ | refine Sel.take 8 rfl ?_ | refine Sel.take 9 rfl ?_ | refine Sel.take 10 rfl ?_ | refine Sel.take 11 rfl ?_)) w h)) ?_ | refine aw_one0 7 (by kernel_rfl) rfl rfl rfl (e_storeEl1 (i := 5) rfl rfl rfl rfl rfl (by first | omega | (simp only [List.length_set, List.length_append, List.length_cons, List.length_nil, List.length_replicate, List.length_take, List.length_drop, List.length_map]; omega))) (by intro hb; first | (exact absurd hb (by decide)) | exact (fun w h => Cl.sel (by (repeat first | exact Sel.nil _ | refine Sel.take 0 rfl ?_ | refine Sel.take 1 rfl ?_ | refine Sel.take 2 rfl ?_ | refine Sel.take 3 rfl ?_ | refine Sel.take 4 rfl ?_ | refine Sel.take 5 rfl ?_ | refine Sel.take 6 rfl ?_ | refine Sel.take 7 rfl ?_ | refine Sel.take 8 rfl ?_ | refine Sel.take 9 rfl ?_ | refine Sel.take 10 rfl ?_ | refine Sel.take 11 rfl ?_)) w h)) ?_ | refine aw_one0 7 (by kernel_rfl) rfl rfl rfl (e_storeEl1 (i := 6) rfl rfl rfl rfl rfl (by first | omega | (simp only [List.length_set, List.length_append, List.length_cons, List.length_nil, List.length_replicate, List.length_take, List.length_drop, List.length_map]; omega))) (by intro hb; first | (exact absurd hb (by decide)) | exact (fun w h => Cl.sel (by (repeat first | exact Sel.nil _ | refine Sel.take 0 rfl ?_ | refine Sel.take 1 rfl ?_ | refine Sel.take 2 rfl ?_ | refine Sel.take 3 rfl ?_ | refine Sel.take 4 rfl ?_ | refine Sel.take 5 rfl ?_ | refine Sel.take 6 rfl ?_ | refine Sel.take 7 rfl ?_ | refine Sel.take 8 rfl ?_ | refine Sel.take 9 rfl ?_ | refine Sel.take 10 rfl ?_ | refine Sel.take 11 rfl ?_)) w h)) ?_ | refine aw_one0 7 (by kernel_rfl) rfl rfl rfl (e_storeEl1 (i := 7) rfl rfl rfl rfl rfl (by first | omega | (simp only [List.length_set, List.length_append, List.length_cons, List.length_nil, List.length_replicate, List.length_take, List.length_drop, List.length_map]; omega))) (by intro hb; first | (exact absurd hb (by decide)) | exact (fun w h => Cl.sel (by (repeat first | exact Sel.nil _ | refine Sel.take 0 rfl ?_ | refine Sel.take 1 rfl ?_ | refine Sel.take 2 rfl ?_ | refine Sel.take 3 rfl ?_ | refine Sel.take 4 rfl ?_ | refine Sel.take 5 rfl ?_ | refine Sel.take 6 rfl ?_ | refine Sel.take 7 rfl ?_ | refine Sel.take 8 rfl ?_ | refine Sel.take 9 rfl ?_ | refine Sel.take 10 rfl ?_ | refine Sel.take 11 rfl ?_)) w h)) ?_ | refine aw_one0 7 (by kernel_rfl) rfl rfl rfl (e_storeEl1 (i := 8) rfl rfl rfl rfl rfl (by first | omega | (simp only [List.length_set, List.length_append, List.length_cons, List.length_nil, List.length_replicate, List.length_take, List.length_drop, List.length_map]; omega))) (by intro hb; first | (exact absurd hb (by decide)) | exact (fun w h => Cl.sel (by (repeat first | exact Sel.nil _ | refine Sel.take 0 rfl ?_ | refine Sel.take 1 rfl ?_ | refine Sel.take 2 rfl ?_ | refine Sel.take 3 rfl ?_ | refine Sel.take 4 rfl ?_ | refine Sel.take 5 rfl ?_ | refine Sel.take 6 rfl ?_ | refine Sel.take 7 rfl ?_ | refine Sel.take 8 rfl ?_ | refine Sel.take 9 rfl ?_ | refine Sel.take 10 rfl ?_ | refine Sel.take 11 rfl ?_)) w h)) ?_ | refine aw_one0 7 (by kernel_rfl) rfl rfl rfl (e_storeEl1 (i := 9) rfl rfl rfl rfl rfl (by first | omega | (simp only [List.length_set, List.length_append, List.length_cons, List.length_nil, List.length_replicate, List.length_take, List.length_drop, List.length_map]; omega))) (by intro hb; first | (exact absurd hb (by decide)) | exact (fun w h => Cl.sel (by (repeat first | exact Sel.nil _ | refine Sel.take 0 rfl ?_ | refine Sel.take 1 rfl ?_ | refine Sel.take 2 rfl ?_ | refine Sel.take 3 rfl ?_ | refine Sel.take 4 rfl ?_ | refine Sel.take 5 rfl ?_ | refine Sel.take 6 rfl ?_ | refine Sel.take 7 rfl ?_ | refine Sel.take 8 rfl ?_ | refine Sel.take 9 rfl ?_ | refine Sel.take 10 rfl ?_ | refine Sel.take 11 rfl ?_)) w h)) ?_ | refine aw_one0 7 (by kernel_rfl) rfl rfl rfl (e_storeEl1 (i := 10) rfl rfl rfl rfl rfl (by first | omega | (simp only [List.length_set, List.length_append, List.length_cons, List.length_nil, List.length_replicate, List.length_take, List.length_drop, List.length_map]; omega))) (by intro hb; first | (exact absurd hb (by decide)) | exact (fun w h => Cl.sel (by (repeat first | exact Sel.nil _ | refine Sel.take 0 rfl ?_ | refine Sel.take 1 rfl ?_ | refine Sel.take 2 rfl ?_ | refine Sel.take 3 rfl ?_ | refine Sel.take 4 rfl ?_ | refine Sel.take 5 rfl ?_ | refine Sel.take 6 rfl ?_ | refine Sel.take 7 rfl ?_ | refine Sel.take 8 rfl ?_ | refine Sel.take 9 rfl ?_ | refine Sel.take 10 rfl ?_ | refine Sel.take 11 rfl ?_)) w h)) ?_ | refine aw_one0 7 (by kernel_rfl) rfl rfl rfl (e_storeEl1 (i := 11) rfl rfl rfl rfl rfl (by first | omega | (simp only [List.length_set, List.length_append, List.length_cons, List.length_nil, List.length_replicate, List.length_take, List.length_drop, List.length_map]; omega))) (by intro hb; first | (exact absurd hb (by decide)) | exact (fun w h => Cl.sel (by (repeat first | exact Sel.nil _ | refine Sel.take 0 rfl ?_ | refine Sel.take 1 rfl ?_ | refine Sel.take 2 rfl ?_ | refine Sel.take 3 rfl ?_ | refine Sel.take 4 rfl ?_ | refine Sel.take 5 rfl ?_ | refine Sel.take 6 rfl ?_ | refine Sel.take 7 rfl ?_ | refine Sel.take 8 rfl ?_ | refine Sel.take 9 rfl ?_ | refine Sel.take 10 rfl ?_ | refine Sel.take 11 rfl ?_)) w h)) ?_ | refine aw_one0 7 (by kernel_rfl) rfl rfl rfl (e_storeEl1 (i := 12) rfl rfl rfl rfl rfl (by first | omega | (simp only [List.length_set, List.length_append, List.length_cons, List.length_nil, List.length_replicate, List.length_take, List.length_drop, List.length_map]; omega))) (by intro hb; first | (exact absurd hb (by decide)) | exact (fun w h => Cl.sel (by (repeat first | exact Sel.nil _ | refine Sel.take 0 rfl ?_ | refine Sel.take 1 rfl ?_ | refine Sel.take 2 rfl ?_ | refine Sel.take 3 rfl ?_ | refine Sel.take 4 rfl ?_ | refine Sel.take 5 rfl ?_ | refine Sel.take 6 rfl ?_ | refine Sel.take 7 rfl ?_ | refine Sel.take 8 rfl ?_ | refine Sel.take 9 rfl ?_ | refine Sel.take 10 rfl ?_ | refine Sel.take 11 rfl ?_)) w h)) ?_ | refine aw_one0 7 (by kernel_rfl) rfl rfl rfl (e_storeEl1 (i := 13) rfl rfl rfl rfl rfl (by first | omega | (simp only [List.length_set, List.length_append, List.length_cons, List.length_nil, List.length_replicate, List.length_take, List.length_drop, List.length_map]; omega))) (by intro hb; first | (exact absurd hb (by decide)) | exact (fun w h => Cl.sel (by (repeat first | exact Sel.nil _ | refine Sel.take 0 rfl ?_ | refine Sel.take 1 rfl ?_ | refine Sel.take 2 rfl ?_ | refine Sel.take 3 rfl ?_ | refine Sel.take 4 rfl ?_ | refine Sel.take 5 rfl ?_ | refine Sel.take 6 rfl ?_ | refine Sel.take 7 rfl ?_ | refine Sel.take 8 rfl ?_ | refine Sel.take 9 rfl ?_ | refine Sel.take 10 rfl ?_ | refine Sel.take 11 rfl ?_)) w h)) ?_ | refine aw_one0 7 (by kernel_rfl) rfl rfl rfl (e_storeEl1 (i := 14) rfl rfl rfl rfl rfl (by first | omega | (simp only [List.length_set, List.length_append, List.length_cons, List.length_nil, List.length_replicate, List.length_take, List.length_drop, List.length_map]; omega))) (by intro hb; first | (exact absurd hb (by decide)) | exact (fun w h => Cl.sel (by (repeat first | exact Sel.nil _ | refine Sel.take 0 rfl ?_ | refine Sel.take 1 rfl ?_ | refine Sel.take 2 rfl ?_ | refine Sel.take 3 rfl ?_ | refine Sel.take 4 rfl ?_ | refine Sel.take 5 rfl ?_ | refine Sel.take 6 rfl ?_ | refine Sel.take 7 rfl ?_ | refine Sel.take 8 rfl ?_ | refine Sel.take 9 rfl ?_ | refine Sel.take 10 rfl ?_ | refine Sel.take 11 rfl ?_)) w h)) ?_ | refine aw_one0 7 (by kernel_rfl) rfl rfl rfl (e_storeEl1 (i := 15) rfl rfl rfl rfl rfl (by first | omega | (simp only [List.length_set, List.length_append, List.length_cons, List.length_nil, List.length_replicate, List.length_take, List.length_drop, List.length_map]; omega))) (by intro hb; first | (exact absurd hb (by decide)) | exact (fun w h => Cl.sel (by (repeat first | exact Sel.nil _ | refine Sel.take 0 rfl ?_ | refine Sel.take 1 rfl ?_ | refine Sel.take 2 rfl ?_ | refine Sel.take 3 rfl ?_ | refine Sel.take 4 rfl ?_ | refine Sel.take 5 rfl ?_ | refine Sel.take 6 rfl ?_ | refine Sel.take 7 rfl ?_ | refine Sel.take 8 rfl ?_ | refine Sel.take 9 rfl ?_ | refine Sel.take 10 rfl ?_ | refine Sel.take 11 rfl ?_)) w h)) ?_
      refine aw_pure 8 rfl (by kernel_rfl) (by kernel_rfl) (by kernel_rfl) (by kernel_rfl) (by kernel_rfl) rfl rfl rfl (q_assign rfl rfl) ?_
      refine aw_end (by kernel_rfl) ?_
      refine post_then ?_
      refine cw_ret ?_
      refine post_ret2 rfl (resOk_blk (x := (⟨countGE x t, IntKind.i64.wrap (1 * 2 ^ ((x.length : Int)).toNat)⟩ : Chance)) rfl (by first | assumption | (repeat first | exact .head _ | apply List.Mem.tail)) (by rfl)) (resOk_tmp rfl) ?_
      have h4 : IntKind.i64.wrap (1 * 2 ^ ((x.length : Int)).toNat) = 2 ^ x.length := by
        have h5 : (2 : Int) ^ x.length ≤ 2 ^ 40 := two_pow_le (by omega)
        have h6 : (0 : Int) ≤ 2 ^ x.length := Int.pow_nonneg (by decide)
        rw [Int.one_mul, Int.toNat_natCast]
        simp only [IntKind.wrap, IntKind.signed, IntKind.bits]
        generalize (2 : Int) ^ x.length = z at h5 h6
        simp
        omega
      exact fun w' hw => ⟨(), by rw [h2, if_pos rfl, h4], trivial, (fun w h => Cl.sel (by (repeat first | exact Sel.nil _ | refine Sel.take 0 rfl ?_ | refine Sel.take 1 rfl ?_ | refine Sel.take 2 rfl ?_ | refine Sel.take 3 rfl ?_ | refine Sel.take 4 rfl ?_ | refine Sel.take 5 rfl ?_ | refine Sel.take 6 rfl ?_ | refine Sel.take 7 rfl ?_ | refine Sel.take 8 rfl ?_ | refine Sel.take 9 rfl ?_ | refine Sel.take 10 rfl ?_ | refine Sel.take 11 rfl ?_)) w h) _ hw⟩
end Go.Proofs.Ytekikelejncgeaa
