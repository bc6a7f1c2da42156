import Derived.Test.YtomjbfeafodfbaaGreatWCosts4

set_option autoImplicit false
set_option linter.unusedSimpArgs false
set_option linter.unusedVariables false
set_option maxRecDepth 100000
namespace Go.Proofs.YtomjbfeafodfbaaGreat
open Go.Sx
open Enc (enc val)
theorem prcB_no {n : Nat} {ms : List Nat} {prices : List Int} {scale : Int} (h : prcB n prices scale = false) : provB n ms prices scale = false ∧ provV n ms prices scale = 0 := by
  have : provB n ms prices scale = false := by rw [provB, h]; rfl
  exact ⟨this, by rw [provV, this]; rfl⟩
theorem refProves_spec (n : Nat) (hn : n ≤ 30) (sv : SlV) (vs : List SlV) (ls : List (List Int)) (hs : ∀ s ∈ ls, setB n s = true) (sp : SlV) (prices : List Int) (scale : Int) (w : World) (hm : Stb w [] (fun w' => Mt w' sv.v vs ls)) (hp : Stb w [] (RdL sp.v prices)) :
    Calls Tryz.prog 40 #[.int .i64 n, sv.v, sp.v, .int .i64 scale] w fun e w' => e = .returned (.tuple #[.int .i64 (provV n (msOf ls) prices scale), .bool (provB n (msOf ls) prices scale)]) ∧ Cl w [] [] w' := by
  have h1 := stb_map hm fun _ h => h.l
  have hL := rd_len h1.here
  have n1 := hm.here.n
  have hL2 := rd_len hp.here
  refine calls_cw (vs := [_, _, _, _]) Tryz.func40 rfl Tryz.ntmps40 rfl (Cl.start0 w) (cw_seq (cw_region (sr rfl rfl rfl ((q_assign rfl rfl)) (sr rfl rfl rfl ((q_assign rfl rfl)) (sw_nil (post_then (cw_seq (cw_seq (cw_region (sr rfl rfl rfl ((q_move rfl rfl)) ?_))))))))))
  refine sr rfl rfl rfl ((q_len rfl (.cons rfl inferInstance (.nil)) (by exact fun w hw => Stb.cl (by assumption) hw))) ?_
  refine sr rfl rfl rfl ((q_move rfl rfl)) (sr rfl rfl rfl ((q_neq rfl rfl rfl)) (sr rfl rfl rfl ((q_move rfl rfl)) (sr rfl rfl rfl ((q_move rfl rfl)) (sw_step rfl rfl rfl (q_call (CanCall.mk Tryz.call84) rfl (.cons rfl inferInstance (.cons rfl inferInstance (.cons rfl inferInstance (.nil)))) (fun _ w hw => callq hw (refIn_spec _ _ _ w))) (sr rfl rfl rfl ((q_not rfl rfl)) (sr rfl rfl rfl ((q_or2 rfl rfl rfl)) (sw_nil (post_then ?_))))))))
  refine cw_cond rfl (fun h => ?_) (fun h => ?_)
  · skip
    have h2 : prcB n prices scale = false := by
      simp only [Bool.or_eq_true, Bool.not_eq_true', decide_eq_false_iff_not] at h
      rcases h with h | h
      · simp only [prcB]
        rw [decide_eq_false (by omega)]; rfl
      · simp only [prcB, h, Bool.and_false, Bool.false_and]
    have h3 := prcB_no (ms := msOf ls) h2
    refine cw_seq (cw_region (sr rfl rfl rfl ((q_assign rfl rfl)) (sr rfl rfl rfl ((q_assign rfl rfl)) (sw_nil (post_then (cw_ret (post_then_r (post_ret2 rfl (resOk_tmp rfl) (resOk_tmp rfl) ?_))))))))
    exact fun w' hw => ⟨by rw [h3.1, h3.2], hw⟩
  · skip
    simp only [Bool.or_eq_false_iff, Bool.not_eq_false', decide_eq_true_eq] at h
    have hpl : prices.length = n := by omega
    have hsc : 1 ≤ scale ∧ scale ≤ 1000000000000 := by have := h.2; simp only [inB, Bool.and_eq_true, decide_eq_true_eq] at this; exact this
    refine cw_skip (post_then (cw_seq (cw_region (sr rfl rfl rfl ((q_assign rfl rfl)) (sw_nil (post_then (cw_seq (cw_seq (cw_region (sr rfl rfl rfl ((q_assign rfl rfl)) (sw_nil (post_then (cw_block ?_)))))))))))))
    refine cw_loop (S := Nat) (fun k => [(0, [], .int .i64 n), (1, [], sv.v), (2, [], sp.v), (3, [], .int .i64 scale), (10, [], .int .i64 (sumTo prices k)), (11, [], .int .i64 k)]) (fun _ => Cl w [] []) (fun k => k ≤ n ∧ (∀ j, j < k → inB (nth prices j) 0 1000000000 = true) ∧ 0 ≤ sumTo prices k ∧ sumTo prices k ≤ 1000000000 * k) (fun k => n - k) 0 ⟨Nat.zero_le _, fun j hj => by omega, by simp [sumTo]⟩ (by exact .cons rfl (.cons rfl (.cons rfl (.cons rfl (.cons rfl (.cons rfl .nil)))))) (fun _ h => h) ?_
    rintro k ⟨hk, he, hs1, hs2⟩
    refine cw_seq (cw_seq (cw_region (sr rfl rfl rfl ((q_move rfl rfl)) (sr rfl rfl rfl ((q_move rfl rfl)) (sr rfl rfl rfl ((q_lss rfl rfl rfl)) (sw_nil (post_then ?_)))))))
    refine cw_cond rfl (fun h2 => ?_) (fun h2 => ?_)
    · skip
      have hk' : k < n := by simp only [decide_eq_true_eq] at h2; omega
      refine cw_skip (post_then (cw_seq (cw_block (cw_seq (cw_seq (cw_region (sr rfl rfl rfl ((q_move rfl rfl)) (sr rfl rfl rfl ((q_move rfl rfl)) ?_))))))))
      refine sr rfl rfl rfl ((q_indexN rfl rfl rfl (by exact fun w hw => Stb.cl (by assumption) hw) (by intro hc; omega))) ?_
      refine sr rfl rfl rfl ((q_loadEl rfl rfl rfl (by exact fun w hw => Stb.cl (by assumption) hw) (by intro hc; omega))) ?_
      refine sw_step rfl rfl rfl (q_call (CanCall.mk Tryz.call84) rfl (.cons rfl inferInstance (.cons rfl inferInstance (.cons rfl inferInstance (.nil)))) (fun _ w hw => callq hw (refIn_spec _ _ _ w))) (sr rfl rfl rfl ((q_not rfl rfl)) (sw_nil (post_then ?_)))
      refine cw_cond rfl (fun h3 => ?_) (fun h3 => ?_)
      · skip
        have h4 : prcB n prices scale = false := by
          have : (prices.all fun p => inB p 0 1000000000) = false := List.all_eq_false.2 ⟨nth prices k, nth_mem (by omega), by simpa using h3⟩
          simp only [prcB, this, Bool.and_false]
        have h5 := prcB_no (ms := msOf ls) h4
        refine cw_seq (cw_region (sr rfl rfl rfl ((q_assign rfl rfl)) (sr rfl rfl rfl ((q_assign rfl rfl)) (sw_nil (post_then (cw_ret (post_then_r (post_blk_r (post_then_r (post_then_r (post_blk_r (post_then_r (post_ret2 rfl (resOk_tmp rfl) (resOk_tmp rfl) ?_)))))))))))))
        exact fun w' hw => ⟨by rw [h5.1, h5.2], hw⟩
      · skip
        have h4 : inB (nth prices k) 0 1000000000 = true := by simpa using h3
        have h5 : 0 ≤ nth prices k ∧ nth prices k ≤ 1000000000 := by simpa [inB] using h4
        refine cw_skip (post_then (cw_region (sr rfl rfl rfl ((q_move rfl rfl)) (sr rfl rfl rfl ((q_move rfl rfl)) (sr rfl rfl rfl ((q_move rfl rfl)) ?_)))))
        refine sr rfl rfl rfl ((q_indexN rfl rfl rfl (by exact fun w hw => Stb.cl (by assumption) hw) (by intro hc; omega))) ?_
        refine sr rfl rfl rfl ((q_loadEl rfl rfl rfl (by exact fun w hw => Stb.cl (by assumption) hw) (by intro hc; omega))) ?_
        refine sr rfl rfl rfl ((q_add rfl rfl rfl (by intro hc; omega))) ?_
        refine sr rfl rfl rfl ((q_assign rfl rfl)) (sw_nil (post_blk (post_then (cw_region (sr rfl rfl rfl ((q_move rfl rfl)) ?_)))))
        refine sr rfl rfl rfl ((q_add rfl rfl rfl (by intro hc; omega))) ?_
        refine sr rfl rfl rfl ((q_assign rfl rfl)) (sw_nil ?_)
        refine post_next (k + 1) (by exact .cons rfl (.cons rfl (.cons rfl (.cons rfl (.cons rfl (.cons rfl .nil)))))) (fun _ h => h) ⟨by omega, fun j hj => ?_, by simp only [sumTo]; omega, by simp only [sumTo]; omega⟩ (by omega)
        by_cases e : j = k
        · subst e; exact h4
        · exact he j (by omega)
    · skip
      have hk' : k = n := by simp only [decide_eq_false_iff_not] at h2; omega
      subst hk'
      have hpb : ∀ j, 0 ≤ nth prices j ∧ nth prices j ≤ 1000000000 := nth_bd (by omega) fun v hv => by
        obtain ⟨q, hq, rfl⟩ := List.getElem_of_mem hv
        have := he q (by omega)
        rw [nth_get hq] at this
        simpa [inB] using this
      have hprc : prcB k prices scale = true := by
        have : (prices.all fun p => inB p 0 1000000000) = true := List.all_eq_true.2 fun v hv => by
          obtain ⟨q, hq, rfl⟩ := List.getElem_of_mem hv
          have := he q (by omega)
          rwa [nth_get hq] at this
        simp only [prcB, this, h.2, Bool.and_true, decide_eq_true_eq]
        exact hpl
      refine cw_exit (post_then_x (post_then_x (post_blk_eq (post_then (cw_seq (cw_seq (cw_region (sr rfl rfl rfl ((q_assign rfl rfl)) (sw_nil (post_then (cw_block ?_)))))))))))
      refine cw_loop (S := Nat) (fun i => [(0, [], .int .i64 k), (1, [], sv.v), (2, [], sp.v), (3, [], .int .i64 scale), (10, [], .int .i64 (sumTo prices k)), (12, [], .int .i64 i)]) (fun _ => Cl w [] []) (fun i => i ≤ ls.length ∧ ∀ j, j < i → psum prices (mask (nth ls j)) k ≤ scale) (fun i => ls.length - i) 0 ⟨Nat.zero_le _, fun j hj => by omega⟩ (by exact .cons rfl (.cons rfl (.cons rfl (.cons rfl (.cons rfl (.cons rfl .nil)))))) (fun _ h => h) ?_
      rintro i ⟨hi, hsum⟩
      refine cw_seq (cw_seq (cw_region (sr rfl rfl rfl ((q_move rfl rfl)) (sr rfl rfl rfl ((q_move rfl rfl)) ?_))))
      refine sr rfl rfl rfl ((q_len rfl (.cons rfl inferInstance (.nil)) (by exact fun w hw => Stb.cl (by assumption) hw))) ?_
      refine sr rfl rfl rfl ((q_lss rfl rfl rfl)) (sw_nil (post_then ?_))
      refine cw_cond rfl (fun h3 => ?_) (fun h3 => ?_)
      · skip
        have hi' : i < ls.length := by simp only [decide_eq_true_eq] at h3; omega
        have hrow := stb_map hm fun _ h => h.r i hi'
        have hrl := rd_len hrow.here
        have hsb := mask_bits (hs _ (nth_mem hi'))
        refine cw_skip (post_then (cw_seq (cw_block (cw_seq (cw_region (sr rfl rfl rfl ((q_move rfl rfl)) ?_))))))
        refine sw_x rfl rfl rfl (e_make (α := Bool) (zero := false) rfl rfl rfl rfl rfl (by omega) (by omega) (by decide)) (fun s50 => ?_)
        rw [Int.toNat_natCast, cvL_zero]
        refine sr rfl rfl rfl ((q_assign rfl rfl)) (sw_nil (post_then (cw_seq (cw_region (sr rfl rfl rfl ((q_assign rfl rfl)) (sw_nil (post_then (cw_seq (cw_seq (cw_region (sr rfl rfl rfl ((q_assign rfl rfl)) (sw_nil (post_then (cw_block ?_))))))))))))))
        refine cw_loop (S := Nat) (fun q => [(0, [], .int .i64 k), (1, [], sv.v), (2, [], sp.v), (3, [], .int .i64 scale), (10, [], .int .i64 (sumTo prices k)), (12, [], .int .i64 i), (13, [], s50.v), (14, [], .int .i64 (psum prices (maskTo (nth ls i) q) k)), (15, [], .int .i64 q)]) (fun q => Cl w [] [ownL 4 s50.v (cvL k (maskTo (nth ls i) q))]) (fun q => q ≤ (nth ls i).length) (fun q => (nth ls i).length - q) 0 (Nat.zero_le _) ?_ (fun _ h => h) ?_
        · have e0 : psum prices (maskTo (nth ls i) 0) k = 0 := by
            have : ∀ q, psum prices 0 q = 0 := by
              intro q
              induction q with
              | zero => rfl
              | succ q ih => simp [psum, ih]
            exact this k
          rw [e0]
          exact (by exact .cons rfl (.cons rfl (.cons rfl (.cons rfl (.cons rfl (.cons rfl (.cons rfl (.cons rfl (.cons rfl .nil)))))))))
        intro q hq
        have hb1 := psum_bd hpb (maskTo (nth ls i) q) k
        refine cw_seq (cw_seq (cw_region (sr rfl rfl rfl ((q_move rfl rfl)) (sr rfl rfl rfl ((q_move rfl rfl)) (sr rfl rfl rfl ((q_move rfl rfl)) ?_)))))
        refine sr rfl rfl rfl ((q_indexN rfl rfl rfl (by exact fun w hw => Stb.cl (by assumption) hw) (by intro hc; omega))) ?_
        refine sr rfl rfl rfl ((q_loadEl rfl rfl rfl (by exact fun w hw => Stb.cl (by assumption) hw) (by intro hc; omega))) ?_
        refine sr rfl rfl rfl ((q_len rfl (.cons rfl inferInstance (.nil)) (by exact fun w hw => Stb.cl (by assumption) hw))) ?_
        refine sr rfl rfl rfl ((q_lss rfl rfl rfl)) (sw_nil (post_then ?_))
        refine cw_cond rfl (fun h4 => ?_) (fun h4 => ?_)
        · skip
          have hq' : q < (nth ls i).length := by simp only [decide_eq_true_eq] at h4; omega
          have hel := hsb.2 _ (nth_mem hq')
          have hcl := cvL_len k (maskTo (nth ls i) q)
          have hb2 := hpb (nth (nth ls i) q).toNat
          have hput := psum_put (l := prices) (m := maskTo (nth ls i) q) (x := (nth (nth ls i) q).toNat) (k := k) (by omega)
          refine cw_skip (post_then (cw_seq (cw_block (cw_seq (cw_region (sr rfl rfl rfl ((q_move rfl rfl)) (sr rfl rfl rfl ((q_move rfl rfl)) ?_)))))))
          refine sr rfl rfl rfl ((q_indexN rfl rfl rfl (by exact fun w hw => Stb.cl (by assumption) hw) (by intro hc; omega))) ?_
          refine sr rfl rfl rfl ((q_loadEl rfl rfl rfl (by exact fun w hw => Stb.cl (by assumption) hw) (by intro hc; omega))) ?_
          refine sr rfl rfl rfl ((q_move rfl rfl)) ?_
          refine sr rfl rfl rfl ((q_indexN rfl rfl rfl (by exact fun w hw => Stb.cl (by assumption) hw) (by intro hc; omega))) ?_
          refine sr rfl rfl rfl ((q_loadEl rfl rfl rfl (by exact fun w hw => Stb.cl (by assumption) hw) (by intro hc; omega))) ?_
          refine sr rfl rfl rfl ((q_assign rfl rfl)) (sw_nil (post_then (cw_seq (cw_region (sr rfl rfl rfl ((q_move rfl rfl)) (sr rfl rfl rfl ((q_move rfl rfl)) ?_))))))
          refine sr rfl rfl rfl ((q_index rfl rfl rfl (by exact fun w hw => rd_own hw (by exact .head _)) (by intro hc; omega))) ?_
          refine sr rfl rfl rfl ((q_loadEl rfl rfl rfl (by exact fun w hw => rd_own hw (by exact .head _)) (by intro hc; omega))) ?_
          refine sr rfl rfl rfl ((q_not rfl rfl)) (sw_nil (post_then ?_))
          refine cw_cut (S := Unit) (fun _ => [(0, [], .int .i64 k), (1, [], sv.v), (2, [], sp.v), (3, [], .int .i64 scale), (10, [], .int .i64 (sumTo prices k)), (12, [], .int .i64 i), (13, [], s50.v), (14, [], .int .i64 (psum prices (maskTo (nth ls i) (q + 1)) k)), (15, [], .int .i64 q)]) (fun _ => Cl w [] [ownL 4 s50.v (cvL k (maskTo (nth ls i) (q + 1)))]) (fun _ => True) ?_ ?_
          · have hb := cvL_nth (n := k) (i := (nth (nth ls i) q).toNat) (by omega) (maskTo (nth ls i) q)
            rw [hb]
            refine cw_cond rfl (fun h5 => ?_) (fun h5 => ?_)
            · skip
              have h6 : (maskTo (nth ls i) q).testBit (nth (nth ls i) q).toNat = false := by rw [Bool.not_eq_true'] at h5; exact h5
              have e5 : psum prices (maskTo (nth ls i) (q + 1)) k = psum prices (maskTo (nth ls i) q) k + nth prices (nth (nth ls i) q).toNat := by rw [maskTo, hput, if_neg (by rw [h6]; decide)]
              refine cw_seq (cw_region (sr rfl rfl rfl ((q_move rfl rfl)) (sr rfl rfl rfl ((q_move rfl rfl)) ?_)))
              refine sr rfl rfl rfl ((q_index rfl rfl rfl (by exact fun w hw => rd_own hw (by exact .head _)) (by intro hc; omega))) ?_
              refine sw_eff0 rfl rfl (e_storeEl1 (i := 0) rfl rfl rfl rfl rfl (by omega)) ?_
              refine sw_nil (post_then (cw_region (sr rfl rfl rfl ((q_move rfl rfl)) (sr rfl rfl rfl ((q_move rfl rfl)) (sr rfl rfl rfl ((q_move rfl rfl)) ?_)))))
              refine sr rfl rfl rfl ((q_index rfl rfl rfl (by exact fun w hw => Stb.cl (by assumption) hw) (by intro hc; omega))) ?_
              refine sr rfl rfl rfl ((q_loadEl rfl rfl rfl (by exact fun w hw => Stb.cl (by assumption) hw) (by intro hc; omega))) ?_
              refine sr rfl rfl rfl ((q_add rfl rfl rfl (by intro hc; omega))) ?_
              refine sr rfl rfl rfl ((q_assign rfl rfl)) (sw_nil ?_)
              refine post_meet () ?_ (fun w3 hw3 => ?_) trivial
              · rw [e5]
                exact (by exact .cons rfl (.cons rfl (.cons rfl (.cons rfl (.cons rfl (.cons rfl (.cons rfl (.cons rfl (.cons rfl .nil)))))))))
              · rw [maskTo, ← cvL_set (by omega)]
                exact hw3
            · skip
              have h6 : (maskTo (nth ls i) q).testBit (nth (nth ls i) q).toNat = true := by rw [Bool.not_eq_false'] at h5; exact h5
              have e5 : psum prices (maskTo (nth ls i) (q + 1)) k = psum prices (maskTo (nth ls i) q) k := by rw [maskTo, hput, if_pos h6, Int.add_zero]
              refine cw_skip ?_
              refine post_meet () ?_ (fun w3 hw3 => ?_) trivial
              · rw [e5]
                exact (by exact .cons rfl (.cons rfl (.cons rfl (.cons rfl (.cons rfl (.cons rfl (.cons rfl (.cons rfl (.cons rfl .nil)))))))))
              · rw [maskTo, cvL_same h6]
                exact hw3
          · intro _ _
            refine post_blk (post_then (cw_region (sr rfl rfl rfl ((q_move rfl rfl)) ?_)))
            refine sr rfl rfl rfl ((q_add rfl rfl rfl (by intro hc; omega))) ?_
            refine sr rfl rfl rfl ((q_assign rfl rfl)) (sw_nil ?_)
            exact post_next (q + 1) (by exact .cons rfl (.cons rfl (.cons rfl (.cons rfl (.cons rfl (.cons rfl (.cons rfl (.cons rfl (.cons rfl .nil))))))))) (fun _ h => h) (by omega) (by omega)
        · skip
          have hq' : q = (nth ls i).length := by simp only [decide_eq_false_iff_not] at h4; omega
          subst hq'
          refine cw_exit (post_then_x (post_then_x (post_blk_eq (post_then (cw_seq (cw_region (sr rfl rfl rfl ((q_move rfl rfl)) (sr rfl rfl rfl ((q_move rfl rfl)) (sr rfl rfl rfl ((q_gtr rfl rfl rfl)) (sw_nil (post_then ?_)))))))))))
          refine cw_cond rfl (fun h5 => ?_) (fun h5 => ?_)
          · skip
            have h6 : provB k (msOf ls) prices scale = false := by
              have : ((msOf ls).all fun m => decide (psum prices m k ≤ scale)) = false := List.all_eq_false.2 ⟨mask (nth ls i), by rw [← msOf_nth hi']; exact nth_mem (by simpa [msOf] using hi'), by simp only [decide_eq_true_eq] at h5 ⊢; have em : mask (nth ls i) = maskTo (nth ls i) (nth ls i).length := rfl; rw [em]; omega⟩
              rw [provB, this, Bool.and_false]
            refine cw_seq (cw_region (sr rfl rfl rfl ((q_assign rfl rfl)) (sr rfl rfl rfl ((q_assign rfl rfl)) (sw_nil (post_then (cw_ret (post_blk_r (post_then_r (post_then_r (post_blk_r (post_then_r (post_ret2 rfl (resOk_tmp rfl) (resOk_tmp rfl) ?_))))))))))))
            exact fun w' hw => ⟨by rw [provV, h6]; rfl, hw.tail⟩
          · skip
            refine cw_skip (post_blk (post_then (cw_region (sr rfl rfl rfl ((q_move rfl rfl)) ?_))))
            refine sr rfl rfl rfl ((q_add rfl rfl rfl (by intro hc; omega))) ?_
            refine sr rfl rfl rfl ((q_assign rfl rfl)) (sw_nil ?_)
            refine post_next (i + 1) (by exact .cons rfl (.cons rfl (.cons rfl (.cons rfl (.cons rfl (.cons rfl .nil)))))) (fun _ h => h.tail) ⟨by omega, fun j hj => ?_⟩ (by omega)
            by_cases e : j = i
            · subst e; simp only [decide_eq_false_iff_not] at h5; have em : mask (nth ls j) = maskTo (nth ls j) (nth ls j).length := rfl; rw [em]; omega
            · exact hsum j (by omega)
      · skip
        have hi' : i = ls.length := by simp only [decide_eq_false_iff_not] at h3; omega
        subst hi'
        have h6 : provB k (msOf ls) prices scale = true := by
          rw [provB, hprc, Bool.true_and, List.all_eq_true]
          intro m hm2
          obtain ⟨s, hs2, rfl⟩ := List.mem_map.1 hm2
          obtain ⟨j, hj, rfl⟩ := List.getElem_of_mem hs2
          have := hsum j hj
          rw [nth_get hj] at this
          simpa using this
        refine cw_exit (post_then_x (post_then_x (post_blk_eq (post_then (cw_seq (cw_region (sr rfl rfl rfl ((q_move rfl rfl)) (sr rfl rfl rfl ((q_move rfl rfl)) ?_))))))))
        refine sr rfl rfl rfl ((q_add rfl rfl rfl (by intro hc; omega))) ?_
        refine sr rfl rfl rfl ((q_sub rfl rfl rfl (by intro hc; omega))) ?_
        refine sr rfl rfl rfl ((q_move rfl rfl)) ?_
        refine sr rfl rfl rfl ((q_quo rfl rfl rfl (by intro hc; omega))) ?_
        refine sr rfl rfl rfl ((q_assign rfl rfl)) (sr rfl rfl rfl ((q_assign rfl rfl)) (sw_nil (post_then (cw_ret (post_ret2 rfl (resOk_tmp rfl) (resOk_tmp rfl) ?_)))))
        exact fun w' hw => ⟨by rw [provV, h6]; rfl, hw⟩
end Go.Proofs.YtomjbfeafodfbaaGreat

set_option autoImplicit false
set_option maxRecDepth 100000
namespace Go.Proofs.YtomjbfeafodfbaaGreat
open Go.Sx
open Enc (enc val)
def exA : ByteArray := ⟨#[97]⟩
def exB : ByteArray := ⟨#[98]⟩
def exU (a b c d e f : SlV) : List Un := [⟨exA, ByteArray.empty, ByteArray.empty, 100, 10, 0, 0, 10, a, b, [0], [4]⟩, ⟨exB, ByteArray.empty, ByteArray.empty, 100, 10, 0, 10, 20, c, d, [5], [0]⟩, ⟨exA, ByteArray.empty, ByteArray.empty, 120, 10, 1, 0, 10, e, f, [0], [5]⟩]
def exT : List Wan := [⟨exA, ByteArray.empty, ByteArray.empty, 100, 10⟩, ⟨exB, ByteArray.empty, ByteArray.empty, 100, 10⟩]
def exW : Wts := ⟨1, 1, 1, 2⟩
section
variable (a b c d e f : SlV)
theorem ex_ph : phoneB exA = true ∧ phoneB exB = true ∧ besideB ByteArray.empty = true := ⟨by decide +kernel, by decide +kernel, by decide +kernel⟩
theorem ex_voice : voiceB (exU a b c d e f) = true := by
  simp [voiceB, exU, unB, ex_ph, inB, vecB, eqB, nth]
theorem ex_begin : beginE (exU a b c d e f) exT exW = 0 := by
  have h2 : exT.all waB = true := by simp [exT, waB, ex_ph, inB]
  have h3 : wtB exW = true := by decide
  rw [beginE, if_neg (by simp [exU, exT]), ex_voice, h2, h3]; rfl
theorem ex_ne : ¬ exA = exB ∧ ¬ exB = exA := ⟨by decide, by decide⟩
theorem ex_i0 : idxs (exU a b c d e f) 3 exA = [0, 2] := by simp [idxs, exU, nth, List.range, List.range.loop, ex_ne]
theorem ex_i1 : idxs (exU a b c d e f) 3 exB = [1] := by simp [idxs, exU, nth, List.range, List.range.loop, ex_ne]
theorem ex_poss : possP (exU a b c d e f) exT = true := by
  have h0 : nth exT 0 = ⟨exA, ByteArray.empty, ByteArray.empty, 100, 10⟩ := rfl
  have h1 : nth exT 1 = ⟨exB, ByteArray.empty, ByteArray.empty, 100, 10⟩ := rfl
  have hl : (exU a b c d e f).length = 3 := rfl
  simp [possP, exT, List.range, List.range.loop, hl, nth, ex_i0, ex_i1]
theorem ex_tl : (tsk (exU a b c d e f) exT exW).tl 2 = [[0, 1], [2, 1]] := by
  have hl : (exU a b c d e f).length = 3 := rfl
  have h0 : (tsk (exU a b c d e f) exT exW).us 0 = [0, 2] := ex_i0 a b c d e f
  have h1 : (tsk (exU a b c d e f) exT exW).us 1 = [1] := ex_i1 a b c d e f
  simp [Tsk.tl, show (tsk (exU a b c d e f) exT exW).T = 2 from rfl, h0, h1]
theorem ex_c1 : (tsk (exU a b c d e f) exT exW).tc 0 [0, 1] = 0 := by rfl
theorem ex_c2 : (tsk (exU a b c d e f) exT exW).tc 0 [2, 1] = 20 := by rfl
theorem ex_cells {cells : List Int} (h : TabP (exU a b c d e f) exT exW cells) : cells = [0, 0, 20, 0, 0, 0] := by
  obtain ⟨h1, h2⟩ := h
  have hl : (exU a b c d e f).length = 3 := rfl
  have r0 : (tsk (exU a b c d e f) exT exW).R 2 0 = 0 := rfl
  have r2 : (tsk (exU a b c d e f) exT exW).R 2 2 = 20 := rfl
  have r1 : (tsk (exU a b c d e f) exT exW).R 1 1 = 0 := rfl
  have i0 : idxs (exU a b c d e f) (exU a b c d e f).length (nth exT 0).phone = [0, 2] := ex_i0 a b c d e f
  have i1 : idxs (exU a b c d e f) (exU a b c d e f).length (nth exT 1).phone = [1] := ex_i1 a b c d e f
  have ht : exT.length = 2 := rfl
  have q0 := h2 0 0 (by decide) (show _ < 3 by decide)
  have q1 := h2 0 1 (by decide) (show _ < 3 by decide)
  have q2 := h2 0 2 (by decide) (show _ < 3 by decide)
  have q3 := h2 1 0 (by decide) (show _ < 3 by decide)
  have q4 := h2 1 1 (by decide) (show _ < 3 by decide)
  have q5 := h2 1 2 (by decide) (show _ < 3 by decide)
  rw [i0, if_pos (by decide)] at q0 q2
  rw [i0, if_neg (by decide)] at q1
  rw [i1, if_neg (by decide)] at q3 q5
  rw [i1, if_pos (by decide)] at q4
  have q0' : nth cells 0 = 0 := q0.trans r0
  have q1' : nth cells 1 = 0 := q1
  have q2' : nth cells 2 = 20 := q2.trans r2
  have q3' : nth cells 3 = 0 := q3
  have q4' : nth cells 4 = 0 := q4.trans r1
  have q5' : nth cells 5 = 0 := q5
  have h1' : cells.length = 6 := h1
  match cells, h1' with
  | [x0, x1, x2, x3, x4, x5], _ =>
    simp only [nth, List.getD, List.getElem?_cons_zero, List.getElem?_cons_succ, Option.getD_some] at q0' q1' q2' q3' q4' q5'
    rw [q0', q1', q2', q3', q4', q5']
theorem ex_best {s : List Int} {k : Int} (h : BestSeq (tsk (exU a b c d e f) exT exW) s k) : s = [0, 1] ∧ k = 0 := by
  obtain ⟨h1, h2, h3⟩ := h
  have hT : (tsk (exU a b c d e f) exT exW).T = 2 := rfl
  rw [hT, ex_tl] at h1 h3
  simp only [List.mem_cons, List.not_mem_nil, or_false] at h1
  rcases h1 with rfl | rfl
  · rw [ex_c1] at h2; exact ⟨rfl, h2⟩
  · rw [ex_c2] at h2
    rcases h3 [0, 1] (by simp) with h4 | h4
    · simp at h4
    · rw [ex_c1] at h4
      rcases h4 with h4 | h4 <;> simp only at h4 <;> omega
theorem ex_bests {l : List Itm} {outs : List Sq} (h : (tsk (exU a b c d e f) exT exW).BF l (outs.map keyS)) (hl : l = [] ∨ outs.length = 5) : ∃ q1 q2 : Sq, outs = [q1, q2] ∧ q2.cost = 20 := by
  have hT : (tsk (exU a b c d e f) exT exW).T = 2 := rfl
  have hc := h.cov
  rw [hT, ex_tl] at hc
  have hlen := hc.length_eq
  simp only [List.length_append, List.length_map, List.length_cons, List.length_nil] at hlen
  have hl0 : l = [] := by
    rcases hl with hl | hl
    · exact hl
    · omega
  subst hl0
  simp only [List.flatMap_nil, List.nil_append, List.length_nil] at hc hlen
  match outs, hlen with
  | [q1, q2], _ =>
    refine ⟨q1, q2, rfl, ?_⟩
    simp only [List.map_cons, List.map_nil] at hc
    have c1 := h.cst (keyS q1) (by simp)
    have c2 := h.cst (keyS q2) (by simp)
    have hs := h.srt
    simp only [List.map_cons, List.map_nil, List.pairwise_cons, List.mem_cons, List.not_mem_nil, or_false, forall_eq] at hs
    have m1 : (keyS q1).1 ∈ [[(0 : Int), 1], [2, 1]] := hc.mem_iff.1 (by simp)
    have m2 : (keyS q2).1 ∈ [[(0 : Int), 1], [2, 1]] := hc.mem_iff.1 (by simp)
    have m3 : [(0 : Int), 1] ∈ [(keyS q1).1, (keyS q2).1] := hc.mem_iff.2 (by simp)
    have m4 : [(2 : Int), 1] ∈ [(keyS q1).1, (keyS q2).1] := hc.mem_iff.2 (by simp)
    simp only [List.mem_cons, List.not_mem_nil, or_false] at m1 m2 m3 m4
    have e20 : (keyS q2).2 = q2.cost := rfl
    rcases m2 with m2 | m2
    · rcases m1 with m1 | m1
      · rw [m1, m2] at m4; simp at m4
      · rw [m1, ex_c2] at c1
        rw [m2, ex_c1] at c2
        have := hs.1
        simp only [seqLt] at this
        rcases this with h5 | h5 <;> omega
    · rw [m2, ex_c2] at c2
      omega
end
def exS : List (List Int) := [[0, 1, 2], [0, 3], [1, 2], [3]]
theorem exS_ms : msOf exS = [7, 9, 6, 8] := by decide +kernel
theorem exS_cov : covE 4 exS 1000 = 0 := by decide +kernel
theorem exS_poss : possN 4 (msOf exS) = true := by rw [exS_ms]; decide +kernel
theorem exS_wid : wid (msOf exS) = 3 := by rw [exS_ms]; decide +kernel
theorem exS_k {k : Nat} (h : GOk 4 (msOf exS) k) (h0 : fr (giter 4 (msOf exS) k).g (fullN 4) = 0) : k = 2 := by
  rw [exS_ms] at h h0
  have a0 : fr (giter 4 [7, 9, 6, 8] 0).g (fullN 4) = 4 := by decide +kernel
  have a1 : fr (giter 4 [7, 9, 6, 8] 1).g (fullN 4) = 1 := by decide +kernel
  have a2 : fr (giter 4 [7, 9, 6, 8] 2).g (fullN 4) = 0 := by decide +kernel
  by_cases e : 2 < k
  · exact absurd a2 (h 2 e).1
  · match k, e with
    | 0, _ => omega
    | 1, _ => omega
    | 2, _ => rfl
    | k + 3, e => omega
theorem exS_out : (giter 4 (msOf exS) 2).out = [0, 1] := by rw [exS_ms]; decide +kernel
theorem exS_sh : (giter 4 (msOf exS) 2).sh = [3, 3, 3, 1] := by rw [exS_ms]; decide +kernel
theorem exS_scale : scaleTo 3 = 50820 := by decide +kernel
theorem exS_prov : provB 4 (msOf exS) [9240, 9240, 9240, 27720] 50820 = true ∧ provV 4 (msOf exS) [9240, 9240, 9240, 27720] 50820 = 2 := by rw [exS_ms]; decide +kernel
theorem srt_two {l : List Int} (hp : l.Perm [0, 1]) (hs : Srt l 0 l.length) : l = [0, 1] := by
  have hl := hp.length_eq
  match l, hl with
  | [x, y], _ =>
    have h1 := hs 0 1 (by omega) (by omega) (by simp)
    simp only [nth, List.getD, List.getElem?_cons_zero, List.getElem?_cons_succ, Option.getD_some] at h1
    have m1 : x ∈ [(0 : Int), 1] := hp.mem_iff.1 (by simp)
    have m2 : y ∈ [(0 : Int), 1] := hp.mem_iff.1 (by simp)
    have m3 : (0 : Int) ∈ [x, y] := hp.mem_iff.2 (by simp)
    have m4 : (1 : Int) ∈ [x, y] := hp.mem_iff.2 (by simp)
    simp only [List.mem_cons, List.not_mem_nil, or_false] at m1 m2 m3 m4
    rcases m1 with rfl | rfl <;> rcases m2 with rfl | rfl <;> simp_all
end Go.Proofs.YtomjbfeafodfbaaGreat

set_option autoImplicit false
set_option maxRecDepth 100000
namespace Go.Proofs.YtomjbfeafodfbaaGreat
open Go.Sx
open Enc (enc val)
def bst (vl : Nat → Option Int) : Nat → Nat → Option (Int × Nat)
  | _, 0 => none
  | lo, c + 1 => match vl lo with
    | none => bst vl (lo + 1) c
    | some v => match bst vl (lo + 1) c with
      | none => some (v, lo)
      | some (b, g) => if v ≤ b then some (v, lo) else some (b, g)
theorem bst_spec {vl : Nat → Option Int} : ∀ {c lo : Nat} {v : Int} {g : Nat}, bst vl lo c = some (v, g) → (lo ≤ g ∧ g < lo + c) ∧ vl g = some v ∧ ∀ g' v', lo ≤ g' → g' < lo + c → vl g' = some v' → v ≤ v' ∧ (g' < g → v < v')
  | 0, _, _, _, h => by simp [bst] at h
  | c + 1, lo, v, g, h => by
    rw [bst] at h
    cases h1 : vl lo with
    | none =>
      rw [h1] at h
      obtain ⟨h2, h3, h4⟩ := bst_spec h
      refine ⟨by omega, h3, fun g' v' a b e => ?_⟩
      by_cases hg : g' = lo
      · rw [hg, h1] at e; cases e
      · exact h4 g' v' (by omega) (by omega) e
    | some u =>
      rw [h1] at h
      cases h5 : bst vl (lo + 1) c with
      | none =>
        rw [h5] at h
        simp only [Option.some.injEq, Prod.mk.injEq] at h
        obtain ⟨rfl, rfl⟩ := h
        refine ⟨by omega, h1, fun g' v' a b e => ?_⟩
        by_cases hg : g' = lo
        · rw [hg, h1] at e; cases e; exact ⟨Int.le_refl _, fun hh => by omega⟩
        · exfalso
          have : ∀ {c lo : Nat}, bst vl lo c = none → ∀ g, lo ≤ g → g < lo + c → vl g = none := by
            intro c
            induction c with
            | zero => intro lo _ g a b; omega
            | succ c ih =>
              intro lo hh g a b
              rw [bst] at hh
              cases k1 : vl lo with
              | none =>
                rw [k1] at hh
                by_cases hgl : g = lo
                · rw [hgl, k1]
                · exact ih hh g (by omega) (by omega)
              | some z =>
                rw [k1] at hh
                cases k2 : bst vl (lo + 1) c with
                | none => rw [k2] at hh; cases hh
                | some y => rw [k2] at hh; simp only at hh; split at hh <;> cases hh
          rw [this h5 g' (by omega) (by omega)] at e; cases e
      | some y =>
        obtain ⟨b, g2⟩ := y
        rw [h5] at h
        obtain ⟨h2, h3, h4⟩ := bst_spec h5
        simp only at h
        split at h
        · rename_i hle
          simp only [Option.some.injEq, Prod.mk.injEq] at h
          obtain ⟨rfl, rfl⟩ := h
          refine ⟨by omega, h1, fun g' v' a b' e => ?_⟩
          by_cases hg : g' = lo
          · rw [hg, h1] at e; cases e; exact ⟨Int.le_refl _, fun hh => by omega⟩
          · have := h4 g' v' (by omega) (by omega) e
            exact ⟨by omega, fun hh => by omega⟩
        · rename_i hle
          simp only [Option.some.injEq, Prod.mk.injEq] at h
          obtain ⟨rfl, rfl⟩ := h
          refine ⟨by omega, h3, fun g' v' a b' e => ?_⟩
          by_cases hg : g' = lo
          · rw [hg, h1] at e; cases e; exact ⟨by omega, fun _ => by omega⟩
          · exact h4 g' v' (by omega) (by omega) e
theorem bst_ne {vl : Nat → Option Int} {g : Nat} {v : Int} (h : vl g = some v) : ∀ {c lo : Nat}, lo ≤ g → g < lo + c → bst vl lo c ≠ none
  | 0, lo, a, b => by omega
  | c + 1, lo, a, b => by
    rw [bst]
    cases k1 : vl lo with
    | none =>
      have : g ≠ lo := fun e => by rw [e, k1] at h; cases h
      exact bst_ne h (by omega) (by omega)
    | some z =>
      cases k2 : bst vl (lo + 1) c with
      | none => simp
      | some y => simp only; split <;> simp
structure CutP where
  fl : List (List Int)
  pl : List (List Int)
  L : Nat
namespace CutP
variable (P : CutP)
def n : Nat := P.fl.length
def m : Nat := P.pl.length
def S (p : Nat) : Nat → Int
  | 0 => 0
  | f + 1 => S p f + dist (nth P.fl f) (nth P.pl p)
def D : Nat → Nat → Option Int
  | 0, f => if f = P.n then some 0 else none
  | q + 1, f => (bst (fun g => (D q g).map fun v => P.S (P.m - (q + 1)) g + v) (f + P.L) (P.n + 1 - (f + P.L))).map fun y => y.1 - P.S (P.m - (q + 1)) f
def V (q : Nat) (g : Nat) : Option Int := (P.D q g).map fun v => P.S (P.m - (q + 1)) g + v
def B (q lo : Nat) : Option (Int × Nat) := bst (P.V q) lo (P.n + 1 - lo)
theorem D_succ (q f : Nat) : P.D (q + 1) f = (P.B q (f + P.L)).map fun y => y.1 - P.S (P.m - (q + 1)) f := rfl
theorem B_step (q lo : Nat) (h : lo ≤ P.n) : P.B q lo = match P.V q lo with
    | none => P.B q (lo + 1)
    | some v => match P.B q (lo + 1) with
      | none => some (v, lo)
      | some (b, g) => if v ≤ b then some (v, lo) else some (b, g) := by
  obtain ⟨c, hc⟩ : ∃ c, P.n + 1 - lo = c + 1 := ⟨P.n - lo, by omega⟩
  have hc2 : P.n + 1 - (lo + 1) = c := by omega
  simp only [B, hc, hc2, bst]
theorem B_out (q lo : Nat) (h : P.n < lo) : P.B q lo = none := by
  have : P.n + 1 - lo = 0 := by omega
  simp [B, this, bst]
def pth : Nat → Nat → List Int
  | 0, _ => []
  | q + 1, f => match P.B q (f + P.L) with
    | none => []
    | some (_, g) => ((g : Int) - f) :: pth q g
structure Ok : Prop where
  fv : ∀ f, f < P.n → vecB (nth P.fl f) = true
  pv : ∀ p, p < P.m → vecB (nth P.pl p) = true
  eq : ∀ f p, f < P.n → p < P.m → (nth P.fl f).length = (nth P.pl p).length
  n2 : P.n ≤ 2000
  m2 : P.m ≤ 2000
  l1 : 1 ≤ P.L ∧ P.L ≤ 100
variable {P}
theorem S_le (h : P.Ok) {p : Nat} (hp : p < P.m) {f : Nat} : ∀ {g : Nat}, f ≤ g → g ≤ P.n → 0 ≤ P.S p g - P.S p f ∧ P.S p g - P.S p f ≤ 800000 * ((g : Int) - f)
  | 0, a, _ => by
    have : f = 0 := by omega
    subst this; simp
  | g + 1, a, b => by
    by_cases e : f = g + 1
    · subst e; simp
    · have h1 := S_le h hp (f := f) (g := g) (by omega) (by omega)
      have h2 := dist_bd (h.fv g (by omega)) (h.pv p hp)
      simp only [S]
      omega
theorem S_bd (h : P.Ok) {p : Nat} (hp : p < P.m) {f : Nat} (hf : f ≤ P.n) : 0 ≤ P.S p f ∧ P.S p f ≤ 800000 * f := by
  have := S_le h hp (f := 0) (g := f) (Nat.zero_le _) hf
  simp only [S] at this; omega
theorem D_bd (h : P.Ok) : ∀ {q f : Nat} {v : Int}, q ≤ P.m → f ≤ P.n → P.D q f = some v → 0 ≤ v ∧ v ≤ 800000 * ((P.n : Int) - f)
  | 0, f, v, _, hf, e => by
    simp only [D] at e
    split at e
    · cases e; omega
    · cases e
  | q + 1, f, v, hq, hf, e => by
    rw [D_succ] at e
    cases hB : P.B q (f + P.L) with
    | none => rw [hB] at e; cases e
    | some y =>
      obtain ⟨b, g⟩ := y
      rw [hB] at e
      simp only [Option.map_some, Option.some.injEq] at e
      obtain ⟨h1, h2, _⟩ := bst_spec hB
      simp only [V, Option.map_eq_some_iff] at h2
      obtain ⟨u, h3, h4⟩ := h2
      have h5 := D_bd h (by omega) (by omega) h3
      have h6 := S_le h (p := P.m - (q + 1)) (by omega) (f := f) (g := g) (by omega) (by omega)
      omega
theorem D_some (h : P.Ok) : ∀ {q f : Nat}, q ≤ P.m → f ≤ P.n → q * P.L ≤ P.n - f → (q = 0 → f = P.n) → ∃ v, P.D q f = some v
  | 0, f, _, _, _, e => ⟨0, by simp [D, e rfl]⟩
  | q + 1, f, hq, hf, hl, _ => by
    rw [Nat.add_mul, Nat.one_mul] at hl
    have hL := h.l1
    have key : ∃ g v, f + P.L ≤ g ∧ g ≤ P.n ∧ P.D q g = some v := by
      by_cases hq0 : q = 0
      · subst hq0
        obtain ⟨v, hv⟩ := D_some h (q := 0) (f := P.n) (by omega) (Nat.le_refl _) (by simp) (fun _ => rfl)
        exact ⟨P.n, v, by omega, Nat.le_refl _, hv⟩
      · obtain ⟨v, hv⟩ := D_some h (q := q) (f := f + P.L) (by omega) (by omega) (by omega) (fun e => absurd e hq0)
        exact ⟨f + P.L, v, Nat.le_refl _, by omega, hv⟩
    obtain ⟨g, v, h1, h2, h3⟩ := key
    have hV : P.V q g = some (P.S (P.m - (q + 1)) g + v) := by simp [V, h3]
    have hne := bst_ne hV (lo := f + P.L) (c := P.n + 1 - (f + P.L)) h1 (by omega)
    rw [D_succ]
    cases hB : P.B q (f + P.L) with
    | none => exact absurd hB hne
    | some y => exact ⟨_, rfl⟩
def oM (x : Option Int) : Int := x.getD 9223372036854775807
def bestI (y : Option (Int × Nat)) : Int := match y with
  | some (v, _) => v
  | none => 9223372036854775807
def atI (y : Option (Int × Nat)) : Int := match y with
  | some (_, g) => g
  | none => -1
def RestOk (P : CutP) (q : Nat) (l : List Int) : Prop := l.length = P.n + 1 ∧ ∀ f, f ≤ P.n → nth l f = oM (P.D q f)
def EndOk (P : CutP) (q : Nat) (l : List Int) : Prop := l.length = P.n + 1 ∧ ∀ f, f ≤ P.n → nth l f = atI (P.B q (f + P.L))
end CutP
end Go.Proofs.YtomjbfeafodfbaaGreat

set_option autoImplicit false
set_option maxRecDepth 100000
namespace Go.Proofs.YtomjbfeafodfbaaGreat
open Go.Sx
open Enc (enc val)
theorem cutE_ok {fl pl : List (List Int)} {least : Int} (h : cutE fl pl least = 0) : ∃ L : Nat, least = L ∧ (⟨fl, pl, L⟩ : CutP).Ok := by
  unfold cutE at h
  split at h
  · cases h
  · rename_i h1
    split at h
    · rename_i h2
      simp only [Bool.and_eq_true, inB, decide_eq_true_eq] at h2
      obtain ⟨⟨h3, h4⟩, h5⟩ := h2
      have hall : ∀ l ∈ fl ++ pl, vecB l = true ∧ l.length = (nth (fl ++ pl) 0).length := fun l hl => by
        have := List.all_eq_true.1 h5 l hl
        simpa using this
      have hf : ∀ f, f < fl.length → nth fl f ∈ fl ++ pl := fun f hf => List.mem_append_left _ (by rw [nth_get hf]; exact List.getElem_mem hf)
      have hp : ∀ p, p < pl.length → nth pl p ∈ fl ++ pl := fun p hp => List.mem_append_right _ (by rw [nth_get hp]; exact List.getElem_mem hp)
      refine ⟨least.toNat, by omega, fun f h => (hall _ (hf f h)).1, fun p h => (hall _ (hp p h)).1, fun f p h h' => ?_, by simp only [CutP.n]; omega, by simp only [CutP.m]; omega, by simp only; omega⟩
      exact (hall _ (hf f h)).2.trans (hall _ (hp p h')).2.symm
    · cases h
theorem cut_bad (sf sp : SlV) (fv pv : List SlV) (fl pl : List (List Int)) (least : Int) (w : World) (hf : Stb w [] (fun w' => Mt w' sf.v fv fl)) (hp : Stb w [] (fun w' => Mt w' sp.v pv pl)) (hE : cutE fl pl least ≠ 0) :
    Calls Tryz.prog 30 #[sf.v, sp.v, .int .i64 least] w fun e w' => e = .returned (.tuple #[.slice none 0 0, .int .i64 0, .int .i64 (cutE fl pl least)]) ∧ Cl w [] [] w' := by
  refine calls_cw (vs := [_, _, _]) Tryz.func30 rfl Tryz.ntmps30 rfl (Cl.start0 w) (cw_seq (cw_region (sr rfl rfl rfl ((q_assign rfl rfl)) (sr rfl rfl rfl ((q_assign rfl rfl)) (sr rfl rfl rfl ((q_assign rfl rfl)) (sw_nil (post_then (cw_seq (cw_seq (cw_region (sr rfl rfl rfl ((q_move rfl rfl)) (sr rfl rfl rfl ((q_move rfl rfl)) (sr rfl rfl rfl ((q_move rfl rfl)) (sw_step rfl rfl rfl (q_call (CanCall.mk Tryz.call71) rfl (.cons rfl inferInstance (.cons rfl inferInstance (.cons rfl inferInstance (.nil)))) (fun _ w hw => callq hw (cutting_spec sf sp fv pv fl pl least w (stb_arg hw hf) (stb_arg hw hp)))) (sr rfl rfl rfl ((q_assign rfl rfl)) (sw_nil (post_then (cw_seq (cw_region (sr rfl rfl rfl ((q_move rfl rfl)) (sr rfl rfl rfl ((q_neq rfl rfl rfl)) (sw_nil (post_then ?_)))))))))))))))))))))))
  refine cw_cond rfl (fun h => ?_) (fun h => ?_)
  · skip
    refine cw_seq (cw_region (sr rfl rfl rfl ((q_move rfl rfl)) (sr rfl rfl rfl ((q_assign rfl rfl)) (sr rfl rfl rfl ((q_assign rfl rfl)) (sr rfl rfl rfl ((q_assign rfl rfl)) (sw_nil (post_then (cw_ret (post_then_r (post_ret3 rfl (resOk_tmp rfl) (resOk_tmp rfl) (resOk_tmp rfl) ?_))))))))))
    exact fun w' hw => ⟨rfl, hw⟩
  · skip
    exfalso
    simp only [Bool.not_eq_false', decide_eq_true_eq] at h
    exact hE h
theorem cut_none (sf sp : SlV) (fv pv : List SlV) (fl pl : List (List Int)) (least : Int) (w : World) (hf : Stb w [] (fun w' => Mt w' sf.v fv fl)) (hp : Stb w [] (fun w' => Mt w' sp.v pv pl)) (hE : cutE fl pl least = 0) (hN : fl.length < pl.length * least ∨ pl.length = 0 ∧ 0 < fl.length) :
    Calls Tryz.prog 30 #[sf.v, sp.v, .int .i64 least] w fun e w' => e = .returned (.tuple #[.slice none 0 0, .int .i64 0, .int .i64 5]) ∧ Cl w [] [] w' := by
  have h1 : Stb w [] (RdL sf.v fv) := stb_map hf fun _ h => h.l
  have h2 : Stb w [] (RdL sp.v pv) := stb_map hp fun _ h => h.l
  have n1 := hf.here.n
  have n2 := hp.here.n
  obtain ⟨L, rfl, ok⟩ := cutE_ok hE
  have hL := ok.l1
  have hm2 := ok.m2
  simp only [CutP.m] at hm2 hL
  have hmul : pl.length * L ≤ 2000 * 100 := Nat.mul_le_mul hm2 hL.2
  have emul : ((pv.length : Int) * (L : Int)) = ((pl.length * L : Nat) : Int) := by rw [Int.natCast_mul, n2]
  have emul2 : ((pl.length : Int) * (L : Int)) = ((pl.length * L : Nat) : Int) := by rw [Int.natCast_mul]
  rw [emul2] at hN
  refine calls_cw (vs := [_, _, _]) Tryz.func30 rfl Tryz.ntmps30 rfl (Cl.start0 w) (cw_seq (cw_region (sr rfl rfl rfl ((q_assign rfl rfl)) (sr rfl rfl rfl ((q_assign rfl rfl)) (sr rfl rfl rfl ((q_assign rfl rfl)) (sw_nil (post_then (cw_seq (cw_seq (cw_region (sr rfl rfl rfl ((q_move rfl rfl)) (sr rfl rfl rfl ((q_move rfl rfl)) (sr rfl rfl rfl ((q_move rfl rfl)) (sw_step rfl rfl rfl (q_call (CanCall.mk Tryz.call71) rfl (.cons rfl inferInstance (.cons rfl inferInstance (.cons rfl inferInstance (.nil)))) (fun _ w hw => callq hw (cutting_spec sf sp fv pv fl pl L w (stb_arg hw hf) (stb_arg hw hp)))) (sr rfl rfl rfl ((q_assign rfl rfl)) (sw_nil (post_then (cw_seq (cw_region (sr rfl rfl rfl ((q_move rfl rfl)) (sr rfl rfl rfl ((q_neq rfl rfl rfl)) (sw_nil (post_then ?_)))))))))))))))))))))))
  refine cw_cond rfl (fun h => ?_) (fun h => ?_)
  · skip
    exfalso
    simp [hE] at h
  · skip
    refine cw_skip (post_then (cw_seq (cw_region (sr rfl rfl rfl ((q_move rfl rfl)) ?_))))
    refine sr rfl rfl rfl ((q_len rfl (.cons rfl inferInstance (.nil)) (by exact fun w hw => Stb.cl (by assumption) hw))) ?_
    refine sr rfl rfl rfl ((q_move rfl rfl)) ?_
    refine sr rfl rfl rfl ((q_len rfl (.cons rfl inferInstance (.nil)) (by exact fun w hw => Stb.cl (by assumption) hw))) ?_
    refine sr rfl rfl rfl ((q_assign rfl rfl)) (sr rfl rfl rfl ((q_assign rfl rfl)) (sw_nil (post_then (cw_seq (cw_seq (cw_region (sr rfl rfl rfl ((q_move rfl rfl)) (sr rfl rfl rfl ((q_move rfl rfl)) ?_))))))))
    refine sr rfl rfl rfl ((q_mul rfl rfl rfl (by intro hc; omega))) ?_
    refine sr rfl rfl rfl ((q_move rfl rfl)) (sr rfl rfl rfl ((q_gtr rfl rfl rfl)) (sr rfl rfl rfl ((q_move rfl rfl)) (sr rfl rfl rfl ((q_move rfl rfl)) (sr rfl rfl rfl ((q_eql rfl rfl rfl)) (sr rfl rfl rfl ((q_move rfl rfl)) (sr rfl rfl rfl ((q_move rfl rfl)) (sr rfl rfl rfl ((q_gtr rfl rfl rfl)) (sr rfl rfl rfl ((q_and2 rfl rfl rfl)) (sr rfl rfl rfl ((q_or2 rfl rfl rfl)) (sw_nil (post_then ?_)))))))))))
    refine cw_cond rfl (fun h3 => ?_) (fun h3 => ?_)
    · skip
      refine cw_seq (cw_region (sr rfl rfl rfl ((q_assign rfl rfl)) (sr rfl rfl rfl ((q_assign rfl rfl)) (sr rfl rfl rfl ((q_assign rfl rfl)) (sw_nil (post_then (cw_ret (post_then_r (post_ret3 rfl (resOk_tmp rfl) (resOk_tmp rfl) (resOk_tmp rfl) ?_)))))))))
      exact fun w' hw => ⟨rfl, hw⟩
    · skip
      exfalso
      simp only [emul, Bool.or_eq_false_iff, Bool.and_eq_false_iff, decide_eq_false_iff_not] at h3
      omega
end Go.Proofs.YtomjbfeafodfbaaGreat

set_option autoImplicit false
set_option maxRecDepth 100000
namespace Go.Proofs.YtomjbfeafodfbaaGreat
open Go.Sx
open Enc (enc val)
theorem perm_row {α : Type} {R N S O E : α} {T : List α} : (R :: N :: S :: O :: E :: T).Perm (S :: O :: N :: E :: R :: T) := by
  have h : [R, N, S, O, E].Perm [S, O, N, E, R] :=
    (List.perm_middle (l₁ := [R, N]) (a := S) (l₂ := [O, E])).trans (.cons S ((List.perm_middle (l₁ := [R, N]) (a := O) (l₂ := [E])).trans (.cons O ((List.Perm.swap N R [E]).trans (.cons N (.swap E R []))))))
  exact h.append_right T
structure CS where
  sr : SlV
  rl : List Int
  G : List (SlV × List Int)
def rowG (g : SlV × List Int) : Asn := ownL 3 g.1.v g.2
def endsL (m : Nat) (G : List (SlV × List Int)) : List SlV := List.replicate (m - G.length) ⟨none, 0, 0⟩ ++ G.map (·.1)
theorem endsL_len {m : Nat} {G : List (SlV × List Int)} (h : G.length ≤ m) : (endsL m G).length = m := by simp [endsL]; omega
theorem endsL_set {m : Nat} {G : List (SlV × List Int)} (h : G.length < m) (g : SlV × List Int) : (endsL m G).set (m - G.length - 1) g.1 = endsL m (g :: G) := by
  unfold endsL
  rw [List.set_append_left _ _ (by simp; omega)]
  have e : List.replicate (m - G.length) (⟨none, 0, 0⟩ : SlV) = List.replicate (m - G.length - 1) ⟨none, 0, 0⟩ ++ [⟨none, 0, 0⟩] := by
    rw [← List.replicate_succ', show m - G.length - 1 + 1 = m - G.length by omega]
  rw [e, List.set_append_right _ _ (by simp), List.length_replicate, Nat.sub_self]
  simp [show m - (G.length + 1) = m - G.length - 1 by omega]
theorem endsL_nth {m : Nat} {G : List (SlV × List Int)} (h : G.length ≤ m) {i : Nat} (hi : i < G.length) : nth (endsL m G) (m - G.length + i) = (nth G i).1 := by
  rw [nth_get (by rw [endsL_len h]; omega), nth_get hi]
  simp only [endsL]
  rw [List.getElem_append_right (by simp)]
  simp
structure CS.Inv (P : CutP) (y : CS) : Prop where
  q : y.G.length ≤ P.m
  r : P.RestOk y.G.length y.rl
  e : ∀ i, i < y.G.length → P.EndOk (y.G.length - 1 - i) (nth y.G i).2
set_option maxHeartbeats 4000000 in
theorem cut_yes (sf sp : SlV) (fv pv : List SlV) (P : CutP) (w : World) (hf : Stb w [] (fun w' => Mt w' sf.v fv P.fl)) (hp : Stb w [] (fun w' => Mt w' sp.v pv P.pl)) (hE : cutE P.fl P.pl P.L = 0) (ok : P.Ok) (hN : P.m * P.L ≤ P.n) (hN2 : P.m = 0 → P.n = 0) :
    Calls Tryz.prog 30 #[sf.v, sp.v, .int .i64 P.L] w fun e w' => ∃ y : SlV × List Int, e = .returned (.tuple #[y.1.v, .int .i64 ((P.D P.m 0).getD 0), .int .i64 0]) ∧ y.2 = P.pth P.m 0 ∧ Cl w [] [ownL 3 y.1.v y.2] w' := by
  have h1 : Stb w [] (RdL sf.v fv) := stb_map hf fun _ h => h.l
  have h2 : Stb w [] (RdL sp.v pv) := stb_map hp fun _ h => h.l
  have n1 : fv.length = P.n := hf.here.n
  have n2 : pv.length = P.m := hp.here.n
  have hL := ok.l1
  have hm2 := ok.m2
  have hn2 := ok.n2
  have hmul : P.m * P.L ≤ 2000 * 100 := Nat.mul_le_mul hm2 hL.2
  have emul : ((pv.length : Int) * (P.L : Int)) = ((P.m * P.L : Nat) : Int) := by rw [Int.natCast_mul, n2]
  refine calls_cw (vs := [_, _, _]) Tryz.func30 rfl Tryz.ntmps30 rfl (Cl.start0 w) (cw_seq (cw_region (sr rfl rfl rfl ((q_assign rfl rfl)) (sr rfl rfl rfl ((q_assign rfl rfl)) (sr rfl rfl rfl ((q_assign rfl rfl)) (sw_nil (post_then (cw_seq (cw_seq (cw_region (sr rfl rfl rfl ((q_move rfl rfl)) (sr rfl rfl rfl ((q_move rfl rfl)) (sr rfl rfl rfl ((q_move rfl rfl)) (sw_step rfl rfl rfl (q_call (CanCall.mk Tryz.call71) rfl (.cons rfl inferInstance (.cons rfl inferInstance (.cons rfl inferInstance (.nil)))) (fun _ w hw => callq hw (cutting_spec sf sp fv pv P.fl P.pl P.L w (stb_arg hw hf) (stb_arg hw hp)))) (sr rfl rfl rfl ((q_assign rfl rfl)) (sw_nil (post_then (cw_seq (cw_region (sr rfl rfl rfl ((q_move rfl rfl)) (sr rfl rfl rfl ((q_neq rfl rfl rfl)) (sw_nil (post_then ?_)))))))))))))))))))))))
  refine cw_cond rfl (fun h => ?_) (fun h => ?_)
  · skip
    exfalso
    simp [hE] at h
  · skip
    refine cw_skip (post_then (cw_seq (cw_region (sr rfl rfl rfl ((q_move rfl rfl)) ?_))))
    refine sr rfl rfl rfl ((q_len rfl (.cons rfl inferInstance (.nil)) (by exact fun w hw => Stb.cl (by assumption) hw))) ?_
    refine sr rfl rfl rfl ((q_move rfl rfl)) ?_
    refine sr rfl rfl rfl ((q_len rfl (.cons rfl inferInstance (.nil)) (by exact fun w hw => Stb.cl (by assumption) hw))) ?_
    refine sr rfl rfl rfl ((q_assign rfl rfl)) (sr rfl rfl rfl ((q_assign rfl rfl)) (sw_nil (post_then (cw_seq (cw_seq (cw_region (sr rfl rfl rfl ((q_move rfl rfl)) (sr rfl rfl rfl ((q_move rfl rfl)) ?_))))))))
    refine sr rfl rfl rfl ((q_mul rfl rfl rfl (by intro hc; omega))) ?_
    refine sr rfl rfl rfl ((q_move rfl rfl)) (sr rfl rfl rfl ((q_gtr rfl rfl rfl)) (sr rfl rfl rfl ((q_move rfl rfl)) (sr rfl rfl rfl ((q_move rfl rfl)) (sr rfl rfl rfl ((q_eql rfl rfl rfl)) (sr rfl rfl rfl ((q_move rfl rfl)) (sr rfl rfl rfl ((q_move rfl rfl)) (sr rfl rfl rfl ((q_gtr rfl rfl rfl)) (sr rfl rfl rfl ((q_and2 rfl rfl rfl)) (sr rfl rfl rfl ((q_or2 rfl rfl rfl)) (sw_nil (post_then ?_)))))))))))
    refine cw_cond rfl (fun h3 => ?_) (fun h3 => ?_)
    · skip
      exfalso
      simp only [emul, Bool.or_eq_true, Bool.and_eq_true, decide_eq_true_eq] at h3
      omega
    · skip
      clear h h3
      refine cw_skip (post_then (cw_seq (cw_region (sr rfl rfl rfl ((q_move rfl rfl)) ?_))))
      refine sr rfl rfl rfl ((q_add rfl rfl rfl (by intro hc; omega))) ?_
      refine sw_x rfl rfl rfl (e_make (α := Int) (zero := 0) rfl rfl rfl rfl rfl (by omega) (by omega) (by decide)) (fun s52 => ?_)
      refine sr rfl rfl rfl ((q_assign rfl rfl)) (sw_nil (post_then (cw_seq (cw_seq (cw_region (sr rfl rfl rfl ((q_move rfl rfl)) (sr rfl rfl rfl ((q_move rfl rfl)) (sw_nil (post_then (cw_block ?_))))))))))
      refine cw_loop (S := Nat × List Int) (fun y => [(0, [], sf.v), (1, [], sp.v), (2, [], .int .i64 P.L), (10, [], .int .i64 P.n), (11, [], .int .i64 P.m), (12, [], s52.v), (53, [], .int .i64 P.n), (54, [], .int .i64 y.1)]) (fun y => Cl w [] [ownL 3 s52.v y.2]) (fun y => y.1 ≤ P.n ∧ y.2.length = P.n + 1 ∧ (∀ j, j < y.1 → nth y.2 j = 9223372036854775807) ∧ nth y.2 P.n = 0) (fun y => P.n - y.1) (0, List.replicate (P.n + 1) 0) ⟨Nat.zero_le _, by simp, fun j hj => by omega, by rw [nth_get (by simp)]; simp⟩ ?_ ?_ ?_
      · exact Le.cons rfl (Le.cons rfl (Le.cons rfl (Le.cons' rfl (by rw [n1]) (Le.cons' rfl (by rw [n2]) (Le.cons rfl (Le.cons' rfl (by rw [n1]) (Le.cons rfl Le.nil)))))))
      · intro w' hw
        rw [n1] at hw
        exact hw
      rintro ⟨k, l⟩ ⟨hk, hll, hlt, hln⟩
      dsimp only at hk hll hlt hln ⊢
      refine cw_seq (cw_region (sr rfl rfl rfl ((q_lss rfl rfl rfl)) (sw_nil (post_then (cw_seq ?_)))))
      refine cw_cond rfl (fun h => ?_) (fun h => ?_)
      · skip
        have hk' : k < P.n := by simp only [decide_eq_true_eq] at h; omega
        refine cw_skip (post_then (cw_seq (cw_block (cw_seq (cw_region (sr rfl rfl rfl ((q_move rfl rfl)) (sr rfl rfl rfl ((q_assign rfl rfl)) (sw_nil (post_then (cw_region (sr rfl rfl rfl ((q_move rfl rfl)) (sr rfl rfl rfl ((q_move rfl rfl)) ?_))))))))))))
        refine sr rfl rfl rfl ((q_indexN rfl rfl rfl (by exact fun w hw => rd_own hw (by exact .head _)) (by intro hc; omega))) ?_
        refine sw_eff0 rfl rfl (e_storeEl1 (i := 0) rfl rfl rfl rfl rfl (by omega)) ?_
        refine sw_nil (post_blk (post_then (cw_region ?_)))
        refine sr rfl rfl rfl ((q_add rfl rfl rfl (by intro hc; omega))) ?_
        refine sr rfl rfl rfl ((q_move rfl rfl)) (sw_nil ?_)
        refine post_next (k + 1, l.set k 9223372036854775807) (by exact .cons rfl (.cons rfl (.cons rfl (.cons rfl (.cons rfl (.cons rfl (.cons rfl (.cons rfl .nil)))))))) (fun _ h => h) ⟨by simp only; omega, by simp [hll], fun j hj => ?_, ?_⟩ (by simp only; omega)
        · simp only at hj ⊢
          rw [nth_setP _ _ _ _ (by omega)]
          by_cases e : j = k
          · rw [if_pos e]
          · rw [if_neg e]; exact hlt j (by omega)
        · simp only
          rw [nth_setP _ _ _ _ (by omega), if_neg (by omega)]; exact hln
      · skip
        have hk' : k = P.n := by simp only [decide_eq_false_iff_not] at h; omega
        have hr0 : P.RestOk 0 l := ⟨hll, fun f hf => by
          simp only [CutP.D]
          by_cases e : f = P.n
          · rw [if_pos e, e, hln]; rfl
          · rw [if_neg e, hlt f (by omega)]; rfl⟩
        refine cw_exit (post_then_x (post_then_x (post_blk_eq (post_then (cw_seq (cw_region (sr rfl rfl rfl ((q_move rfl rfl)) ?_)))))))
        refine sw_x rfl rfl rfl (e_make (α := SlV) (zero := ⟨none, 0, 0⟩) rfl rfl rfl rfl rfl (by omega) (by omega) (by decide)) (fun s62 => ?_)
        refine sr rfl rfl rfl ((q_assign rfl rfl)) (sw_nil (post_then (cw_seq (cw_seq (cw_region (sr rfl rfl rfl ((q_move rfl rfl)) ?_))))))
        refine sr rfl rfl rfl ((q_sub rfl rfl rfl (by intro hc; omega))) ?_
        refine sr rfl rfl rfl ((q_assign rfl rfl)) (sw_nil (post_then (cw_block ?_)))
        refine cw_loop (S := CS) (fun y => [(0, [], sf.v), (1, [], sp.v), (2, [], .int .i64 P.L), (10, [], .int .i64 P.n), (11, [], .int .i64 P.m), (12, [], y.sr.v), (14, [], s62.v), (15, [], .int .i64 ((P.m : Int) - y.G.length - 1))]) (fun y => Cl w [] (ownL 3 y.sr.v y.rl :: ownL 28 s62.v (endsL P.m y.G) :: y.G.map rowG)) (fun y => y.Inv P) (fun y => P.m - y.G.length) ⟨s52, l, []⟩ ⟨Nat.zero_le _, hr0, fun i hi => by simp at hi⟩ ?_ ?_ ?_
        · exact Le.cons rfl (Le.cons rfl (Le.cons rfl (Le.cons rfl (Le.cons rfl (Le.cons rfl (Le.cons rfl (Le.cons' rfl (by first | rfl | (congr 1; simp)) Le.nil)))))))
        · intro w' hw
          have e0 : endsL P.m [] = List.replicate P.m ⟨none, 0, 0⟩ := by simp [endsL]
          simp only [List.map_nil, e0]
          exact hw.perm (.swap _ _ _)
        rintro ⟨sr, rl, G⟩ ⟨hq, hr, he⟩
        dsimp only at hq hr he ⊢
        refine cw_seq (cw_seq (cw_region (sr rfl rfl rfl ((q_move rfl rfl)) (sr rfl rfl rfl ((q_geq rfl rfl rfl)) (sw_nil (post_then ?_))))))
        refine cw_cond rfl (fun h => ?_) (fun h => ?_)
        · skip
          have hq' : G.length < P.m := by simp only [decide_eq_true_eq] at h; omega
          obtain ⟨p, hpe⟩ : ∃ p, P.m - G.length - 1 = p := ⟨_, rfl⟩
          have ep : ((P.m : Int) - G.length - 1) = (p : Int) := by omega
          have hpm : p < P.m := by omega
          rw [ep]
          have hrp := stb_map hp fun _ h => h.r p hpm
          have hvp := ok.pv p hpm
          refine cw_skip (post_then (cw_seq (cw_block (cw_seq (cw_region (sr rfl rfl rfl ((q_move rfl rfl)) ?_))))))
          refine sr rfl rfl rfl ((q_add rfl rfl rfl (by intro hc; omega))) ?_
          refine sw_x rfl rfl rfl (e_make (α := Int) (zero := 0) rfl rfl rfl rfl rfl (by omega) (by omega) (by decide)) (fun s71 => ?_)
          refine sr rfl rfl rfl ((q_assign rfl rfl)) (sw_nil (post_then (cw_seq (cw_seq (cw_region (sr rfl rfl rfl ((q_move rfl rfl)) (sr rfl rfl rfl ((q_move rfl rfl)) (sw_nil (post_then (cw_block ?_))))))))))
          refine cw_loop (S := Nat × List Int) (fun y => [(0, [], sf.v), (1, [], sp.v), (2, [], .int .i64 P.L), (10, [], .int .i64 P.n), (11, [], .int .i64 P.m), (12, [], sr.v), (14, [], s62.v), (15, [], .int .i64 p), (16, [], s71.v), (72, [], .int .i64 P.n), (73, [], .int .i64 y.1)]) (fun y => Cl w [] (ownL 3 s71.v y.2 :: ownL 3 sr.v rl :: ownL 28 s62.v (endsL P.m G) :: G.map rowG)) (fun y => y.1 ≤ P.n ∧ y.2.length = P.n + 1 ∧ ∀ j, j ≤ P.n → nth y.2 j = if j ≤ y.1 then P.S p j else 0) (fun y => P.n - y.1) (0, List.replicate (P.n + 1) 0) ⟨Nat.zero_le _, by simp, fun j hj => by rw [nth_get (by simp; omega)]; simp; intro e; rw [e]; rfl⟩ ?_ ?_ ?_
          · exact (by exact .cons rfl (.cons rfl (.cons rfl (.cons rfl (.cons rfl (.cons rfl (.cons rfl (.cons rfl (.cons rfl (.cons rfl (.cons rfl .nil)))))))))))
          · intro w' hw; exact hw
          rintro ⟨k, sl⟩ ⟨hk, hsl, hs⟩
          dsimp only at hk hsl hs ⊢
          refine cw_seq (cw_region (sr rfl rfl rfl ((q_lss rfl rfl rfl)) (sw_nil (post_then (cw_seq ?_)))))
          refine cw_cond rfl (fun h => ?_) (fun h => ?_)
          · skip
            have hk' : k < P.n := by simp only [decide_eq_true_eq] at h; omega
            have hrf := stb_map hf fun _ h => h.r k hk'
            have hvf := ok.fv k hk'
            have hlen := ok.eq k p hk' hpm
            have hd := dist_bd hvf hvp
            have hSb := CutP.S_bd ok hpm (f := k) (by omega)
            have hsk := hs k (by omega)
            rw [if_pos (Nat.le_refl _)] at hsk
            refine cw_skip (post_then (cw_seq (cw_block (cw_seq (cw_region (sr rfl rfl rfl ((q_move rfl rfl)) (sr rfl rfl rfl ((q_assign rfl rfl)) (sw_nil (post_then (cw_region_a (Cl w [] [ownL 3 s71.v sl]) [18] mixed_Tryz ?_))))))))))
            refine aw_pure 0 rfl (by kernel_rfl) (by kernel_rfl) (by kernel_rfl) (by kernel_rfl) (by kernel_rfl) rfl rfl rfl (q_move rfl rfl) ?_
            refine aw_pure 1 rfl (by kernel_rfl) (by kernel_rfl) (by kernel_rfl) (by kernel_rfl) (by kernel_rfl) rfl rfl rfl (q_move rfl rfl) ?_
            refine aw_pure 2 rfl (by kernel_rfl) (by kernel_rfl) (by kernel_rfl) (by kernel_rfl) (by kernel_rfl) rfl rfl rfl (q_add rfl rfl rfl (by intro hc; omega)) ?_
            refine aw_pure 3 rfl (by kernel_rfl) (by kernel_rfl) (by kernel_rfl) (by kernel_rfl) (by kernel_rfl) rfl rfl rfl (q_move rfl rfl) ?_
            refine aw_pure 4 rfl (by kernel_rfl) (by kernel_rfl) (by kernel_rfl) (by kernel_rfl) (by kernel_rfl) rfl rfl rfl (q_move rfl rfl) ?_
            refine aw_take 5 (fun w h => Cl.sel (by exact .take 0 rfl (.nil _)) w h) rfl (by kernel_rfl) (by kernel_rfl) (by kernel_rfl) (by kernel_rfl) (by kernel_rfl) (by kernel_rfl) rfl rfl rfl (q_indexN rfl rfl rfl (by exact fun w hw => rd_own hw (by exact .head _)) (by intro hc; omega)) ?_
            refine aw_take 6 (fun w h => Cl.sel (by exact .take 0 rfl (.nil _)) w h) rfl (by kernel_rfl) (by kernel_rfl) (by kernel_rfl) (by kernel_rfl) (by kernel_rfl) (by kernel_rfl) rfl rfl rfl (q_loadEl rfl rfl rfl (by exact fun w hw => rd_own hw (by exact .head _)) (by intro hc; omega)) ?_
            refine aw_pure 7 rfl (by kernel_rfl) (by kernel_rfl) (by kernel_rfl) (by kernel_rfl) (by kernel_rfl) rfl rfl rfl (q_move rfl rfl) ?_
            refine aw_pure 8 rfl (by kernel_rfl) (by kernel_rfl) (by kernel_rfl) (by kernel_rfl) (by kernel_rfl) rfl rfl rfl (q_move rfl rfl) ?_
            refine aw_take 9 (fun w h => Cl.sel (by exact .take 0 rfl (.nil _)) w h) rfl (by kernel_rfl) (by kernel_rfl) (by kernel_rfl) (by kernel_rfl) (by kernel_rfl) (by kernel_rfl) rfl rfl rfl (q_indexN rfl rfl rfl (by exact fun w hw => Stb.cl (by assumption) hw) (by intro hc; omega)) ?_
            refine aw_take 10 (fun w h => Cl.sel (by exact .take 0 rfl (.nil _)) w h) rfl (by kernel_rfl) (by kernel_rfl) (by kernel_rfl) (by kernel_rfl) (by kernel_rfl) (by kernel_rfl) rfl rfl rfl (q_loadEl rfl rfl rfl (by exact fun w hw => Stb.cl (by assumption) hw) (by intro hc; omega)) ?_
            refine aw_pure 11 rfl (by kernel_rfl) (by kernel_rfl) (by kernel_rfl) (by kernel_rfl) (by kernel_rfl) rfl rfl rfl (q_move rfl rfl) ?_
            refine aw_pure 12 rfl (by kernel_rfl) (by kernel_rfl) (by kernel_rfl) (by kernel_rfl) (by kernel_rfl) rfl rfl rfl (q_move rfl rfl) ?_
            refine aw_take 13 (fun w h => Cl.sel (by exact .take 0 rfl (.nil _)) w h) rfl (by kernel_rfl) (by kernel_rfl) (by kernel_rfl) (by kernel_rfl) (by kernel_rfl) (by kernel_rfl) rfl rfl rfl (q_indexN rfl rfl rfl (by exact fun w hw => Stb.cl (by assumption) hw) (by intro hc; omega)) ?_
            refine aw_take 14 (fun w h => Cl.sel (by exact .take 0 rfl (.nil _)) w h) rfl (by kernel_rfl) (by kernel_rfl) (by kernel_rfl) (by kernel_rfl) (by kernel_rfl) (by kernel_rfl) rfl rfl rfl (q_loadEl rfl rfl rfl (by exact fun w hw => Stb.cl (by assumption) hw) (by intro hc; omega)) ?_
            refine aw_q 15 (by kernel_rfl) rfl rfl rfl rfl (q_call (CanCall.mk Tryz.call72) rfl (.cons rfl inferInstance (.cons rfl inferInstance (.nil))) (fun _ w hw => callq hw (distance_spec _ _ _ _ w (stb_arg hw hrf) (stb_arg hw hrp) hvf hvp hlen))) (by intro hb; exact (fun w h => Cl.sel (by exact .take 0 rfl (.nil _)) w h)) ?_
            refine aw_pure 16 rfl (by kernel_rfl) (by kernel_rfl) (by kernel_rfl) (by kernel_rfl) (by kernel_rfl) rfl rfl rfl (q_add rfl rfl rfl (by intro hc; omega)) ?_
            refine aw_take 17 (fun w h => Cl.sel (by exact .take 0 rfl (.nil _)) w h) rfl (by kernel_rfl) (by kernel_rfl) (by kernel_rfl) (by kernel_rfl) (by kernel_rfl) (by kernel_rfl) rfl rfl rfl (q_indexN rfl rfl rfl (by exact fun w hw => rd_own hw (by exact .head _)) (by intro hc; (simp only [List.length_set, List.length_append, List.length_cons, List.length_nil, List.length_replicate, List.length_take, List.length_drop, List.length_map]; omega))) ?_
            refine aw_one0 18 (by kernel_rfl) rfl rfl rfl (e_storeEl1 (i := 0) rfl rfl rfl rfl rfl (by (simp only [List.length_set, List.length_append, List.length_cons, List.length_nil, List.length_replicate, List.length_take, List.length_drop, List.length_map]; omega))) (by intro hb; (exact absurd hb (by decide))) ?_
            refine aw_end (by kernel_rfl) ?_
            refine post_blk (post_then (cw_region ?_))
            refine sr rfl rfl rfl ((q_add rfl rfl rfl (by intro hc; omega))) ?_
            refine sr rfl rfl rfl ((q_move rfl rfl)) (sw_nil ?_)
            refine post_next (k + 1, sl.set (k + 1) (nth sl k + dist (nth P.fl k) (nth P.pl p))) (by exact .cons rfl (.cons rfl (.cons rfl (.cons rfl (.cons rfl (.cons rfl (.cons rfl (.cons rfl (.cons rfl (.cons rfl (.cons rfl .nil))))))))))) (fun w3 hw3 => ?_) ⟨by simp only; omega, by simp [hsl], fun j hj => ?_⟩ (by simp only; omega)
            · exact hw3
            · simp only
              rw [nth_setP _ _ _ _ (by omega)]
              by_cases e : j = k + 1
              · rw [if_pos e, if_pos (by omega), e, hsk]; rfl
              · rw [if_neg e, hs j hj]
                by_cases e2 : j ≤ k
                · rw [if_pos e2, if_pos (by omega)]
                · rw [if_neg e2, if_neg (by omega)]
          · skip
            have hk' : k = P.n := by simp only [decide_eq_false_iff_not] at h; omega
            subst hk'
            have hs2 : ∀ j, j ≤ P.n → nth sl j = P.S p j := fun j hj => by rw [hs j hj, if_pos hj]
            have hsb : ∀ j, 0 ≤ nth sl j ∧ nth sl j ≤ 1600000000 := fun j => by
              by_cases hj : j ≤ P.n
              · rw [hs2 j hj]
                have := CutP.S_bd ok hpm hj
                omega
              · simp only [nth, List.getD, List.getElem?_eq_none (show sl.length ≤ j by omega)]
                simp
            have hrb : ∀ j, nth rl j = 9223372036854775807 ∨ (0 ≤ nth rl j ∧ nth rl j ≤ 1600000000) := fun j => by
              by_cases hj : j ≤ P.n
              · rw [hr.2 j hj]
                cases hD : P.D G.length j with
                | none => exact .inl rfl
                | some v =>
                  have := CutP.D_bd ok (by omega) hj hD
                  right; simp only [CutP.oM, Option.getD_some]; omega
              · right
                simp only [nth, List.getD, List.getElem?_eq_none (show rl.length ≤ j by rw [hr.1]; omega)]
                simp
            have hBb : ∀ lo, (CutP.bestI (P.B G.length lo) = 9223372036854775807 ∧ CutP.atI (P.B G.length lo) = -1 ∧ P.B G.length lo = none) ∨ (0 ≤ CutP.bestI (P.B G.length lo) ∧ CutP.bestI (P.B G.length lo) ≤ 3200000000 ∧ 0 ≤ CutP.atI (P.B G.length lo) ∧ CutP.atI (P.B G.length lo) ≤ P.n) := fun lo => by
              cases hB : P.B G.length lo with
              | none => exact .inl ⟨rfl, rfl, rfl⟩
              | some y =>
                obtain ⟨v, g⟩ := y
                obtain ⟨h5, h6, _⟩ := bst_spec hB
                simp only [CutP.V, Option.map_eq_some_iff] at h6
                obtain ⟨u, h7, h8⟩ := h6
                have h9 := CutP.D_bd ok (by omega) (by omega) h7
                have h10 := CutP.S_bd ok (p := P.m - (G.length + 1)) (f := g) (by omega) (by omega)
                right
                simp only [CutP.bestI, CutP.atI]
                omega
            refine cw_exit (post_then_x (post_then_x (post_blk_eq (post_then (cw_seq (cw_region (sr rfl rfl rfl ((q_move rfl rfl)) ?_)))))))
            refine sr rfl rfl rfl ((q_add rfl rfl rfl (by intro hc; omega))) ?_
            refine sw_x rfl rfl rfl (e_make (α := Int) (zero := 0) rfl rfl rfl rfl rfl (by omega) (by omega) (by decide)) (fun s97 => ?_)
            refine sr rfl rfl rfl ((q_assign rfl rfl)) (sw_nil (post_then (cw_seq (cw_region (sr rfl rfl rfl ((q_move rfl rfl)) (sr rfl rfl rfl ((q_move rfl rfl)) (sr rfl rfl rfl ((q_move rfl rfl)) ?_)))))))
            refine sr rfl rfl rfl ((q_add rfl rfl rfl (by intro hc; omega))) ?_
            refine sw_x rfl rfl rfl (e_make (α := Int) (zero := 0) rfl rfl rfl rfl rfl (by omega) (by omega) (by decide)) (fun s102 => ?_)
            have hel := endsL_len (m := P.m) (G := G) (by omega)
            refine sr rfl rfl rfl ((q_indexN rfl rfl rfl (by exact fun w hw => rd_own hw (by exact .tail _ (.tail _ (.tail _ (.tail _ (.head _)))))) (by intro hc; omega))) ?_
            refine sw_eff0 rfl rfl (e_storeEl1 (i := 4) rfl rfl rfl rfl rfl (by omega)) ?_
            refine sw_nil (post_then (cw_seq (cw_region (sr rfl rfl rfl ((q_assign rfl rfl)) (sr rfl rfl rfl ((q_assign rfl rfl)) (sw_nil (post_then (cw_seq (cw_seq (cw_region (sr rfl rfl rfl ((q_move rfl rfl)) (sr rfl rfl rfl ((q_assign rfl rfl)) (sw_nil (post_then (cw_block ?_)))))))))))))))
            have hset : (endsL P.m G).set p s102 = endsL P.m ((s102, []) :: G) := by rw [← hpe]; exact endsL_set hq' (s102, [])
            have hel2 : ((endsL P.m G).set p s102).length = P.m := by rw [List.length_set, hel]
            have hrow : nth ((endsL P.m G).set p s102) p = s102 := by rw [nth_setP _ _ _ _ (by omega), if_pos rfl]
            refine cw_loop (S := Nat × (List Int × List Int)) (fun y => [(0, [], sf.v), (1, [], sp.v), (2, [], .int .i64 P.L), (10, [], .int .i64 P.n), (11, [], .int .i64 P.m), (12, [], sr.v), (14, [], s62.v), (15, [], .int .i64 p), (16, [], s71.v), (18, [], s97.v), (19, [], .int .i64 (CutP.bestI (P.B G.length (y.1 + P.L)))), (20, [], .int .i64 (CutP.atI (P.B G.length (y.1 + P.L)))), (21, [], .int .i64 ((y.1 : Int) - 1))])
              (fun y => Cl w [] (ownL 3 s102.v y.2.2 :: ownL 3 s97.v y.2.1 :: ownL 3 s71.v sl :: ownL 3 sr.v rl :: ownL 28 s62.v ((endsL P.m G).set p s102) :: G.map rowG))
              (fun y => y.1 ≤ P.n + 1 ∧ y.2.1.length = P.n + 1 ∧ y.2.2.length = P.n + 1 ∧ (∀ j, y.1 ≤ j → j ≤ P.n → nth y.2.1 j = CutP.oM (P.D (G.length + 1) j)) ∧ ∀ j, y.1 ≤ j → j ≤ P.n → nth y.2.2 j = CutP.atI (P.B G.length (j + P.L))) (fun y => y.1) (P.n + 1, (List.replicate (P.n + 1) 0, List.replicate (P.n + 1) 0)) ⟨Nat.le_refl _, by simp, by simp, fun j a b => by simp only at a; omega, fun j a b => by simp only at a; omega⟩ ?_ ?_ ?_
            · have hout := CutP.B_out P G.length (P.n + 1 + P.L) (by omega)
              simp only [hout]
              exact (by exact .cons rfl (.cons rfl (.cons rfl (.cons rfl (.cons rfl (.cons rfl (.cons rfl (.cons rfl (.cons rfl (.cons rfl (.cons rfl (.cons rfl (.cons' rfl (by congr 1; first | omega | (simp only; omega)) .nil)))))))))))))
            · intro w' hw; exact hw
            rintro ⟨f1, now, row⟩ ⟨hf1, hnl, hrl, hnow, hrw⟩
            dsimp only at hf1 hnl hrl hnow hrw ⊢
            refine cw_seq (cw_seq (cw_region (sr rfl rfl rfl ((q_move rfl rfl)) (sr rfl rfl rfl ((q_geq rfl rfl rfl)) (sw_nil (post_then ?_))))))
            refine cw_cond rfl (fun h => ?_) (fun h => ?_)
            · skip
              obtain ⟨f, rfl⟩ : ∃ f, f1 = f + 1 := ⟨f1 - 1, by simp only [decide_eq_true_eq] at h; omega⟩
              have ef : (((f + 1 : Nat) : Int) - 1) = (f : Int) := by omega
              rw [ef]
              have hrl2 := hr.1
              have hrg := hrb (f + P.L)
              have hsg := hsb (f + P.L)
              have hBf := hBb (f + 1 + P.L)
              have hBf2 := hBb (f + P.L)
              have hsf := hsb f
              have em : P.m - (G.length + 1) = p := by omega
              have eL : f + 1 + P.L = f + P.L + 1 := by omega
              refine cw_skip (post_then (cw_seq (cw_block (cw_seq (cw_seq (cw_region (sr rfl rfl rfl ((q_move rfl rfl)) (sr rfl rfl rfl ((q_move rfl rfl)) ?_))))))))
              refine sr rfl rfl rfl ((q_add rfl rfl rfl (by intro hc; omega))) ?_
              refine sr rfl rfl rfl ((q_assign rfl rfl)) (sw_nil (post_then (cw_seq ?_)))
              refine cw_region_q mixed_Tryz (by kernel_rfl) ?_
              refine qr rfl rfl rfl ((q_move rfl rfl)) (qr rfl rfl rfl ((q_move rfl rfl)) (qr rfl rfl rfl ((q_leq rfl rfl rfl)) (qr rfl rfl rfl ((q_move rfl rfl)) (qr rfl rfl rfl ((q_move rfl rfl)) (qr rfl rfl rfl ((q_move rfl rfl)) ?_)))))
              refine qr rfl rfl rfl ((q_indexN rfl rfl rfl (by exact fun w hw => rd_own hw (by exact .tail _ (.tail _ (.tail _ (.head _))))) (by intro hc; (simp only [AllT.iff, List.all_cons, List.all_nil, id, Bool.and_eq_true, Bool.not_eq_true', decide_eq_true_eq, decide_eq_false_iff_not, and_true] at hc; omega)))) ?_
              refine qr rfl rfl rfl ((q_loadEl rfl rfl rfl (by exact fun w hw => rd_own hw (by exact .tail _ (.tail _ (.tail _ (.head _))))) (by intro hc; (simp only [AllT.iff, List.all_cons, List.all_nil, id, Bool.and_eq_true, Bool.not_eq_true', decide_eq_true_eq, decide_eq_false_iff_not, and_true] at hc; omega)))) ?_
              refine qr rfl rfl rfl ((q_lss rfl rfl rfl)) (qr rfl rfl rfl ((q_and2 rfl rfl rfl)) (qr rfl rfl rfl ((q_move rfl rfl)) (qr rfl rfl rfl ((q_move rfl rfl)) (qr rfl rfl rfl ((q_move rfl rfl)) ?_))))
              refine qr rfl rfl rfl ((q_indexN rfl rfl rfl (by exact fun w hw => rd_own hw (by exact .tail _ (.tail _ (.head _)))) (by intro hc; (simp only [AllT.iff, List.all_cons, List.all_nil, id, Bool.and_eq_true, Bool.not_eq_true', decide_eq_true_eq, decide_eq_false_iff_not, and_true] at hc; omega)))) ?_
              refine qr rfl rfl rfl ((q_loadEl rfl rfl rfl (by exact fun w hw => rd_own hw (by exact .tail _ (.tail _ (.head _)))) (by intro hc; (simp only [AllT.iff, List.all_cons, List.all_nil, id, Bool.and_eq_true, Bool.not_eq_true', decide_eq_true_eq, decide_eq_false_iff_not, and_true] at hc; omega)))) ?_
              refine qr rfl rfl rfl ((q_move rfl rfl)) (qr rfl rfl rfl ((q_move rfl rfl)) ?_)
              refine qr rfl rfl rfl ((q_indexN rfl rfl rfl (by exact fun w hw => rd_own hw (by exact .tail _ (.tail _ (.tail _ (.head _))))) (by intro hc; (simp only [AllT.iff, List.all_cons, List.all_nil, id, Bool.and_eq_true, Bool.not_eq_true', decide_eq_true_eq, decide_eq_false_iff_not, and_true] at hc; omega)))) ?_
              refine qr rfl rfl rfl ((q_loadEl rfl rfl rfl (by exact fun w hw => rd_own hw (by exact .tail _ (.tail _ (.tail _ (.head _))))) (by intro hc; (simp only [AllT.iff, List.all_cons, List.all_nil, id, Bool.and_eq_true, Bool.not_eq_true', decide_eq_true_eq, decide_eq_false_iff_not, and_true] at hc; omega)))) ?_
              refine qr rfl rfl rfl ((q_add rfl rfl rfl (by intro hc; (simp only [AllT.iff, List.all_cons, List.all_nil, id, Bool.and_eq_true, Bool.not_eq_true', decide_eq_true_eq, decide_eq_false_iff_not, and_true] at hc; omega)))) ?_
              refine qr rfl rfl rfl ((q_move rfl rfl)) (qr rfl rfl rfl ((q_leq rfl rfl rfl)) (qr rfl rfl rfl ((q_and2 rfl rfl rfl)) (qw_end (post_then ?_))))
              refine cw_cut (S := Unit) (fun _ => [(0, [], sf.v), (1, [], sp.v), (2, [], .int .i64 P.L), (10, [], .int .i64 P.n), (11, [], .int .i64 P.m), (12, [], sr.v), (14, [], s62.v), (15, [], .int .i64 p), (16, [], s71.v), (18, [], s97.v), (19, [], .int .i64 (CutP.bestI (P.B G.length (f + P.L)))), (20, [], .int .i64 (CutP.atI (P.B G.length (f + P.L)))), (21, [], .int .i64 f)])
                (fun _ => Cl w [] (ownL 3 s102.v row :: ownL 3 s97.v now :: ownL 3 s71.v sl :: ownL 3 sr.v rl :: ownL 28 s62.v ((endsL P.m G).set p s102) :: G.map rowG)) (fun _ => True) ?_ ?_
              · refine cw_cond rfl (fun h5 => ?_) (fun h5 => ?_)
                · skip
                  have h6 : (f + P.L ≤ P.n ∧ nth rl (f + P.L) < 9223372036854775807) ∧ nth sl (f + P.L) + nth rl (f + P.L) ≤ CutP.bestI (P.B G.length (f + 1 + P.L)) := by
                    simp only [Bool.and_eq_true, decide_eq_true_eq] at h5
                    exact ⟨⟨by omega, h5.1.2⟩, h5.2⟩
                  have hB : P.B G.length (f + P.L) = some (nth sl (f + P.L) + nth rl (f + P.L), f + P.L) := by
                    rw [CutP.B_step P _ _ h6.1.1]
                    have h7 := hr.2 (f + P.L) h6.1.1
                    cases hD : P.D G.length (f + P.L) with
                    | none => rw [hD] at h7; rw [h7] at h6; simp [CutP.oM] at h6
                    | some v =>
                      rw [hD] at h7
                      have hV : P.V G.length (f + P.L) = some (nth sl (f + P.L) + nth rl (f + P.L)) := by
                        simp only [CutP.V, hD, Option.map_some, em, hs2 _ h6.1.1, h7]; rfl
                      rw [hV]
                      rw [eL] at h6
                      cases hB2 : P.B G.length (f + P.L + 1) with
                      | none => rfl
                      | some y =>
                        obtain ⟨b, g⟩ := y
                        rw [hB2] at h6
                        simp only [CutP.bestI] at h6
                        simp only
                        rw [if_pos h6.2]
                  refine cw_region_q mixed_Tryz (by kernel_rfl) ?_
                  refine qr rfl rfl rfl ((q_move rfl rfl)) (qr rfl rfl rfl ((q_move rfl rfl)) ?_)
                  refine qr rfl rfl rfl ((q_indexN rfl rfl rfl (by exact fun w hw => rd_own hw (by exact .tail _ (.tail _ (.head _)))) (by intro hc; omega))) ?_
                  refine qr rfl rfl rfl ((q_loadEl rfl rfl rfl (by exact fun w hw => rd_own hw (by exact .tail _ (.tail _ (.head _)))) (by intro hc; omega))) ?_
                  refine qr rfl rfl rfl ((q_move rfl rfl)) (qr rfl rfl rfl ((q_move rfl rfl)) ?_)
                  refine qr rfl rfl rfl ((q_indexN rfl rfl rfl (by exact fun w hw => rd_own hw (by exact .tail _ (.tail _ (.tail _ (.head _))))) (by intro hc; omega))) ?_
                  refine qr rfl rfl rfl ((q_loadEl rfl rfl rfl (by exact fun w hw => rd_own hw (by exact .tail _ (.tail _ (.tail _ (.head _))))) (by intro hc; omega))) ?_
                  refine qr rfl rfl rfl ((q_add rfl rfl rfl (by intro hc; omega))) ?_
                  refine qr rfl rfl rfl ((q_move rfl rfl)) (qr rfl rfl rfl ((q_assign rfl rfl)) (qr rfl rfl rfl ((q_assign rfl rfl)) (qw_end ?_)))
                  refine post_meet () ?_ (fun _ h => h) trivial
                  rw [hB]
                  exact (by exact .cons rfl (.cons rfl (.cons rfl (.cons rfl (.cons rfl (.cons rfl (.cons rfl (.cons rfl (.cons rfl (.cons rfl (.cons rfl (.cons rfl (.cons rfl .nil)))))))))))))
                · skip
                  have hB : P.B G.length (f + P.L) = P.B G.length (f + 1 + P.L) := by
                    by_cases h8 : f + P.L ≤ P.n
                    · rw [CutP.B_step P _ _ h8, eL]
                      have h7 := hr.2 (f + P.L) h8
                      have h9 : ((f : Int) + P.L ≤ P.n) := by omega
                      cases hD : P.D G.length (f + P.L) with
                      | none =>
                        have hV : P.V G.length (f + P.L) = none := by simp [CutP.V, hD]
                        rw [hV]
                      | some v =>
                        rw [hD] at h7
                        have hV : P.V G.length (f + P.L) = some (nth sl (f + P.L) + nth rl (f + P.L)) := by
                          simp only [CutP.V, hD, Option.map_some, em, hs2 _ h8, h7]; rfl
                        rw [hV]
                        have hDb := CutP.D_bd ok (by omega) h8 hD
                        have h10 : nth rl (f + P.L) = v := h7
                        have h11 : ¬ nth sl (f + P.L) + nth rl (f + P.L) ≤ CutP.bestI (P.B G.length (f + P.L + 1)) := by
                          intro hc
                          rw [← eL] at hc
                          have h12 : nth rl (f + P.L) < 9223372036854775807 := by omega
                          have e13 : ((f : Int) + P.L).toNat = f + P.L := by omega
                          simp only [e13, h9, h12, hc, decide_true, Bool.and_true] at h5
                          cases h5
                        cases hB2 : P.B G.length (f + P.L + 1) with
                        | none => rw [hB2] at h11; simp only [CutP.bestI] at h11; omega
                        | some y =>
                          obtain ⟨b, g⟩ := y
                          rw [hB2] at h11
                          simp only [CutP.bestI] at h11
                          simp only
                          rw [if_neg h11]
                    · rw [CutP.B_out P _ _ (by omega), CutP.B_out P _ _ (by omega)]
                  refine cw_skip ?_
                  refine post_meet () ?_ (fun _ h => h) trivial
                  rw [hB]
                  exact (by exact .cons rfl (.cons rfl (.cons rfl (.cons rfl (.cons rfl (.cons rfl (.cons rfl (.cons rfl (.cons rfl (.cons rfl (.cons rfl (.cons rfl (.cons rfl .nil)))))))))))))
              · intro _ _
                refine post_then (cw_seq (cw_region (sr rfl rfl rfl ((q_move rfl rfl)) (sr rfl rfl rfl ((q_move rfl rfl)) (sr rfl rfl rfl ((q_move rfl rfl)) (sr rfl rfl rfl ((q_move rfl rfl)) ?_))))))
                refine sr rfl rfl rfl ((q_indexN rfl rfl rfl (by exact fun w hw => rd_own hw (by exact .tail _ (.tail _ (.tail _ (.tail _ (.head _)))))) (by intro hc; omega))) ?_
                refine sr rfl rfl rfl ((q_loadElY hrow rfl rfl rfl (by exact fun w hw => rd_own hw (by exact .tail _ (.tail _ (.tail _ (.tail _ (.head _)))))) (by intro hc; omega))) ?_
                refine sr rfl rfl rfl ((q_move rfl rfl)) (sr rfl rfl rfl ((q_move rfl rfl)) ?_)
                refine sr rfl rfl rfl ((q_indexN rfl rfl rfl (by exact fun w hw => rd_own hw (by exact .tail _ (.head _))) (by intro hc; omega))) ?_
                refine sw_eff0 rfl rfl (e_storeEl1 (i := 1) rfl rfl rfl rfl rfl (by omega)) ?_
                refine sr rfl rfl rfl ((q_indexN rfl rfl rfl (by exact fun w hw => rd_own hw (by exact .head _)) (by intro hc; omega))) ?_
                refine sw_eff0 rfl rfl (e_storeEl1 (i := 0) rfl rfl rfl rfl rfl (by omega)) ?_
                refine sw_nil (post_then (cw_seq (cw_region (sr rfl rfl rfl ((q_move rfl rfl)) (sr rfl rfl rfl ((q_geq rfl rfl rfl)) (sw_nil (post_then ?_)))))))
                have hDe := CutP.D_succ P G.length f
                rw [em] at hDe
                refine cw_cond rfl (fun h5 => ?_) (fun h5 => ?_)
                · skip
                  have h6 : 0 ≤ CutP.atI (P.B G.length (f + P.L)) := by simpa using h5
                  obtain ⟨v, g, hB⟩ : ∃ v g, P.B G.length (f + P.L) = some (v, g) := by
                    cases hB : P.B G.length (f + P.L) with
                    | none => rw [hB] at h6; simp [CutP.atI] at h6
                    | some y => exact ⟨y.1, y.2, rfl⟩
                  have hv : CutP.bestI (P.B G.length (f + P.L)) - nth sl f = CutP.oM (P.D (G.length + 1) f) := by
                    rw [hDe, hB, hs2 f (by omega)]; rfl
                  have hlen2 : (now.set f 9223372036854775807).length = P.n + 1 := by simp [hnl]
                  refine cw_region (sr rfl rfl rfl ((q_move rfl rfl)) (sr rfl rfl rfl ((q_move rfl rfl)) (sr rfl rfl rfl ((q_move rfl rfl)) (sr rfl rfl rfl ((q_move rfl rfl)) (sr rfl rfl rfl ((q_move rfl rfl)) ?_)))))
                  refine sr rfl rfl rfl ((q_indexN rfl rfl rfl (by exact fun w hw => rd_own hw (by exact .tail _ (.tail _ (.head _)))) (by intro hc; omega))) ?_
                  refine sr rfl rfl rfl ((q_loadEl rfl rfl rfl (by exact fun w hw => rd_own hw (by exact .tail _ (.tail _ (.head _)))) (by intro hc; omega))) ?_
                  refine sr rfl rfl rfl ((q_sub rfl rfl rfl (by intro hc; omega))) ?_
                  refine sr rfl rfl rfl ((q_indexN rfl rfl rfl (by exact fun w hw => rd_own hw (by exact .tail _ (.head _))) (by intro hc; omega))) ?_
                  refine sw_eff0 rfl rfl (e_storeEl1 (i := 1) rfl rfl rfl rfl rfl (by omega)) ?_
                  refine sw_nil (post_blk (post_then (cw_region (sr rfl rfl rfl ((q_move rfl rfl)) ?_))))
                  refine sr rfl rfl rfl ((q_sub rfl rfl rfl (by intro hc; omega))) ?_
                  refine sr rfl rfl rfl ((q_assign rfl rfl)) (sw_nil ?_)
                  refine post_next (f, ((now.set f 9223372036854775807).set f (CutP.bestI (P.B G.length (f + P.L)) - nth sl f), row.set f (CutP.atI (P.B G.length (f + P.L))))) (by exact .cons rfl (.cons rfl (.cons rfl (.cons rfl (.cons rfl (.cons rfl (.cons rfl (.cons rfl (.cons rfl (.cons rfl (.cons rfl (.cons rfl (.cons rfl .nil))))))))))))) (fun _ h => h) ⟨by simp only; omega, by simp [hnl], by simp [hrl], fun j a b => ?_, fun j a b => ?_⟩ (by simp only; omega)
                  · simp only at a ⊢
                    rw [List.set_set, nth_setP _ _ _ _ (by omega)]
                    by_cases e : j = f
                    · rw [if_pos e, hv, e]
                    · rw [if_neg e]; exact hnow j (by omega) b
                  · simp only at a ⊢
                    rw [nth_setP _ _ _ _ (by omega)]
                    by_cases e : j = f
                    · rw [if_pos e, e]
                    · rw [if_neg e]; exact hrw j (by omega) b
                · skip
                  have h6 : ¬ 0 ≤ CutP.atI (P.B G.length (f + P.L)) := by simpa using h5
                  have hB : P.B G.length (f + P.L) = none := by
                    cases hB : P.B G.length (f + P.L) with
                    | none => rfl
                    | some y => obtain ⟨v, g⟩ := y; rw [hB] at h6; simp only [CutP.atI] at h6; omega
                  refine cw_skip (post_blk (post_then (cw_region (sr rfl rfl rfl ((q_move rfl rfl)) ?_))))
                  refine sr rfl rfl rfl ((q_sub rfl rfl rfl (by intro hc; omega))) ?_
                  refine sr rfl rfl rfl ((q_assign rfl rfl)) (sw_nil ?_)
                  refine post_next (f, (now.set f 9223372036854775807, row.set f (CutP.atI (P.B G.length (f + P.L))))) (by exact .cons rfl (.cons rfl (.cons rfl (.cons rfl (.cons rfl (.cons rfl (.cons rfl (.cons rfl (.cons rfl (.cons rfl (.cons rfl (.cons rfl (.cons rfl .nil))))))))))))) (fun _ h => h) ⟨by simp only; omega, by simp [hnl], by simp [hrl], fun j a b => ?_, fun j a b => ?_⟩ (by simp only; omega)
                  · simp only at a ⊢
                    rw [nth_setP _ _ _ _ (by omega)]
                    by_cases e : j = f
                    · rw [if_pos e, e, hDe, hB]; rfl
                    · rw [if_neg e]; exact hnow j (by omega) b
                  · simp only at a ⊢
                    rw [nth_setP _ _ _ _ (by omega)]
                    by_cases e : j = f
                    · rw [if_pos e, e]
                    · rw [if_neg e]; exact hrw j (by omega) b
            · skip
              have hf0 : f1 = 0 := by simp only [decide_eq_false_iff_not] at h; omega
              subst hf0
              refine cw_exit (post_then_x (post_then_x (post_blk_eq (post_then (cw_region (sr rfl rfl rfl ((q_move rfl rfl)) (sr rfl rfl rfl ((q_assign rfl rfl)) (sw_nil (post_blk (post_then (cw_region (sr rfl rfl rfl ((q_move rfl rfl)) ?_))))))))))))
              refine sr rfl rfl rfl ((q_sub rfl rfl rfl (by intro hc; omega))) ?_
              refine sr rfl rfl rfl ((q_assign rfl rfl)) (sw_nil ?_)
              refine post_next ⟨s97, now, (s102, row) :: G⟩ ?_ (fun w3 hw3 => ?_) ⟨by simp only [List.length_cons]; omega, ⟨hnl, fun j hj => hnow j (Nat.zero_le _) hj⟩, fun i hi => ?_⟩ (by simp only [List.length_cons]; omega)
              · exact Le.cons rfl (Le.cons rfl (Le.cons rfl (Le.cons rfl (Le.cons rfl (Le.cons rfl (Le.cons rfl (Le.cons' rfl (by congr 1; simp only [List.length_cons]; omega) Le.nil)))))))
              · rw [hset] at hw3
                exact (hw3.perm perm_row).tail.tail
              · simp only [List.length_cons] at hi ⊢
                cases i with
                | zero => exact ⟨hrl, fun j hj => hrw j (Nat.zero_le _) hj⟩
                | succ i =>
                  have h5 := he i (by omega)
                  have e5 : G.length + 1 - 1 - (i + 1) = G.length - 1 - i := by omega
                  rw [e5]
                  exact h5
        · skip
          have hqm : G.length = P.m := by simp only [decide_eq_false_iff_not] at h; omega
          rw [hqm] at hr
          have hel := endsL_len (m := P.m) (G := G) (by omega)
          obtain ⟨v0, hv0⟩ := CutP.D_some ok (q := P.m) (f := 0) (Nat.le_refl _) (Nat.zero_le _) (by omega) (fun e => by rw [hN2 e])
          refine cw_c (C' := Cl w [] (ownL 3 (SlV.v ⟨none, 0, 0⟩) ([] : List Int) :: ownL 3 sr.v rl :: ownL 28 s62.v (endsL P.m G) :: G.map rowG)) (fun w' hw => hw.addNil (α := Int) 3) (cw_exit (post_then_x (post_then_x (post_blk_eq (post_then (cw_seq (cw_region (sr rfl rfl rfl ((q_assign rfl rfl)) (sw_nil (post_then (cw_seq (cw_region (sr rfl rfl rfl ((q_assign rfl rfl)) (sw_nil (post_then (cw_seq (cw_seq (cw_region (sr rfl rfl rfl ((q_move rfl rfl)) (sr rfl rfl rfl ((q_move rfl rfl)) (sw_nil (post_then (cw_block ?_)))))))))))))))))))))))
          refine cw_loop (S := Nat × ((SlV × List Int) × Nat)) (fun y => [(11, [], .int .i64 P.m), (12, [], sr.v), (14, [], s62.v), (23, [], y.2.1.1.v), (24, [], .int .i64 y.2.2), (167, [], .int .i64 P.m), (168, [], .int .i64 y.1)]) (fun y => Cl w [] (ownL 3 y.2.1.1.v y.2.1.2 :: ownL 3 sr.v rl :: ownL 28 s62.v (endsL P.m G) :: G.map rowG)) (fun y => y.1 ≤ P.m ∧ y.2.2 ≤ P.n ∧ y.2.1.2.length = y.1 ∧ y.2.1.2 ++ P.pth (P.m - y.1) y.2.2 = P.pth P.m 0 ∧ ∃ v, P.D (P.m - y.1) y.2.2 = some v) (fun y => P.m - y.1) (0, ((⟨none, 0, 0⟩, []), 0)) ⟨Nat.zero_le _, Nat.zero_le _, rfl, rfl, v0, hv0⟩ ?_ ?_ ?_
          · exact (by exact .cons rfl (.cons rfl (.cons rfl (.cons rfl (.cons rfl (.cons rfl (.cons rfl .nil)))))))
          · intro w' hw; exact hw
          rintro ⟨k, ⟨⟨s23, out⟩, f⟩⟩ ⟨hk, hf0, hol, hpt, hDv⟩
          dsimp only at hk hf0 hol hpt hDv ⊢
          refine cw_seq (cw_region (sr rfl rfl rfl ((q_lss rfl rfl rfl)) (sw_nil (post_then (cw_seq ?_)))))
          refine cw_cond rfl (fun h6 => ?_) (fun h6 => ?_)
          · skip
            have hk' : k < P.m := by simp only [decide_eq_true_eq] at h6; omega
            obtain ⟨q, hqe⟩ : ∃ q, P.m - k = q + 1 := ⟨P.m - k - 1, by omega⟩
            obtain ⟨v, hv⟩ := hDv
            rw [hqe, CutP.D_succ] at hv
            obtain ⟨b, g, hB⟩ : ∃ b g, P.B q (f + P.L) = some (b, g) := by
              cases hB : P.B q (f + P.L) with
              | none => rw [hB] at hv; cases hv
              | some y => exact ⟨y.1, y.2, rfl⟩
            obtain ⟨hb1, hb2, _⟩ := bst_spec hB
            have hgn : g ≤ P.n := by omega
            have hDg : ∃ u, P.D q g = some u := by
              simp only [CutP.V, Option.map_eq_some_iff] at hb2
              obtain ⟨u, hu, _⟩ := hb2
              exact ⟨u, hu⟩
            have hek := he k (by omega)
            rw [show G.length - 1 - k = q by omega] at hek
            have hnk : nth (endsL P.m G) k = (nth G k).1 := by
              have := endsL_nth (m := P.m) (G := G) (by omega) (i := k) (by omega)
              rw [show P.m - G.length + k = k by omega] at this; exact this
            have hval : nth (nth G k).2 f = (g : Int) := by rw [hek.2 f hf0, hB]; rfl
            have hgm : rowG (nth G k) ∈ G.map rowG := List.mem_map_of_mem (by rw [nth_get (by omega)]; exact List.getElem_mem _)
            have hgl := hek.1
            refine cw_skip (post_then (cw_seq (cw_block (cw_seq (cw_region (sr rfl rfl rfl ((q_move rfl rfl)) (sr rfl rfl rfl ((q_assign rfl rfl)) (sw_nil (post_then (cw_seq (cw_region (sr rfl rfl rfl ((q_move rfl rfl)) (sr rfl rfl rfl ((q_move rfl rfl)) (sr rfl rfl rfl ((q_move rfl rfl)) ?_))))))))))))))
            refine sr rfl rfl rfl ((q_indexN rfl rfl rfl (by exact fun w hw => rd_own hw (by exact .tail _ (.tail _ (.head _)))) (by intro hc; omega))) ?_
            refine sr rfl rfl rfl ((q_loadElY hnk rfl rfl rfl (by exact fun w hw => rd_own hw (by exact .tail _ (.tail _ (.head _)))) (by intro hc; omega))) ?_
            refine sr rfl rfl rfl ((q_move rfl rfl)) ?_
            refine sr rfl rfl rfl ((q_indexN (xs := (nth G k).2) rfl rfl rfl (fun w h => rd_own (e := 3) h (.tail _ (.tail _ (.tail _ hgm)))) (fun _ => by omega))) ?_
            refine sr rfl rfl rfl ((q_loadElY (xs := (nth G k).2) hval rfl rfl rfl (fun w h => rd_own (e := 3) h (.tail _ (.tail _ (.tail _ hgm)))) (fun _ => by omega))) ?_
            refine sr rfl rfl rfl ((q_move rfl rfl)) ?_
            refine sr rfl rfl rfl ((q_sub rfl rfl rfl (by intro hc; omega))) ?_
            refine sw_x rfl rfl rfl (e_build1 (α := Int) rfl rfl rfl rfl) (fun s181 => ?_)
            refine sw_x rfl rfl rfl (e_append (i := 1) rfl (.cons rfl inferInstance (.cons rfl inferInstance (.nil))) rfl rfl (by exact fun w hw => rd_own hw (by exact .head _)) (by simp only [List.length_set, List.length_append, List.length_cons, List.length_nil, List.length_replicate, List.length_take, List.length_drop, List.length_map]; omega) rfl) (fun s182 => ?_)
            refine sr rfl rfl rfl ((q_assign rfl rfl)) (sw_nil (post_then (cw_region (sr rfl rfl rfl ((q_move rfl rfl)) (sr rfl rfl rfl ((q_move rfl rfl)) ?_)))))
            refine sr rfl rfl rfl ((q_indexN rfl rfl rfl (by exact fun w hw => rd_own hw (by exact .tail _ (.tail _ (.tail _ (.head _))))) (by intro hc; omega))) ?_
            refine sr rfl rfl rfl ((q_loadElY hnk rfl rfl rfl (by exact fun w hw => rd_own hw (by exact .tail _ (.tail _ (.tail _ (.head _))))) (by intro hc; omega))) ?_
            refine sr rfl rfl rfl ((q_move rfl rfl)) ?_
            refine sr rfl rfl rfl ((q_indexN (xs := (nth G k).2) rfl rfl rfl (fun w h => rd_own (e := 3) h (.tail _ (.tail _ (.tail _ (.tail _ hgm))))) (fun _ => by omega))) ?_
            refine sr rfl rfl rfl ((q_loadElY (xs := (nth G k).2) hval rfl rfl rfl (fun w h => rd_own (e := 3) h (.tail _ (.tail _ (.tail _ (.tail _ hgm))))) (fun _ => by omega))) ?_
            refine sr rfl rfl rfl ((q_assign rfl rfl)) (sw_nil (post_blk (post_then (cw_region ?_))))
            refine sr rfl rfl rfl ((q_add rfl rfl rfl (by intro hc; omega))) ?_
            refine sr rfl rfl rfl ((q_move rfl rfl)) (sw_nil ?_)
            refine post_next (k + 1, ((s182, out ++ [(g : Int) - f]), g)) (by exact .cons rfl (.cons rfl (.cons rfl (.cons rfl (.cons rfl (.cons rfl (.cons rfl .nil))))))) (fun w3 hw3 => hw3.tail) ⟨by simp only; omega, hgn, by simp [hol], ?_, ?_⟩ (by simp only; omega)
            · simp only
              rw [← hpt, hqe, CutP.pth, hB, show P.m - (k + 1) = q by omega]
              simp
            · simp only
              rw [show P.m - (k + 1) = q by omega]; exact hDg
          · skip
            have hk' : k = P.m := by simp only [decide_eq_false_iff_not] at h6; omega
            subst hk'
            rw [Nat.sub_self, CutP.pth, List.append_nil] at hpt
            have h0 := hr.2 0 (Nat.zero_le _)
            have hrl0 := hr.1
            rw [hv0] at h0
            refine cw_exit (post_then_x (post_then_x (post_blk_eq (post_then (cw_seq ?_)))))
            refine cw_region_q mixed_Tryz (by kernel_rfl) ?_
            refine qr rfl rfl rfl ((q_move rfl rfl)) (qr rfl rfl rfl ((q_move rfl rfl)) ?_)
            refine qr rfl rfl rfl ((q_indexN rfl rfl rfl (by exact fun w hw => rd_own hw (by exact .tail _ (.head _))) (by intro hc; (simp only [List.length_set, List.length_append, List.length_cons, List.length_nil, List.length_replicate, List.length_take, List.length_drop, List.length_map]; omega)))) ?_
            refine qr rfl rfl rfl ((q_loadEl rfl rfl rfl (by exact fun w hw => rd_own hw (by exact .tail _ (.head _))) (by intro hc; (simp only [List.length_set, List.length_append, List.length_cons, List.length_nil, List.length_replicate, List.length_take, List.length_drop, List.length_map]; omega)))) ?_
            refine qr rfl rfl rfl ((q_assign rfl rfl)) (qr rfl rfl rfl ((q_assign rfl rfl)) (qr rfl rfl rfl ((q_assign rfl rfl)) (qw_end (post_then (cw_ret (post_ret3 rfl (resOk_tmp rfl) (resOk_tmp rfl) (resOk_tmp rfl) ?_))))))
            refine fun w' hw => ⟨(s23, out), ?_, hpt, (fun w h => Cl.sel (by exact .take 0 rfl (.nil _)) w h) _ hw⟩
            rw [hv0]
            rw [h0]
            rfl
end Go.Proofs.YtomjbfeafodfbaaGreat

set_option autoImplicit false
set_option maxRecDepth 100000
namespace Go.Proofs.YtomjbfeafodfbaaGreat
open Go.Sx
open Enc (enc val)
structure EX where
  su : SlV
  st : SlV
  a : SlV
  b : SlV
  c : SlV
  d : SlV
  e : SlV
  f : SlV
def EX.U (y : EX) : List Un := exU y.a y.b y.c y.d y.e y.f
def EX.H (y : EX) : List Asn := [ownL 51 y.st.v exT, ownL 49 y.su.v y.U, ownL 3 y.f.v [(5 : Int)], ownL 3 y.e.v [(0 : Int)], ownL 3 y.d.v [(0 : Int)], ownL 3 y.c.v [(5 : Int)], ownL 3 y.b.v [(4 : Int)], ownL 3 y.a.v [(0 : Int)]]
theorem example_spec (w : World) : Calls Tryz.prog 63 #[] w fun e w' => ∃ y : EX, e = .returned (.tuple #[y.su.v, y.st.v, val exW]) ∧ True ∧ Cl w [] y.H w' := by
  refine calls_cw (vs := []) Tryz.func63 rfl Tryz.ntmps63 rfl (Cl.start0 w) (cw_seq (cw_region (sr rfl rfl rfl ((q_assign rfl rfl)) (sr rfl rfl rfl ((q_assign rfl rfl)) ?_))))
  refine sw_x rfl rfl rfl (e_alloc rfl) (fun b2 => ?_)
  refine sw_nil (post_then (cw_seq (cw_region ?_)))
  refine sw_x rfl rfl rfl (e_build1 (α := Int) rfl rfl rfl rfl) (fun s4 => ?_)
  refine sw_x rfl rfl rfl (e_build1 (α := Int) rfl rfl rfl rfl) (fun s5 => ?_)
  refine sr rfl rfl rfl ((q_build rfl (.cons rfl inferInstance (.cons rfl inferInstance (.cons rfl inferInstance (.cons rfl inferInstance (.cons rfl inferInstance (.cons rfl inferInstance (.nil))))))) rfl)) ?_
  refine sw_x rfl rfl rfl (e_build1 (α := Int) rfl rfl rfl rfl) (fun s7 => ?_)
  refine sw_x rfl rfl rfl (e_build1 (α := Int) rfl rfl rfl rfl) (fun s8 => ?_)
  refine sr rfl rfl rfl ((q_build rfl (.cons rfl inferInstance (.cons rfl inferInstance (.cons rfl inferInstance (.cons rfl inferInstance (.cons rfl inferInstance (.cons rfl inferInstance (.cons rfl inferInstance (.nil)))))))) rfl)) ?_
  refine sw_x rfl rfl rfl (e_build1 (α := Int) rfl rfl rfl rfl) (fun s10 => ?_)
  refine sw_x rfl rfl rfl (e_build1 (α := Int) rfl rfl rfl rfl) (fun s11 => ?_)
  refine sr rfl rfl rfl ((q_build rfl (.cons rfl inferInstance (.cons rfl inferInstance (.cons rfl inferInstance (.cons rfl inferInstance (.cons rfl inferInstance (.cons rfl inferInstance (.cons rfl inferInstance (.nil)))))))) rfl)) ?_
  refine sw_x rfl rfl rfl (e_buildL (α := Un) (l := exU s4 s5 s7 s8 s10 s11) rfl (.cons rfl inferInstance (.cons rfl inferInstance (.cons rfl inferInstance (.nil)))) rfl rfl rfl rfl) (fun s13 => ?_)
  refine sr rfl rfl rfl ((q_assign rfl rfl)) (sw_nil (post_then (cw_seq (cw_region (sr rfl rfl rfl ((q_move rfl rfl)) ?_)))))
  refine sr rfl rfl rfl ((q_build (cells := [.string exA, .string ByteArray.empty, .string ByteArray.empty, .int .i64 100, .int .i64 10]) rfl (.cons rfl inferInstance (.cons rfl inferInstance (.cons rfl inferInstance (.nil)))) (by rfl))) ?_
  refine sr rfl rfl rfl ((q_build (cells := [.string exB, .string ByteArray.empty, .string ByteArray.empty, .int .i64 100, .int .i64 10]) rfl (.cons rfl inferInstance (.cons rfl inferInstance (.cons rfl inferInstance (.nil)))) (by rfl))) ?_
  refine sw_x rfl rfl rfl (e_buildL (α := Wan) (l := exT) rfl (.cons rfl inferInstance (.cons rfl inferInstance (.nil))) rfl rfl rfl rfl) (fun s17 => ?_)
  refine sr rfl rfl rfl ((q_build (cells := enc exW) rfl (.cons rfl inferInstance (.cons rfl inferInstance (.cons rfl inferInstance (.cons rfl inferInstance (.nil))))) (by rfl))) ?_
  refine sr rfl rfl rfl ((q_assign rfl rfl)) (sr rfl rfl rfl ((q_assign rfl rfl)) (sw_eff0 rfl rfl (e_store (i := 8) rfl rfl rfl rfl rfl rfl rfl rfl) (sw_nil (post_then (cw_ret ?_)))))
  refine post_ret3 rfl (resOk_tmp rfl) (resOk_tmp rfl) (resOk_blk (x := exW) rfl (by exact .tail _ (.tail _ (.tail _ (.tail _ (.tail _ (.tail _ (.tail _ (.tail _ (.head _))))))))) (by rfl)) ?_
  exact fun w' hw => ⟨⟨s13, s17, s4, s5, s7, s8, s10, s11⟩, rfl, trivial, (fun w h => Cl.sel (by exact .take 0 rfl (.take 0 rfl (.take 0 rfl (.take 0 rfl (.take 0 rfl (.take 0 rfl (.take 0 rfl (.take 0 rfl (.nil _))))))))) w h) _ hw⟩
theorem ex_un {w : World} {H : List Asn} {w0 : World} (y : EX) (hw : Cl w0 [] H w) (hm : ∀ A ∈ y.H, A ∈ H) : VoRd w y.su y.U ∧ Stb w [] (RdL y.st.v exT) := by
  have h1 := stb_own (e := 49) hw (hm _ (.tail _ (.head _)))
  have h2 := stb_own (e := 51) hw (hm _ (.head _))
  have hf := stb_own (e := 3) hw (hm _ (.tail _ (.tail _ (.head _))))
  have he := stb_own (e := 3) hw (hm _ (.tail _ (.tail _ (.tail _ (.head _)))))
  have hd := stb_own (e := 3) hw (hm _ (.tail _ (.tail _ (.tail _ (.tail _ (.head _))))))
  have hc := stb_own (e := 3) hw (hm _ (.tail _ (.tail _ (.tail _ (.tail _ (.tail _ (.head _)))))))
  have hb := stb_own (e := 3) hw (hm _ (.tail _ (.tail _ (.tail _ (.tail _ (.tail _ (.tail _ (.head _))))))))
  have ha := stb_own (e := 3) hw (hm _ (.tail _ (.tail _ (.tail _ (.tail _ (.tail _ (.tail _ (.tail _ (.head _)))))))))
  refine ⟨⟨h1, fun u hu => ?_⟩, h2⟩
  simp only [EX.U, exU, List.mem_cons, List.not_mem_nil, or_false] at hu
  have sA : exA.size ≤ 140737488355328 := by decide
  have sB : exB.size ≤ 140737488355328 := by decide
  have sE : ByteArray.empty.size ≤ 140737488355328 := by decide
  rcases hu with rfl | rfl | rfl
  · exact ⟨sA, sE, sE, ha, hb⟩
  · exact ⟨sB, sE, sE, hc, hd⟩
  · exact ⟨sA, sE, sE, he, hf⟩
theorem ex_wa : ∀ t ∈ exT, WaRd t := by
  intro t ht
  simp only [exT, List.mem_cons, List.not_mem_nil, or_false] at ht
  rcases ht with rfl | rfl <;> exact ⟨by decide, by decide, by decide⟩
theorem mt_own {w0 w : World} {fp : List Nat} {H : List Asn} (hw : Cl w0 fp H w) {s : SlV} {vs : List SlV} {ls : List (List Int)} {e : TypeId} (hl : ownL e s.v vs ∈ H) (hn : vs.length = ls.length) (hr : ∀ i, i < ls.length → ∃ e2, ownL e2 (nth vs i).v (nth ls i) ∈ H) : Stb w [] (fun w' => Mt w' s.v vs ls) := by
  have h1 := stb_own hw hl
  have h2 : ∀ i, i < ls.length → Stb w [] (RdL (nth vs i).v (nth ls i)) := fun i hi => by
    obtain ⟨e2, h⟩ := hr i hi
    exact stb_own hw h
  exact ⟨fun w' k => ⟨h1.stb w' k, hn, fun i hi => (h2 i hi).stb w' k⟩⟩
theorem ex_rows {w : World} {so sc : SlV} (h1 : Stb w [] (RdL so.v (rowsTo sc 3 2 2))) (h2 : Stb w [] (RdL sc.v [(0 : Int), 0, 20, 0, 0, 0])) : Stb w [] (fun w' => Mt w' so.v (rowsTo sc 3 2 2) [[0, 0, 20], [0, 0, 0]]) := by
  have r0 : Stb w [] (RdL (sc.row 1 0 3).v [(0 : Int), 0, 20]) := stb_row (α := Int) h2 (by decide) (by decide)
  have r1 : Stb w [] (RdL (sc.row 1 3 6).v [(0 : Int), 0, 0]) := stb_row (α := Int) h2 (by decide) (by decide)
  refine ⟨fun w' k => ⟨h1.stb w' k, rowsTo_len _ _ _ _, fun i hi => ?_⟩⟩
  match i, hi with
  | 0, _ => rw [rowsTo_nth _ _ _ _ _ (by decide)]; exact r0.stb w' k
  | 1, _ => rw [rowsTo_nth _ _ _ _ _ (by decide)]; exact r1.stb w' k
def exP : CutP := ⟨[[1], [1], [9]], [[1], [8]], 1⟩
theorem exP_D : (exP.D exP.m 0).getD 0 = 1 := by decide +kernel
theorem exP_pth : exP.pth exP.m 0 = [2, 1] := by decide +kernel
theorem exP_E : cutE exP.fl exP.pl exP.L = 0 := by decide +kernel
theorem exP_ok : exP.Ok where
  fv f hf := by
    have hf' : f < 3 := hf
    match f, hf' with
    | 0, _ => decide
    | 1, _ => decide
    | 2, _ => decide
  pv p hp := by
    have hp' : p < 2 := hp
    match p, hp' with
    | 0, _ => decide
    | 1, _ => decide
  eq f p hf hp := by
    have hf' : f < 3 := hf
    have hp' : p < 2 := hp
    match f, hf', p, hp' with
    | 0, _, 0, _ => rfl
    | 1, _, 0, _ => rfl
    | 2, _, 0, _ => rfl
    | 0, _, 1, _ => rfl
    | 1, _, 1, _ => rfl
    | 2, _, 1, _ => rfl
  n2 := by decide
  m2 := by decide
  l1 := by decide
theorem same_true (sa sb : Value) (a b : List Int) (h : a = b) (w : World) (ha : Stb w [] (RdL sa a)) (hb : Stb w [] (RdL sb b)) : Calls Tryz.prog 23 #[sa, sb] w fun e w' => e = .returned (.bool true) ∧ Cl w [] [] w' := by
  have := same_spec sa sb a b w ha hb
  rwa [decide_eq_true h] at this
theorem sameL_true (sa sb : Value) (va vb : List SlV) (a b : List (List Int)) (h : a = b) (w : World) (ha : Stb w [] (fun w' => Mt w' sa va a)) (hb : Stb w [] (fun w' => Mt w' sb vb b)) : Calls Tryz.prog 24 #[sa, sb] w fun e w' => e = .returned (.bool true) ∧ Cl w [] [] w' := by
  have := sameLists_spec sa sb va vb a b w ha hb
  rwa [decide_eq_true h] at this
theorem known_spec (w : World) : Calls Tryz.prog 18 #[] w fun e w' => e = .returned (.bool true) ∧ Cl w [] [] w' := by
  refine calls_cw (vs := []) Tryz.func18 rfl Tryz.ntmps18 rfl (Cl.start0 w) (cw_seq (cw_region (sr rfl rfl rfl ((q_assign rfl rfl)) (sw_nil (post_then (cw_seq (cw_region ?_)))))))
  refine sw_x rfl rfl rfl (e_call (CanCall.mk Tryz.call63) rfl (.nil) (fun w hw => example_spec w)) (fun y => ?_)
  refine sw_imp fun _ => ?_
  rw [List.append_nil]
  refine sr rfl rfl rfl ((q_move rfl rfl)) (sr rfl rfl rfl ((q_extract rfl rfl rfl)) (sr rfl rfl rfl ((q_extract rfl rfl rfl)) (sr rfl rfl rfl ((q_extract rfl rfl rfl)) ?_)))
  refine sw_x rfl rfl rfl (e_alloc rfl) (fun b3 => ?_)
  refine sr rfl rfl rfl ((q_assign rfl rfl)) (sr rfl rfl rfl ((q_assign rfl rfl)) (sw_eff0 rfl rfl (e_store (i := 0) rfl rfl rfl rfl rfl rfl rfl rfl) (sw_nil (post_then (cw_seq (cw_region (sr rfl rfl rfl ((q_move rfl rfl)) (sr rfl rfl rfl ((q_move rfl rfl)) ?_))))))))
  refine sr rfl rfl rfl ((q_loadA rfl rfl (by exact .head _) rfl)) ?_
  refine sw_x rfl rfl rfl (e_call (CanCall.mk Tryz.call19) rfl (.cons rfl inferInstance (.cons rfl inferInstance (.cons rfl inferInstance (.nil)))) (fun w1 hw => choose_yes y.su y.st y.U exT exW w1 (ex_un y hw (fun A hA => .tail _ hA)).1 (ex_un y hw (fun A hA => .tail _ hA)).2 ex_wa (ex_begin _ _ _ _ _ _) (ex_poss _ _ _ _ _ _) (show (3 + 1) ^ 2 ≤ 500000000 by decide))) (fun z => ?_)
  refine sw_imp fun hz => ?_
  obtain ⟨⟨so, sc⟩, ⟨cells, ⟨qs, qc, ql⟩⟩⟩ := z
  obtain ⟨h1, h2⟩ := hz
  dsimp only at h1 h2
  obtain rfl := ex_cells _ _ _ _ _ _ h1
  obtain ⟨rfl, rfl⟩ := ex_best _ _ _ _ _ _ h2
  clear h1 h2
  dsimp only
  refine sr rfl rfl rfl ((q_move rfl rfl)) (sr rfl rfl rfl ((q_extract rfl rfl rfl)) (sr rfl rfl rfl ((q_extract rfl rfl rfl)) (sr rfl rfl rfl ((q_extract rfl rfl rfl)) ?_)))
  refine sw_x rfl rfl rfl (e_alloc rfl) (fun b4 => ?_)
  refine sw_eff0 rfl rfl (e_store (i := 0) rfl rfl rfl rfl rfl rfl rfl rfl) (sr rfl rfl rfl ((q_assign rfl rfl)) (sr rfl rfl rfl ((q_assign rfl rfl)) (sw_nil (post_then (cw_seq (cw_region (sr rfl rfl rfl ((q_move rfl rfl)) (sr rfl rfl rfl ((q_move rfl rfl)) ?_))))))))
  refine sr rfl rfl rfl ((q_loadA rfl rfl (by exact .tail _ (.tail _ (.tail _ (.tail _ (.head _))))) rfl)) ?_
  refine sw_x rfl rfl rfl (e_call (CanCall.mk Tryz.call26) rfl (.cons rfl inferInstance (.cons rfl inferInstance (.cons rfl inferInstance (.cons rfl inferInstance (.nil))))) (fun w1 hw => best_yes y.su y.st y.U exT exW 5 w1 (ex_un y hw (fun A hA => .tail _ (.tail _ (.tail _ (.tail _ (.tail _ hA)))))).1 (ex_un y hw (fun A hA => .tail _ (.tail _ (.tail _ (.tail _ (.tail _ hA)))))).2 ex_wa (ex_begin _ _ _ _ _ _) (by omega) (ex_poss _ _ _ _ _ _) (show (3 + 1) ^ 2 ≤ 500000000 by decide))) (fun z => ?_)
  refine sw_imp fun hz => ?_
  obtain ⟨so2, ⟨outs, il⟩⟩ := z
  obtain ⟨h1, h2, h3⟩ := hz
  dsimp only at h1 h2 h3 ⊢
  obtain ⟨q1, ⟨u2, c2, l2⟩, rfl, hq⟩ := ex_bests _ _ _ _ _ _ h1 h2
  obtain rfl : c2 = 20 := hq
  clear h1 h2 h3
  refine sw_le (C' := Cl w [] [ownL 30 so2.v [q1, ⟨u2, 20, l2⟩], blk b4 [qs.v, .int .i64 0] 30, ownL 28 so.v (rowsTo sc 3 2 2), ownL 3 sc.v [(0 : Int), 0, 20, 0, 0, 0], ownL 3 qs.v [(0 : Int), 1]]) (fun w h => Cl.sel (by exact .take 0 rfl (.take 2 rfl (.take 2 rfl (.take 2 rfl (.take 2 rfl (.nil _)))))) w h) ?_
  refine sr rfl rfl rfl ((q_move rfl rfl)) (sr rfl rfl rfl ((q_extract rfl rfl rfl)) (sr rfl rfl rfl ((q_extract rfl rfl rfl)) (sr rfl rfl rfl ((q_assign rfl rfl)) (sr rfl rfl rfl ((q_assign rfl rfl)) (sw_nil (post_then (cw_seq (cw_region ?_))))))))
  refine sw_x rfl rfl rfl (e_build1 (α := Int) rfl rfl rfl rfl) (fun s41 => ?_)
  refine sw_x rfl rfl rfl (e_build1 (α := Int) rfl rfl rfl rfl) (fun s42 => ?_)
  refine sw_x rfl rfl rfl (e_build1 (α := Int) rfl rfl rfl rfl) (fun s43 => ?_)
  refine sw_x rfl rfl rfl (e_buildL (α := SlV) (l := [s41, s42, s43]) rfl (.cons rfl inferInstance (.cons rfl inferInstance (.cons rfl inferInstance (.nil)))) rfl rfl rfl rfl) (fun s44 => ?_)
  refine sw_x rfl rfl rfl (e_build1 (α := Int) rfl rfl rfl rfl) (fun s45 => ?_)
  refine sw_x rfl rfl rfl (e_build1 (α := Int) rfl rfl rfl rfl) (fun s46 => ?_)
  refine sw_x rfl rfl rfl (e_buildL (α := SlV) (l := [s45, s46]) rfl (.cons rfl inferInstance (.cons rfl inferInstance (.nil))) rfl rfl rfl rfl) (fun s47 => ?_)
  refine sw_x rfl rfl rfl (e_call (CanCall.mk Tryz.call30) rfl (.cons rfl inferInstance (.cons rfl inferInstance (.cons rfl inferInstance (.nil)))) (fun w1 hw => cut_yes s44 s47 [s41, s42, s43] [s45, s46] exP w1 (mt_own hw (e := 28) (by exact .tail _ (.tail _ (.tail _ (.head _)))) rfl (fun i hi => by match i, hi with | 0, _ => exact ⟨3, (by exact .tail _ (.tail _ (.tail _ (.tail _ (.tail _ (.tail _ (.head _)))))))⟩ | 1, _ => exact ⟨3, (by exact .tail _ (.tail _ (.tail _ (.tail _ (.tail _ (.head _))))))⟩ | 2, _ => exact ⟨3, (by exact .tail _ (.tail _ (.tail _ (.tail _ (.head _)))))⟩)) (mt_own hw (e := 28) (by exact .head _) rfl (fun i hi => by match i, hi with | 0, _ => exact ⟨3, (by exact .tail _ (.tail _ (.head _)))⟩ | 1, _ => exact ⟨3, (by exact .tail _ (.head _))⟩)) exP_E exP_ok (by decide) (by decide))) (fun z => ?_)
  refine sw_imp fun hz => ?_
  obtain ⟨sk, lk⟩ := z
  dsimp only at hz ⊢
  rw [exP_pth] at hz
  subst hz
  rw [exP_D]
  refine sw_le (C' := Cl w [] [ownL 3 sk.v [(2 : Int), 1], ownL 30 so2.v [q1, ⟨u2, 20, l2⟩], blk b4 [qs.v, .int .i64 0] 30, ownL 28 so.v (rowsTo sc 3 2 2), ownL 3 sc.v [(0 : Int), 0, 20, 0, 0, 0], ownL 3 qs.v [(0 : Int), 1]]) (fun w h => Cl.sel (by exact .take 0 rfl (.take 7 rfl (.take 7 rfl (.take 7 rfl (.take 7 rfl (.take 7 rfl (.nil _))))))) w h) ?_
  refine sr rfl rfl rfl ((q_move rfl rfl)) (sr rfl rfl rfl ((q_extract rfl rfl rfl)) (sr rfl rfl rfl ((q_extract rfl rfl rfl)) (sr rfl rfl rfl ((q_extract rfl rfl rfl)) (sr rfl rfl rfl ((q_assign rfl rfl)) (sr rfl rfl rfl ((q_assign rfl rfl)) (sr rfl rfl rfl ((q_assign rfl rfl)) (sw_nil (post_then (cw_seq (cw_region ?_))))))))))
  refine sw_x rfl rfl rfl (e_buildL (α := Int) (l := [0, 1, 2]) rfl (.cons rfl inferInstance (.cons rfl inferInstance (.cons rfl inferInstance (.nil)))) rfl rfl rfl rfl) (fun s52 => ?_)
  refine sw_x rfl rfl rfl (e_buildL (α := Int) (l := [0, 3]) rfl (.cons rfl inferInstance (.cons rfl inferInstance (.nil))) rfl rfl rfl rfl) (fun s53 => ?_)
  refine sw_x rfl rfl rfl (e_buildL (α := Int) (l := [1, 2]) rfl (.cons rfl inferInstance (.cons rfl inferInstance (.nil))) rfl rfl rfl rfl) (fun s54 => ?_)
  refine sw_x rfl rfl rfl (e_build1 (α := Int) rfl rfl rfl rfl) (fun s55 => ?_)
  refine sw_x rfl rfl rfl (e_buildL (α := SlV) (l := [s52, s53, s54, s55]) rfl (.cons rfl inferInstance (.cons rfl inferInstance (.cons rfl inferInstance (.cons rfl inferInstance (.nil))))) rfl rfl rfl rfl) (fun s56 => ?_)
  refine sr rfl rfl rfl ((q_assign rfl rfl)) (sw_nil (post_then (cw_seq (cw_region (sr rfl rfl rfl ((q_move rfl rfl)) ?_)))))
  have hsets : ∀ {w1 : World} {H : List Asn}, Cl w [] H w1 → ownL 28 s56.v [s52, s53, s54, s55] ∈ H → ownL 3 s52.v [(0 : Int), 1, 2] ∈ H → ownL 3 s53.v [(0 : Int), 3] ∈ H → ownL 3 s54.v [(1 : Int), 2] ∈ H → ownL 3 s55.v [(3 : Int)] ∈ H → Stb w1 [] (fun w' => Mt w' s56.v [s52, s53, s54, s55] exS) := fun hw m0 m1 m2 m3 m4 => mt_own hw (e := 28) m0 rfl (fun i hi => by
    have hi' : i < 4 := hi
    match i, hi' with
    | 0, _ => exact ⟨3, m1⟩
    | 1, _ => exact ⟨3, m2⟩
    | 2, _ => exact ⟨3, m3⟩
    | 3, _ => exact ⟨3, m4⟩)
  refine sw_x rfl rfl rfl (e_call (CanCall.mk Tryz.call42) rfl (.cons rfl inferInstance (.cons rfl inferInstance (.nil))) (fun w1 hw => greedy_yes 4 (by omega) s56 [s52, s53, s54, s55] exS (by decide) w1 (hsets hw (by exact .head _) (by exact .tail _ (.tail _ (.tail _ (.tail _ (.head _))))) (by exact .tail _ (.tail _ (.tail _ (.head _)))) (by exact .tail _ (.tail _ (.head _))) (by exact .tail _ (.head _))) exS_cov exS_poss)) (fun z => ?_)
  refine sw_imp fun hz => ?_
  obtain ⟨sa, ⟨la, ka⟩⟩ := z
  dsimp only at hz ⊢
  obtain rfl := exS_k hz.ok hz.full
  obtain rfl : la = [0, 1] := srt_two (by rw [← exS_out]; exact hz.perm) hz.srt
  clear hz
  refine sr rfl rfl rfl ((q_move rfl rfl)) (sr rfl rfl rfl ((q_extract rfl rfl rfl)) (sr rfl rfl rfl ((q_extract rfl rfl rfl)) (sr rfl rfl rfl ((q_assign rfl rfl)) (sr rfl rfl rfl ((q_assign rfl rfl)) (sw_nil (post_then (cw_seq (cw_region (sr rfl rfl rfl ((q_move rfl rfl)) ?_)))))))))
  refine sw_x rfl rfl rfl (e_call (CanCall.mk Tryz.call34) rfl (.cons rfl inferInstance (.cons rfl inferInstance (.nil))) (fun w1 hw => price_yes 4 (by omega) s56 [s52, s53, s54, s55] exS w1 (hsets hw (by exact .tail _ (.head _)) (by exact .tail _ (.tail _ (.tail _ (.tail _ (.tail _ (.head _)))))) (by exact .tail _ (.tail _ (.tail _ (.tail _ (.head _))))) (by exact .tail _ (.tail _ (.tail _ (.head _)))) (by exact .tail _ (.tail _ (.head _)))) exS_cov (by decide) (by rw [exS_wid]; decide) exS_poss)) (fun z => ?_)
  refine sw_imp fun hz => ?_
  obtain ⟨sp, ⟨lp, ⟨kp, lq⟩⟩⟩ := z
  dsimp only at hz ⊢
  obtain ⟨hz1, hz2⟩ := hz
  obtain rfl := exS_k hz2.ok hz2.full
  rw [exS_sh] at hz1
  obtain rfl : lp = [9240, 9240, 9240, 27720] := hz1
  clear hz2
  rw [exS_wid, exS_scale]
  refine sr rfl rfl rfl ((q_move rfl rfl)) (sr rfl rfl rfl ((q_extract rfl rfl rfl)) (sr rfl rfl rfl ((q_extract rfl rfl rfl)) (sr rfl rfl rfl ((q_extract rfl rfl rfl)) (sr rfl rfl rfl ((q_assign rfl rfl)) (sr rfl rfl rfl ((q_assign rfl rfl)) (sr rfl rfl rfl ((q_assign rfl rfl)) (sw_nil (post_then (cw_seq (cw_region (sr rfl rfl rfl ((q_move rfl rfl)) (sr rfl rfl rfl ((q_move rfl rfl)) (sr rfl rfl rfl ((q_move rfl rfl)) ?_)))))))))))))
  refine sw_step rfl rfl rfl (q_call (v := .tuple #[.int .i64 2, .bool true]) (CanCall.mk Tryz.call39) rfl (.cons rfl inferInstance (.cons rfl inferInstance (.cons rfl inferInstance (.cons rfl inferInstance (.nil))))) (fun _ w1 hw => callq hw (by have := proves_yes 4 (by omega) s56 [s52, s53, s54, s55] exS sp [9240, 9240, 9240, 27720] 50820 w1 (hsets hw (by exact .tail _ (.tail _ (.head _))) (by exact .tail _ (.tail _ (.tail _ (.tail _ (.tail _ (.tail _ (.head _))))))) (by exact .tail _ (.tail _ (.tail _ (.tail _ (.tail _ (.head _)))))) (by exact .tail _ (.tail _ (.tail _ (.tail _ (.head _))))) (by exact .tail _ (.tail _ (.tail _ (.head _))))) (stb_own (e := 3) hw (by exact .head _)) exS_cov; rw [exS_prov.1, exS_prov.2] at this; exact this))) ?_
  refine sr rfl rfl rfl ((q_move rfl rfl)) (sr rfl rfl rfl ((q_extract rfl rfl rfl)) (sr rfl rfl rfl ((q_extract rfl rfl rfl)) (sr rfl rfl rfl ((q_assign rfl rfl)) (sr rfl rfl rfl ((q_assign rfl rfl)) (sw_nil (post_then (cw_seq (cw_seq (cw_region (sr rfl rfl rfl ((q_move rfl rfl)) (sr rfl rfl rfl ((q_neq rfl rfl rfl)) (sr rfl rfl rfl ((q_move rfl rfl)) (sr rfl rfl rfl ((q_move rfl rfl)) (sr rfl rfl rfl ((q_neq rfl rfl rfl)) (sr rfl rfl rfl ((q_or2 rfl rfl rfl)) (sr rfl rfl rfl ((q_move rfl rfl)) (sr rfl rfl rfl ((q_move rfl rfl)) (sr rfl rfl rfl ((q_neq rfl rfl rfl)) (sr rfl rfl rfl ((q_or2 rfl rfl rfl)) (sr rfl rfl rfl ((q_move rfl rfl)) (sr rfl rfl rfl ((q_move rfl rfl)) (sr rfl rfl rfl ((q_neq rfl rfl rfl)) (sr rfl rfl rfl ((q_or2 rfl rfl rfl)) (sr rfl rfl rfl ((q_move rfl rfl)) (sr rfl rfl rfl ((q_move rfl rfl)) (sr rfl rfl rfl ((q_neq rfl rfl rfl)) (sr rfl rfl rfl ((q_or2 rfl rfl rfl)) (sr rfl rfl rfl ((q_move rfl rfl)) (sr rfl rfl rfl ((q_move rfl rfl)) (sr rfl rfl rfl ((q_not rfl rfl)) (sr rfl rfl rfl ((q_or2 rfl rfl rfl)) (sr rfl rfl rfl ((q_move rfl rfl)) (sr rfl rfl rfl ((q_move rfl rfl)) ?_)))))))))))))))))))))))))))))))))
  refine sr rfl rfl rfl ((q_len rfl (.cons rfl inferInstance (.nil)) (by exact fun w hw => rd_own hw (by exact .tail _ (.tail _ (.tail _ (.tail _ (.tail _ (.tail _ (.tail _ (.tail _ (.head _)))))))))))) ?_
  refine sr rfl rfl rfl ((q_neq rfl rfl rfl)) (sr rfl rfl rfl ((q_or2 rfl rfl rfl)) (sw_nil (post_then ?_)))
  refine cw_cond rfl (fun h => ?_) (fun h => ?_)
  · skip
    simp at h
  · skip
    clear h
    have hn2 : (nth [q1, (⟨u2, 20, l2⟩ : Sq)] 1).cost = 20 := rfl
    refine cw_skip (post_then (cw_seq (cw_region (sr rfl rfl rfl ((q_fieldAddr rfl rfl)) ?_))))
    refine sr rfl rfl rfl ((q_loadC rfl rfl (by exact .tail _ (.tail _ (.tail _ (.tail _ (.tail _ (.tail _ (.tail _ (.tail _ (.tail _ (.head _)))))))))) rfl)) ?_
    refine sw_x rfl rfl rfl (e_buildL (α := Int) (l := [0, 1]) rfl (.cons rfl inferInstance (.cons rfl inferInstance (.nil))) rfl rfl rfl rfl) (fun s104 => ?_)
    refine sw_step rfl rfl rfl (q_call (v := .bool true) (CanCall.mk Tryz.call23) rfl (.cons rfl inferInstance (.cons rfl inferInstance (.nil))) (fun _ w1 hw => callq hw (same_true _ _ [0, 1] [0, 1] rfl w1 (stb_own (e := 3) hw (by exact .tail _ (.tail _ (.tail _ (.tail _ (.tail _ (.tail _ (.tail _ (.tail _ (.tail _ (.tail _ (.tail _ (.tail _ (.tail _ (.head _))))))))))))))) (stb_own (e := 3) hw (by exact .head _))))) ?_
    refine sr rfl rfl rfl ((q_move rfl rfl)) (sr rfl rfl rfl ((q_fieldAddr rfl rfl)) ?_)
    refine sr rfl rfl rfl ((q_loadC rfl rfl (by exact .tail _ (.tail _ (.tail _ (.tail _ (.tail _ (.tail _ (.tail _ (.tail _ (.tail _ (.tail _ (.head _))))))))))) rfl)) ?_
    refine sr rfl rfl rfl ((q_eql rfl rfl rfl)) (sr rfl rfl rfl ((q_and2 rfl rfl rfl)) (sr rfl rfl rfl ((q_move rfl rfl)) (sr rfl rfl rfl ((q_move rfl rfl)) ?_)))
    refine sw_xc rfl (by first | (simp [AllT]; done) | simp [AllT, *]) rfl rfl (e_buildLc (α := Int) (l := [0, 0, 20]) rfl (.cons rfl inferInstance (.cons rfl inferInstance (.cons rfl inferInstance (.nil)))) rfl rfl rfl rfl) (fun s113 => ?_)
    refine sw_xc rfl (by first | (simp [AllT]; done) | simp [AllT, *]) rfl rfl (e_buildLc (α := Int) (l := [0, 0, 0]) rfl (.cons rfl inferInstance (.cons rfl inferInstance (.cons rfl inferInstance (.nil)))) rfl rfl rfl rfl) (fun s114 => ?_)
    refine sw_xc rfl (by first | (simp [AllT]; done) | simp [AllT, *]) rfl rfl (e_buildLc (α := SlV) (l := [s113, s114]) rfl (.cons rfl inferInstance (.cons rfl inferInstance (.nil))) rfl rfl rfl rfl) (fun s115 => ?_)
    refine sw_step rfl rfl rfl (q_call (v := .bool true) (CanCall.mk Tryz.call24) rfl (.cons rfl inferInstance (.cons rfl inferInstance (.nil))) (fun _ w1 hw => callq hw (sameL_true _ _ (rowsTo sc 3 2 2) [s113, s114] [[0, 0, 20], [0, 0, 0]] [[0, 0, 20], [0, 0, 0]] rfl w1 (ex_rows (stb_own (e := 28) hw (by exact .tail _ (.tail _ (.tail _ (.tail _ (.tail _ (.tail _ (.tail _ (.tail _ (.tail _ (.tail _ (.tail _ (.tail _ (.tail _ (.tail _ (.head _)))))))))))))))) (stb_own (e := 3) hw (by exact .tail _ (.tail _ (.tail _ (.tail _ (.tail _ (.tail _ (.tail _ (.tail _ (.tail _ (.tail _ (.tail _ (.tail _ (.tail _ (.tail _ (.tail _ (.head _)))))))))))))))))) (mt_own hw (e := 28) (by exact .head _) rfl (fun i hi => by match i, hi with | 0, _ => exact ⟨3, (by exact .tail _ (.tail _ (.head _)))⟩ | 1, _ => exact ⟨3, (by exact .tail _ (.head _))⟩))))) ?_
    refine sr rfl rfl rfl ((q_and2 rfl rfl rfl)) (sr rfl rfl rfl ((q_move rfl rfl)) (sr rfl rfl rfl ((q_move rfl rfl)) ?_))
    refine sr rfl rfl rfl ((q_indexN rfl rfl rfl (by exact fun w hw => rd_own hw (by exact .tail _ (.tail _ (.tail _ (.tail _ (.tail _ (.tail _ (.tail _ (.tail _ (.tail _ (.tail _ (.tail _ (.tail _ (.head _)))))))))))))) (by intro hc; (simp only [List.length_set, List.length_append, List.length_cons, List.length_nil, List.length_replicate, List.length_take, List.length_drop, List.length_map]; omega)))) ?_
    refine sr rfl rfl rfl ((q_fieldEl rfl rfl (by exact fun w hw => rd_own hw (by exact .tail _ (.tail _ (.tail _ (.tail _ (.tail _ (.tail _ (.tail _ (.tail _ (.tail _ (.tail _ (.tail _ (.tail _ (.head _)))))))))))))) (by intro hc; (simp only [List.length_set, List.length_append, List.length_cons, List.length_nil, List.length_replicate, List.length_take, List.length_drop, List.length_map]; omega)))) ?_
    refine sr rfl rfl rfl ((q_loadF rfl rfl rfl (by exact fun w hw => rd_own hw (by exact .tail _ (.tail _ (.tail _ (.tail _ (.tail _ (.tail _ (.tail _ (.tail _ (.tail _ (.tail _ (.tail _ (.tail _ (.head _)))))))))))))) (by intro hc; (simp only [List.length_set, List.length_append, List.length_cons, List.length_nil, List.length_replicate, List.length_take, List.length_drop, List.length_map]; omega)) rfl)) ?_
    refine sr rfl rfl rfl ((q_eql rfl rfl rfl)) (sr rfl rfl rfl ((q_and2 rfl rfl rfl)) (sr rfl rfl rfl ((q_move rfl rfl)) (sr rfl rfl rfl ((q_move rfl rfl)) ?_)))
    refine sw_xc rfl (by first | (simp [AllT]; done) | simp [AllT, *]) rfl rfl (e_buildLc (α := Int) (l := [2, 1]) rfl (.cons rfl inferInstance (.cons rfl inferInstance (.nil))) rfl rfl rfl rfl) (fun s127 => ?_)
    refine sw_step rfl rfl rfl (q_call (v := .bool true) (CanCall.mk Tryz.call23) rfl (.cons rfl inferInstance (.cons rfl inferInstance (.nil))) (fun _ w1 hw => callq hw (same_true _ _ [2, 1] [2, 1] rfl w1 (stb_own (e := 3) hw (by exact .tail _ (.tail _ (.tail _ (.tail _ (.tail _ (.tail _ (.tail _ (.tail _ (.tail _ (.tail _ (.tail _ (.tail _ (.head _)))))))))))))) (stb_own (e := 3) hw (by exact .head _))))) ?_
    refine sr rfl rfl rfl ((q_and2 rfl rfl rfl)) (sr rfl rfl rfl ((q_move rfl rfl)) (sr rfl rfl rfl ((q_move rfl rfl)) (sr rfl rfl rfl ((q_eql rfl rfl rfl)) (sr rfl rfl rfl ((q_and2 rfl rfl rfl)) (sr rfl rfl rfl ((q_move rfl rfl)) (sr rfl rfl rfl ((q_move rfl rfl)) ?_))))))
    refine sw_xc rfl (by first | (simp [AllT]; done) | simp [AllT, *]) rfl rfl (e_buildLc (α := Int) (l := [0, 1]) rfl (.cons rfl inferInstance (.cons rfl inferInstance (.nil))) rfl rfl rfl rfl) (fun s136 => ?_)
    refine sw_step rfl rfl rfl (q_call (v := .bool true) (CanCall.mk Tryz.call23) rfl (.cons rfl inferInstance (.cons rfl inferInstance (.nil))) (fun _ w1 hw => callq hw (same_true _ _ [0, 1] [0, 1] rfl w1 (stb_own (e := 3) hw (by exact .tail _ (.tail _ (.tail _ (.tail _ (.tail _ (.tail _ (.tail _ (.head _))))))))) (stb_own (e := 3) hw (by exact .head _))))) ?_
    refine sr rfl rfl rfl ((q_and2 rfl rfl rfl)) (sr rfl rfl rfl ((q_move rfl rfl)) (sr rfl rfl rfl ((q_move rfl rfl)) (sr rfl rfl rfl ((q_eql rfl rfl rfl)) (sr rfl rfl rfl ((q_and2 rfl rfl rfl)) (sr rfl rfl rfl ((q_move rfl rfl)) (sr rfl rfl rfl ((q_move rfl rfl)) (sr rfl rfl rfl ((q_eql rfl rfl rfl)) (sr rfl rfl rfl ((q_and2 rfl rfl rfl)) (sr rfl rfl rfl ((q_assign rfl rfl)) (sw_nil (post_then (cw_ret (post_ret1 rfl (resOk_tmp rfl) ?_)))))))))))))
    exact fun w' hw => ⟨rfl, (fun w h => Cl.sel (by exact .nil _) w h) _ hw⟩
end Go.Proofs.YtomjbfeafodfbaaGreat

set_option autoImplicit false
set_option maxRecDepth 100000
namespace Go.Proofs.YtomjbfeafodfbaaGreat
open Go.Sx
open Enc (enc val)
theorem setsOk_of {n : Int} {ls : List (List Int)} {most : Int} (h : setsOk n ls most = true) : ((ls.length : Int) ≤ most ∨ 1000 < ls.length) ∧ (n ≤ 30 ∨ 1000 < n) := by
  simp only [setsOk, Bool.and_eq_true, decide_eq_true_eq] at h
  exact ⟨h.1.1, h.1.2.2⟩
theorem greedyE_bad {n : Int} {ls : List (List Int)} (h : covE n ls 1000 ≠ 0) : greedyE n ls = covE n ls 1000 ∧ covE n ls 1000 ≠ 5 := by
  refine ⟨by rw [greedyE, if_pos h], ?_⟩
  unfold covE
  split
  · decide
  · split <;> decide
theorem greedyE_ok {n : Nat} {ls : List (List Int)} (h : covE n ls 1000 = 0) : greedyE n ls = if possN n (msOf ls) then 0 else 5 := by
  rw [greedyE, h, if_neg (by simp)]; rfl
theorem lawProves_bad (n : Int) (hn : -9223372036854775808 ≤ n) (sv : SlV) (vs : List SlV) (ls : List (List Int)) (sp : SlV) (prices : List Int) (scale : Int) (w : World) (hm : Stb w [] (fun w' => Mt w' sv.v vs ls)) (hp : Stb w [] (RdL sp.v prices)) (hE : covE n ls 1000 ≠ 0) :
    Calls Tryz.prog 8 #[.int .i64 n, sv.v, sp.v, .int .i64 scale] w fun e w' => e = .returned (.bool true) ∧ Cl w [] [] w' := by
  have hL := rd_len hp.here
  refine calls_cw (vs := [_, _, _, _]) Tryz.func8 rfl Tryz.ntmps8 rfl (Cl.start0 w) (cw_seq (cw_region (sr rfl rfl rfl ((q_assign rfl rfl)) (sw_nil (post_then (cw_seq (cw_seq (cw_region (sr rfl rfl rfl ((q_move rfl rfl)) (sr rfl rfl rfl ((q_move rfl rfl)) (sw_step rfl rfl rfl (q_call (CanCall.mk Tryz.call33) rfl (.cons rfl inferInstance (.cons rfl inferInstance (.cons rfl inferInstance (.nil)))) (fun _ w hw => callq hw (sets_spec n sv vs ls 8 w (stb_arg hw hm)))) (sr rfl rfl rfl ((q_not rfl rfl)) (sr rfl rfl rfl ((q_move rfl rfl)) (sr rfl rfl rfl ((q_move rfl rfl)) ?_))))))))))))))
  refine sr rfl rfl rfl ((q_len rfl (.cons rfl inferInstance (.nil)) (by exact fun w hw => Stb.cl (by assumption) hw))) ?_
  refine sr rfl rfl rfl ((q_gtr rfl rfl rfl)) (sr rfl rfl rfl ((q_or2 rfl rfl rfl)) (sw_nil (post_then ?_)))
  refine cw_cond rfl (fun h => ?_) (fun h => ?_)
  · skip
    refine cw_seq (cw_region (sw_step rfl rfl rfl (q_call (CanCall.mk Tryz.call18) rfl (.nil) (fun _ w hw => callq hw (known_spec w))) (sr rfl rfl rfl ((q_assign rfl rfl)) (sw_nil (post_then (cw_ret (post_then_r (post_ret1 rfl (resOk_tmp rfl) ?_))))))))
    exact fun w' hw => ⟨rfl, hw⟩
  · skip
    have hso : setsOk n ls 8 = true := by
      cases h2 : setsOk n ls 8
      · rw [h2] at h; simp at h
      · rfl
    obtain ⟨k1, k2⟩ := setsOk_of hso
    have hg := greedyE_bad hE
    refine cw_skip (post_then (cw_seq (cw_region (sr rfl rfl rfl ((q_move rfl rfl)) (sr rfl rfl rfl ((q_move rfl rfl)) (sr rfl rfl rfl ((q_move rfl rfl)) (sr rfl rfl rfl ((q_move rfl rfl)) (sw_step rfl rfl rfl (q_call (CanCall.mk Tryz.call39) rfl (.cons rfl inferInstance (.cons rfl inferInstance (.cons rfl inferInstance (.cons rfl inferInstance (.nil))))) (fun _ w hw => callq hw (proves_bad n hn sv vs ls sp prices scale w (stb_arg hw hm) (stb_arg hw hp) hE))) (sr rfl rfl rfl ((q_move rfl rfl)) (sr rfl rfl rfl ((q_extract rfl rfl rfl)) (sr rfl rfl rfl ((q_extract rfl rfl rfl)) (sr rfl rfl rfl ((q_assign rfl rfl)) (sr rfl rfl rfl ((q_assign rfl rfl)) (sw_nil (post_then (cw_seq (cw_region (sr rfl rfl rfl ((q_assign rfl rfl)) (sr rfl rfl rfl ((q_assign rfl rfl)) (sw_nil (post_then (cw_seq (cw_seq (cw_region (sr rfl rfl rfl ((q_move rfl rfl)) (sr rfl rfl rfl ((q_move rfl rfl)) ?_))))))))))))))))))))))))))
    refine sw_step rfl rfl rfl (q_call (CanCall.mk Tryz.call35) rfl (.cons rfl inferInstance (.cons rfl inferInstance (.nil))) (fun _ w hw => callq hw (needed_spec n k2 sv vs ls (by omega) w (stb_arg hw hm)))) ?_
    refine sr rfl rfl rfl ((q_assign rfl rfl)) (sw_nil (post_then (cw_seq (cw_region (sr rfl rfl rfl ((q_move rfl rfl)) (sr rfl rfl rfl ((q_eql rfl rfl rfl)) (sr rfl rfl rfl ((q_move rfl rfl)) (sr rfl rfl rfl ((q_move rfl rfl)) (sr rfl rfl rfl ((q_eql rfl rfl rfl)) (sr rfl rfl rfl ((q_or2 rfl rfl rfl)) (sw_nil (post_then ?_))))))))))))
    refine cw_cond rfl (fun h3 => ?_) (fun h3 => ?_)
    · skip
      exfalso
      rw [hg.1] at h3
      simp only [Bool.or_eq_true, decide_eq_true_eq] at h3
      rcases h3 with h3 | h3
      · exact hE h3
      · exact hg.2 h3
    · skip
      refine cw_skip (post_then (cw_seq (cw_region (sr rfl rfl rfl ((q_move rfl rfl)) (sr rfl rfl rfl ((q_move rfl rfl)) (sr rfl rfl rfl ((q_eql rfl rfl rfl)) (sr rfl rfl rfl ((q_move rfl rfl)) (sr rfl rfl rfl ((q_move rfl rfl)) (sr rfl rfl rfl ((q_move rfl rfl)) (sr rfl rfl rfl ((q_eql_b rfl rfl rfl Tryz.underlying4)) (sr rfl rfl rfl ((q_and2 rfl rfl rfl)) (sr rfl rfl rfl ((q_move rfl rfl)) (sw_step rfl rfl rfl (q_call (CanCall.mk Tryz.call18) rfl (.nil) (fun _ w hw => callq hw (known_spec w))) (sr rfl rfl rfl ((q_and2 rfl rfl rfl)) (sr rfl rfl rfl ((q_assign rfl rfl)) (sw_nil (post_then (cw_ret (post_ret1 rfl (resOk_tmp rfl) ?_)))))))))))))))))))
      exact fun w' hw => ⟨rfl, hw⟩
theorem lawProves_ok (n : Nat) (sv : SlV) (vs : List SlV) (ls : List (List Int)) (sp : SlV) (prices : List Int) (scale : Int) (w : World) (hm : Stb w [] (fun w' => Mt w' sv.v vs ls)) (hp : Stb w [] (RdL sp.v prices)) (hE : covE n ls 1000 = 0) :
    Calls Tryz.prog 8 #[.int .i64 n, sv.v, sp.v, .int .i64 scale] w fun e w' => e = .returned (.bool true) ∧ Cl w [] [] w' := by
  have hL := rd_len hp.here
  obtain ⟨q1, q2, q3, q4⟩ := covE_ok hE
  refine calls_cw (vs := [_, _, _, _]) Tryz.func8 rfl Tryz.ntmps8 rfl (Cl.start0 w) (cw_seq (cw_region (sr rfl rfl rfl ((q_assign rfl rfl)) (sw_nil (post_then (cw_seq (cw_seq (cw_region (sr rfl rfl rfl ((q_move rfl rfl)) (sr rfl rfl rfl ((q_move rfl rfl)) (sw_step rfl rfl rfl (q_call (CanCall.mk Tryz.call33) rfl (.cons rfl inferInstance (.cons rfl inferInstance (.cons rfl inferInstance (.nil)))) (fun _ w hw => callq hw (sets_spec n sv vs ls 8 w (stb_arg hw hm)))) (sr rfl rfl rfl ((q_not rfl rfl)) (sr rfl rfl rfl ((q_move rfl rfl)) (sr rfl rfl rfl ((q_move rfl rfl)) ?_))))))))))))))
  refine sr rfl rfl rfl ((q_len rfl (.cons rfl inferInstance (.nil)) (by exact fun w hw => Stb.cl (by assumption) hw))) ?_
  refine sr rfl rfl rfl ((q_gtr rfl rfl rfl)) (sr rfl rfl rfl ((q_or2 rfl rfl rfl)) (sw_nil (post_then ?_)))
  refine cw_cond rfl (fun h => ?_) (fun h => ?_)
  · skip
    refine cw_seq (cw_region (sw_step rfl rfl rfl (q_call (CanCall.mk Tryz.call18) rfl (.nil) (fun _ w hw => callq hw (known_spec w))) (sr rfl rfl rfl ((q_assign rfl rfl)) (sw_nil (post_then (cw_ret (post_then_r (post_ret1 rfl (resOk_tmp rfl) ?_))))))))
    exact fun w' hw => ⟨rfl, hw⟩
  · skip
    have hso : setsOk n ls 8 = true := by
      cases h2 : setsOk n ls 8
      · rw [h2] at h; simp at h
      · rfl
    obtain ⟨k1, k2⟩ := setsOk_of hso
    have hg := greedyE_ok hE
    refine cw_skip (post_then (cw_seq (cw_region (sr rfl rfl rfl ((q_move rfl rfl)) (sr rfl rfl rfl ((q_move rfl rfl)) (sr rfl rfl rfl ((q_move rfl rfl)) (sr rfl rfl rfl ((q_move rfl rfl)) ?_)))))))
    refine sw_step rfl rfl rfl (q_call (CanCall.mk Tryz.call39) rfl (.cons rfl inferInstance (.cons rfl inferInstance (.cons rfl inferInstance (.cons rfl inferInstance (.nil))))) (fun _ w hw => callq hw (proves_yes n (by omega) sv vs ls sp prices scale w (stb_arg hw hm) (stb_arg hw hp) hE))) ?_
    refine sr rfl rfl rfl ((q_move rfl rfl)) (sr rfl rfl rfl ((q_extract rfl rfl rfl)) (sr rfl rfl rfl ((q_extract rfl rfl rfl)) (sr rfl rfl rfl ((q_assign rfl rfl)) (sr rfl rfl rfl ((q_assign rfl rfl)) (sw_nil (post_then (cw_seq (cw_region (sr rfl rfl rfl ((q_assign rfl rfl)) (sr rfl rfl rfl ((q_assign rfl rfl)) (sw_nil (post_then (cw_seq (cw_seq (cw_region (sr rfl rfl rfl ((q_move rfl rfl)) (sr rfl rfl rfl ((q_move rfl rfl)) ?_)))))))))))))))))
    refine sw_step rfl rfl rfl (q_call (CanCall.mk Tryz.call35) rfl (.cons rfl inferInstance (.cons rfl inferInstance (.nil))) (fun _ w hw => callq hw (needed_spec n k2 sv vs ls (by omega) w (stb_arg hw hm)))) ?_
    refine sr rfl rfl rfl ((q_assign rfl rfl)) (sw_nil (post_then (cw_seq (cw_region (sr rfl rfl rfl ((q_move rfl rfl)) (sr rfl rfl rfl ((q_eql rfl rfl rfl)) (sr rfl rfl rfl ((q_move rfl rfl)) (sr rfl rfl rfl ((q_move rfl rfl)) (sr rfl rfl rfl ((q_eql rfl rfl rfl)) (sr rfl rfl rfl ((q_or2 rfl rfl rfl)) (sw_nil (post_then ?_))))))))))))
    refine cw_cond rfl (fun h3 => ?_) (fun h3 => ?_)
    · skip
      refine cw_region (sr rfl rfl rfl ((q_move rfl rfl)) (sr rfl rfl rfl ((q_move rfl rfl)) (sr rfl rfl rfl ((q_move rfl rfl)) (sr rfl rfl rfl ((q_move rfl rfl)) ?_))))
      refine sw_step rfl rfl rfl (q_call (CanCall.mk Tryz.call40) rfl (.cons rfl inferInstance (.cons rfl inferInstance (.cons rfl inferInstance (.cons rfl inferInstance (.nil))))) (fun _ w hw => callq hw (refProves_spec n (by omega) sv vs ls q4 sp prices scale w (stb_arg hw hm) (stb_arg hw hp)))) ?_
      refine sr rfl rfl rfl ((q_move rfl rfl)) (sr rfl rfl rfl ((q_extract rfl rfl rfl)) (sr rfl rfl rfl ((q_extract rfl rfl rfl)) (sr rfl rfl rfl ((q_assign rfl rfl)) (sr rfl rfl rfl ((q_assign rfl rfl)) (sw_nil (post_then (cw_seq (cw_region (sr rfl rfl rfl ((q_move rfl rfl)) (sr rfl rfl rfl ((q_move rfl rfl)) (sr rfl rfl rfl ((q_eql rfl rfl rfl)) (sr rfl rfl rfl ((q_move rfl rfl)) (sr rfl rfl rfl ((q_move rfl rfl)) (sr rfl rfl rfl ((q_move rfl rfl)) (sr rfl rfl rfl ((q_eql_b rfl rfl rfl Tryz.underlying4)) (sr rfl rfl rfl ((q_and2 rfl rfl rfl)) (sr rfl rfl rfl ((q_move rfl rfl)) (sw_step rfl rfl rfl (q_call (CanCall.mk Tryz.call18) rfl (.nil) (fun _ w hw => callq hw (known_spec w))) (sr rfl rfl rfl ((q_and2 rfl rfl rfl)) (sr rfl rfl rfl ((q_assign rfl rfl)) (sw_nil (post_then (cw_ret (post_ret1 rfl (resOk_tmp rfl) ?_))))))))))))))))))))))))
      exact fun w' hw => ⟨by simp, hw⟩
    · skip
      exfalso
      rw [hg] at h3
      cases h4 : possN n (msOf ls) <;> rw [h4] at h3 <;> simp at h3
theorem lawProves (n : Int) (hn : -9223372036854775808 ≤ n) (sv : SlV) (vs : List SlV) (ls : List (List Int)) (sp : SlV) (prices : List Int) (scale : Int) (w : World) (hm : Stb w [] (fun w' => Mt w' sv.v vs ls)) (hp : Stb w [] (RdL sp.v prices)) :
    Calls Tryz.prog 8 #[.int .i64 n, sv.v, sp.v, .int .i64 scale] w fun e w' => e = .returned (.bool true) ∧ Cl w [] [] w' := by
  by_cases hE : covE n ls 1000 = 0
  · obtain ⟨m, rfl⟩ : ∃ m : Nat, n = m := ⟨n.toNat, by have := (covE_ok hE).2.2.1; omega⟩
    exact lawProves_ok m sv vs ls sp prices scale w hm hp hE
  · exact lawProves_bad n hn sv vs ls sp prices scale w hm hp hE
end Go.Proofs.YtomjbfeafodfbaaGreat

set_option autoImplicit false
set_option maxRecDepth 100000
namespace Go.Proofs.YtomjbfeafodfbaaGreat
open Go.Sx
open Enc (enc val)
theorem lawPrices_bad (n : Int) (hn : -9223372036854775808 ≤ (n : Int)) (sv : SlV) (vs : List SlV) (ls : List (List Int)) (w : World) (hm : Stb w [] (fun w' => Mt w' sv.v vs ls)) (hE : covE n ls 1000 ≠ 0) :
    Calls Tryz.prog 7 #[.int .i64 n, sv.v] w fun e w' => e = .returned (.bool true) ∧ Cl w [] [] w' := by
  refine calls_cw (vs := [_, _]) Tryz.func7 rfl Tryz.ntmps7 rfl (Cl.start0 w) (cw_seq (cw_region (sr rfl rfl rfl ((q_assign rfl rfl)) (sw_nil (post_then (cw_seq (cw_seq (cw_region (sr rfl rfl rfl ((q_move rfl rfl)) (sr rfl rfl rfl ((q_move rfl rfl)) (sw_step rfl rfl rfl (q_call (CanCall.mk Tryz.call33) rfl (.cons rfl inferInstance (.cons rfl inferInstance (.cons rfl inferInstance (.nil)))) (fun _ w hw => callq hw (sets_spec n sv vs ls 8 w (stb_arg hw hm)))) (sr rfl rfl rfl ((q_not rfl rfl)) (sw_nil (post_then ?_))))))))))))))
  refine cw_cond rfl (fun h => ?_) (fun h => ?_)
  · skip
    refine cw_seq (cw_region (sw_step rfl rfl rfl (q_call (CanCall.mk Tryz.call18) rfl (.nil) (fun _ w hw => callq hw (known_spec w))) (sr rfl rfl rfl ((q_assign rfl rfl)) (sw_nil (post_then (cw_ret (post_then_r (post_ret1 rfl (resOk_tmp rfl) ?_))))))))
    exact fun w' hw => ⟨rfl, hw⟩
  · skip
    have hso : setsOk n ls 8 = true := by
      cases h2 : setsOk n ls 8
      · rw [h2] at h; simp at h
      · rfl
    obtain ⟨k1, k2⟩ := setsOk_of hso
    have hg := greedyE_bad hE
    refine cw_skip (post_then (cw_seq (cw_region (sr rfl rfl rfl ((q_move rfl rfl)) (sr rfl rfl rfl ((q_move rfl rfl)) (sw_step rfl rfl rfl (q_call (CanCall.mk Tryz.call34) rfl (.cons rfl inferInstance (.cons rfl inferInstance (.nil))) (fun _ w hw => callq (v := .tuple #[SlV.v ⟨none, 0, 0⟩, .int .i64 0, .int .i64 (covE n ls 1000)]) hw (price_bad n hn sv vs ls w (stb_arg hw hm) hE))) (sr rfl rfl rfl ((q_move rfl rfl)) (sr rfl rfl rfl ((q_extract rfl rfl rfl)) (sr rfl rfl rfl ((q_extract rfl rfl rfl)) (sr rfl rfl rfl ((q_extract rfl rfl rfl)) (sr rfl rfl rfl ((q_assign rfl rfl)) (sr rfl rfl rfl ((q_assign rfl rfl)) (sr rfl rfl rfl ((q_assign rfl rfl)) (sw_nil (post_then (cw_seq (cw_region (sr rfl rfl rfl ((q_move rfl rfl)) (sr rfl rfl rfl ((q_move rfl rfl)) ?_)))))))))))))))))))
    refine sw_step rfl rfl rfl (q_call (CanCall.mk Tryz.call35) rfl (.cons rfl inferInstance (.cons rfl inferInstance (.nil))) (fun _ w hw => callq hw (needed_spec n k2 sv vs ls (by omega) w (stb_arg hw hm)))) ?_
    refine sr rfl rfl rfl ((q_assign rfl rfl)) (sw_nil (post_then (cw_seq (cw_seq (cw_region (sr rfl rfl rfl ((q_move rfl rfl)) (sr rfl rfl rfl ((q_eql rfl rfl rfl)) (sr rfl rfl rfl ((q_move rfl rfl)) (sr rfl rfl rfl ((q_move rfl rfl)) (sr rfl rfl rfl ((q_eql rfl rfl rfl)) (sr rfl rfl rfl ((q_or2 rfl rfl rfl)) (sr rfl rfl rfl ((q_move rfl rfl)) (sr rfl rfl rfl ((q_move rfl rfl)) (sr rfl rfl rfl ((q_move rfl rfl)) ?_))))))))))))))
    have hno : (decide (greedyE n ls = 0) || decide (greedyE n ls = 5)) = false := by
      rw [hg.1, decide_eq_false hE, decide_eq_false hg.2]; rfl
    rw [hno]
    refine sr rfl rfl rfl ((q_off (v := .int .i64 0) (by simp [AllT]))) ?_
    refine sr rfl rfl rfl ((q_gtr rfl rfl rfl)) (sr rfl rfl rfl ((q_and2 rfl rfl rfl)) (sw_nil (post_then ?_)))
    refine cw_cond rfl (fun h3 => ?_) (fun h3 => ?_)
    · skip
      simp at h3
    · skip
      rw [hg.1]
      refine cw_skip (post_then (cw_seq (cw_seq (cw_region (sr rfl rfl rfl ((q_move rfl rfl)) (sr rfl rfl rfl ((q_neq rfl rfl rfl)) (sw_nil (post_then ?_))))))))
      refine cw_cond rfl (fun h4 => ?_) (fun h4 => ?_)
      · skip
        refine cw_seq (cw_region (sr rfl rfl rfl ((q_move rfl rfl)) (sr rfl rfl rfl ((q_move rfl rfl)) (sr rfl rfl rfl ((q_eql rfl rfl rfl)) (sr rfl rfl rfl ((q_move rfl rfl)) (sr rfl rfl rfl ((q_move rfl rfl)) (sr rfl rfl rfl ((q_lenV rfl (.cons rfl inferInstance (.nil)))) (sr rfl rfl rfl ((q_eql rfl rfl rfl)) (sr rfl rfl rfl ((q_and2 rfl rfl rfl)) (sr rfl rfl rfl ((q_move rfl rfl)) (sr rfl rfl rfl ((q_move rfl rfl)) (sr rfl rfl rfl ((q_eql rfl rfl rfl)) (sr rfl rfl rfl ((q_and2 rfl rfl rfl)) (sr rfl rfl rfl ((q_move rfl rfl)) (sw_step rfl rfl rfl (q_call (CanCall.mk Tryz.call18) rfl (.nil) (fun _ w hw => callq hw (known_spec w))) (sr rfl rfl rfl ((q_and2 rfl rfl rfl)) (sr rfl rfl rfl ((q_assign rfl rfl)) (sw_nil (post_then (cw_ret (post_then_r (post_ret1 rfl (resOk_tmp rfl) ?_))))))))))))))))))))))
        exact fun w' hw => ⟨by simp, hw⟩
      · skip
        simp only [Bool.not_eq_false', decide_eq_true_eq] at h4
        exact absurd h4 hE
theorem lawPrices_wide (n : Nat) (hn : -9223372036854775808 ≤ (n : Int)) (sv : SlV) (vs : List SlV) (ls : List (List Int)) (w : World) (hm : Stb w [] (fun w' => Mt w' sv.v vs ls)) (hE : covE n ls 1000 = 0) (h12 : 12 < wid (msOf ls)) :
    Calls Tryz.prog 7 #[.int .i64 n, sv.v] w fun e w' => e = .returned (.bool true) ∧ Cl w [] [] w' := by
  refine calls_cw (vs := [_, _]) Tryz.func7 rfl Tryz.ntmps7 rfl (Cl.start0 w) (cw_seq (cw_region (sr rfl rfl rfl ((q_assign rfl rfl)) (sw_nil (post_then (cw_seq (cw_seq (cw_region (sr rfl rfl rfl ((q_move rfl rfl)) (sr rfl rfl rfl ((q_move rfl rfl)) (sw_step rfl rfl rfl (q_call (CanCall.mk Tryz.call33) rfl (.cons rfl inferInstance (.cons rfl inferInstance (.cons rfl inferInstance (.nil)))) (fun _ w hw => callq hw (sets_spec n sv vs ls 8 w (stb_arg hw hm)))) (sr rfl rfl rfl ((q_not rfl rfl)) (sw_nil (post_then ?_))))))))))))))
  refine cw_cond rfl (fun h => ?_) (fun h => ?_)
  · skip
    refine cw_seq (cw_region (sw_step rfl rfl rfl (q_call (CanCall.mk Tryz.call18) rfl (.nil) (fun _ w hw => callq hw (known_spec w))) (sr rfl rfl rfl ((q_assign rfl rfl)) (sw_nil (post_then (cw_ret (post_then_r (post_ret1 rfl (resOk_tmp rfl) ?_))))))))
    exact fun w' hw => ⟨rfl, hw⟩
  · skip
    have hso : setsOk n ls 8 = true := by
      cases h2 : setsOk n ls 8
      · rw [h2] at h; simp at h
      · rfl
    obtain ⟨k1, k2⟩ := setsOk_of hso
    obtain ⟨q1, q2, q3, q4⟩ := covE_ok hE
    have hg : decide (greedyE n ls = 0) || decide (greedyE n ls = 5) := by rw [greedyE_ok hE]; split <;> rfl
    refine cw_skip (post_then (cw_seq (cw_region (sr rfl rfl rfl ((q_move rfl rfl)) (sr rfl rfl rfl ((q_move rfl rfl)) ?_)))))
    refine sw_step rfl rfl rfl (q_call (CanCall.mk Tryz.call34) rfl (.cons rfl inferInstance (.cons rfl inferInstance (.nil))) (fun _ w hw => callq (v := .tuple #[SlV.v ⟨none, 0, 0⟩, .int .i64 0, .int .i64 2]) hw (price_wide n (by omega) sv vs ls w (stb_arg hw hm) hE h12))) ?_
    refine sr rfl rfl rfl ((q_move rfl rfl)) (sr rfl rfl rfl ((q_extract rfl rfl rfl)) (sr rfl rfl rfl ((q_extract rfl rfl rfl)) (sr rfl rfl rfl ((q_extract rfl rfl rfl)) (sr rfl rfl rfl ((q_assign rfl rfl)) (sr rfl rfl rfl ((q_assign rfl rfl)) (sr rfl rfl rfl ((q_assign rfl rfl)) (sw_nil (post_then (cw_seq (cw_region (sr rfl rfl rfl ((q_move rfl rfl)) (sr rfl rfl rfl ((q_move rfl rfl)) ?_))))))))))))
    refine sw_step rfl rfl rfl (q_call (CanCall.mk Tryz.call35) rfl (.cons rfl inferInstance (.cons rfl inferInstance (.nil))) (fun _ w hw => callq hw (needed_spec n k2 sv vs ls (by omega) w (stb_arg hw hm)))) ?_
    refine sr rfl rfl rfl ((q_assign rfl rfl)) (sw_nil (post_then (cw_seq (cw_seq (cw_region (sr rfl rfl rfl ((q_move rfl rfl)) (sr rfl rfl rfl ((q_eql rfl rfl rfl)) (sr rfl rfl rfl ((q_move rfl rfl)) (sr rfl rfl rfl ((q_move rfl rfl)) (sr rfl rfl rfl ((q_eql rfl rfl rfl)) (sr rfl rfl rfl ((q_or2 rfl rfl rfl)) (sr rfl rfl rfl ((q_move rfl rfl)) (sr rfl rfl rfl ((q_move rfl rfl)) (sr rfl rfl rfl ((q_move rfl rfl)) ?_))))))))))))))
    refine sw_step rfl rfl rfl (q_call (CanCall.mk Tryz.call36) rfl (.cons rfl inferInstance (.cons rfl inferInstance (.nil))) (fun _ w hw => callq hw (widest_spec n (by omega) sv vs ls q4 w (stb_arg hw hm)))) ?_
    refine sr rfl rfl rfl ((q_gtr rfl rfl rfl)) (sr rfl rfl rfl ((q_and2 rfl rfl rfl)) (sw_nil (post_then ?_)))
    rw [hg]
    refine cw_cond rfl (fun h3 => ?_) (fun h3 => ?_)
    · skip
      refine cw_region (sr rfl rfl rfl ((q_assign rfl rfl)) (sw_nil (post_then (cw_seq (cw_seq (cw_region (sr rfl rfl rfl ((q_move rfl rfl)) (sr rfl rfl rfl ((q_neq rfl rfl rfl)) (sw_nil (post_then ?_))))))))))
      refine cw_cond rfl (fun h4 => ?_) (fun h4 => ?_)
      · skip
        refine cw_seq (cw_region (sr rfl rfl rfl ((q_move rfl rfl)) (sr rfl rfl rfl ((q_move rfl rfl)) (sr rfl rfl rfl ((q_eql rfl rfl rfl)) (sr rfl rfl rfl ((q_move rfl rfl)) (sr rfl rfl rfl ((q_move rfl rfl)) (sr rfl rfl rfl ((q_lenV rfl (.cons rfl inferInstance (.nil)))) (sr rfl rfl rfl ((q_eql rfl rfl rfl)) (sr rfl rfl rfl ((q_and2 rfl rfl rfl)) (sr rfl rfl rfl ((q_move rfl rfl)) (sr rfl rfl rfl ((q_move rfl rfl)) (sr rfl rfl rfl ((q_eql rfl rfl rfl)) (sr rfl rfl rfl ((q_and2 rfl rfl rfl)) (sr rfl rfl rfl ((q_move rfl rfl)) (sw_step rfl rfl rfl (q_call (CanCall.mk Tryz.call18) rfl (.nil) (fun _ w hw => callq hw (known_spec w))) (sr rfl rfl rfl ((q_and2 rfl rfl rfl)) (sr rfl rfl rfl ((q_assign rfl rfl)) (sw_nil (post_then (cw_ret (post_then_r (post_ret1 rfl (resOk_tmp rfl) ?_))))))))))))))))))))))
        exact fun w' hw => ⟨by simp, hw⟩
      · skip
        simp at h4
    · skip
      simp at h3; omega
theorem lawPrices_none (n : Nat) (hn : -9223372036854775808 ≤ (n : Int)) (sv : SlV) (vs : List SlV) (ls : List (List Int)) (w : World) (hm : Stb w [] (fun w' => Mt w' sv.v vs ls)) (hE : covE n ls 1000 = 0) (h12 : wid (msOf ls) ≤ 12) (hP : possN n (msOf ls) = false) :
    Calls Tryz.prog 7 #[.int .i64 n, sv.v] w fun e w' => e = .returned (.bool true) ∧ Cl w [] [] w' := by
  refine calls_cw (vs := [_, _]) Tryz.func7 rfl Tryz.ntmps7 rfl (Cl.start0 w) (cw_seq (cw_region (sr rfl rfl rfl ((q_assign rfl rfl)) (sw_nil (post_then (cw_seq (cw_seq (cw_region (sr rfl rfl rfl ((q_move rfl rfl)) (sr rfl rfl rfl ((q_move rfl rfl)) (sw_step rfl rfl rfl (q_call (CanCall.mk Tryz.call33) rfl (.cons rfl inferInstance (.cons rfl inferInstance (.cons rfl inferInstance (.nil)))) (fun _ w hw => callq hw (sets_spec n sv vs ls 8 w (stb_arg hw hm)))) (sr rfl rfl rfl ((q_not rfl rfl)) (sw_nil (post_then ?_))))))))))))))
  refine cw_cond rfl (fun h => ?_) (fun h => ?_)
  · skip
    refine cw_seq (cw_region (sw_step rfl rfl rfl (q_call (CanCall.mk Tryz.call18) rfl (.nil) (fun _ w hw => callq hw (known_spec w))) (sr rfl rfl rfl ((q_assign rfl rfl)) (sw_nil (post_then (cw_ret (post_then_r (post_ret1 rfl (resOk_tmp rfl) ?_))))))))
    exact fun w' hw => ⟨rfl, hw⟩
  · skip
    have hso : setsOk n ls 8 = true := by
      cases h2 : setsOk n ls 8
      · rw [h2] at h; simp at h
      · rfl
    obtain ⟨k1, k2⟩ := setsOk_of hso
    obtain ⟨q1, q2, q3, q4⟩ := covE_ok hE
    have hg : greedyE n ls = 5 := by rw [greedyE_ok hE, hP]; rfl
    refine cw_skip (post_then (cw_seq (cw_region (sr rfl rfl rfl ((q_move rfl rfl)) (sr rfl rfl rfl ((q_move rfl rfl)) ?_)))))
    refine sw_step rfl rfl rfl (q_call (CanCall.mk Tryz.call34) rfl (.cons rfl inferInstance (.cons rfl inferInstance (.nil))) (fun _ w hw => callq (v := .tuple #[SlV.v ⟨none, 0, 0⟩, .int .i64 0, .int .i64 5]) hw (price_none n (by omega) sv vs ls w (stb_arg hw hm) hE h12 hP))) ?_
    refine sr rfl rfl rfl ((q_move rfl rfl)) (sr rfl rfl rfl ((q_extract rfl rfl rfl)) (sr rfl rfl rfl ((q_extract rfl rfl rfl)) (sr rfl rfl rfl ((q_extract rfl rfl rfl)) (sr rfl rfl rfl ((q_assign rfl rfl)) (sr rfl rfl rfl ((q_assign rfl rfl)) (sr rfl rfl rfl ((q_assign rfl rfl)) (sw_nil (post_then (cw_seq (cw_region (sr rfl rfl rfl ((q_move rfl rfl)) (sr rfl rfl rfl ((q_move rfl rfl)) ?_))))))))))))
    refine sw_step rfl rfl rfl (q_call (CanCall.mk Tryz.call35) rfl (.cons rfl inferInstance (.cons rfl inferInstance (.nil))) (fun _ w hw => callq hw (needed_spec n k2 sv vs ls (by omega) w (stb_arg hw hm)))) ?_
    refine sr rfl rfl rfl ((q_assign rfl rfl)) (sw_nil (post_then (cw_seq (cw_seq (cw_region (sr rfl rfl rfl ((q_move rfl rfl)) (sr rfl rfl rfl ((q_eql rfl rfl rfl)) (sr rfl rfl rfl ((q_move rfl rfl)) (sr rfl rfl rfl ((q_move rfl rfl)) (sr rfl rfl rfl ((q_eql rfl rfl rfl)) (sr rfl rfl rfl ((q_or2 rfl rfl rfl)) (sr rfl rfl rfl ((q_move rfl rfl)) (sr rfl rfl rfl ((q_move rfl rfl)) (sr rfl rfl rfl ((q_move rfl rfl)) ?_))))))))))))))
    refine sw_step rfl rfl rfl (q_call (CanCall.mk Tryz.call36) rfl (.cons rfl inferInstance (.cons rfl inferInstance (.nil))) (fun _ w hw => callq hw (widest_spec n (by omega) sv vs ls q4 w (stb_arg hw hm)))) ?_
    refine sr rfl rfl rfl ((q_gtr rfl rfl rfl)) (sr rfl rfl rfl ((q_and2 rfl rfl rfl)) (sw_nil (post_then ?_)))
    rw [hg]
    refine cw_cond rfl (fun h3 => ?_) (fun h3 => ?_)
    · skip
      simp at h3; omega
    · skip
      refine cw_skip (post_then (cw_seq (cw_seq (cw_region (sr rfl rfl rfl ((q_move rfl rfl)) (sr rfl rfl rfl ((q_neq rfl rfl rfl)) (sw_nil (post_then ?_))))))))
      refine cw_cond rfl (fun h4 => ?_) (fun h4 => ?_)
      · skip
        refine cw_seq (cw_region (sr rfl rfl rfl ((q_move rfl rfl)) (sr rfl rfl rfl ((q_move rfl rfl)) (sr rfl rfl rfl ((q_eql rfl rfl rfl)) (sr rfl rfl rfl ((q_move rfl rfl)) (sr rfl rfl rfl ((q_move rfl rfl)) (sr rfl rfl rfl ((q_lenV rfl (.cons rfl inferInstance (.nil)))) (sr rfl rfl rfl ((q_eql rfl rfl rfl)) (sr rfl rfl rfl ((q_and2 rfl rfl rfl)) (sr rfl rfl rfl ((q_move rfl rfl)) (sr rfl rfl rfl ((q_move rfl rfl)) (sr rfl rfl rfl ((q_eql rfl rfl rfl)) (sr rfl rfl rfl ((q_and2 rfl rfl rfl)) (sr rfl rfl rfl ((q_move rfl rfl)) (sw_step rfl rfl rfl (q_call (CanCall.mk Tryz.call18) rfl (.nil) (fun _ w hw => callq hw (known_spec w))) (sr rfl rfl rfl ((q_and2 rfl rfl rfl)) (sr rfl rfl rfl ((q_assign rfl rfl)) (sw_nil (post_then (cw_ret (post_then_r (post_ret1 rfl (resOk_tmp rfl) ?_))))))))))))))))))))))
        exact fun w' hw => ⟨by simp, hw⟩
      · skip
        simp at h4
theorem lawPrices_yes (n : Nat) (hn : -9223372036854775808 ≤ (n : Int)) (sv : SlV) (vs : List SlV) (ls : List (List Int)) (w : World) (hm : Stb w [] (fun w' => Mt w' sv.v vs ls)) (hE : covE n ls 1000 = 0) (h12 : wid (msOf ls) ≤ 12) (hP : possN n (msOf ls) = true) :
    Calls Tryz.prog 7 #[.int .i64 n, sv.v] w fun e w' => e = .returned (.bool true) ∧ Cl w [] [] w' := by
  refine calls_cw (vs := [_, _]) Tryz.func7 rfl Tryz.ntmps7 rfl (Cl.start0 w) (cw_seq (cw_region (sr rfl rfl rfl ((q_assign rfl rfl)) (sw_nil (post_then (cw_seq (cw_seq (cw_region (sr rfl rfl rfl ((q_move rfl rfl)) (sr rfl rfl rfl ((q_move rfl rfl)) (sw_step rfl rfl rfl (q_call (CanCall.mk Tryz.call33) rfl (.cons rfl inferInstance (.cons rfl inferInstance (.cons rfl inferInstance (.nil)))) (fun _ w hw => callq hw (sets_spec n sv vs ls 8 w (stb_arg hw hm)))) (sr rfl rfl rfl ((q_not rfl rfl)) (sw_nil (post_then ?_))))))))))))))
  refine cw_cond rfl (fun h => ?_) (fun h => ?_)
  · skip
    refine cw_seq (cw_region (sw_step rfl rfl rfl (q_call (CanCall.mk Tryz.call18) rfl (.nil) (fun _ w hw => callq hw (known_spec w))) (sr rfl rfl rfl ((q_assign rfl rfl)) (sw_nil (post_then (cw_ret (post_then_r (post_ret1 rfl (resOk_tmp rfl) ?_))))))))
    exact fun w' hw => ⟨rfl, hw⟩
  · skip
    have hso : setsOk n ls 8 = true := by
      cases h2 : setsOk n ls 8
      · rw [h2] at h; simp at h
      · rfl
    obtain ⟨k1, k2⟩ := setsOk_of hso
    obtain ⟨q1, q2, q3, q4⟩ := covE_ok hE
    have hg : greedyE n ls = 0 := by rw [greedyE_ok hE, hP]; rfl
    refine cw_skip (post_then (cw_seq (cw_region (sr rfl rfl rfl ((q_move rfl rfl)) (sr rfl rfl rfl ((q_move rfl rfl)) ?_)))))
    refine sw_x rfl rfl rfl (e_call (CanCall.mk Tryz.call34) rfl (.cons rfl inferInstance (.cons rfl inferInstance (.nil))) (fun w hw => price_yes n (by omega) sv vs ls w (stb_arg hw hm) hE (by omega) h12 hP)) (fun z => ?_)
    refine sw_imp fun hz => ?_
    obtain ⟨sp, ⟨lp, ⟨kp, lq⟩⟩⟩ := z
    dsimp only at hz ⊢
    obtain ⟨hz1, hz2⟩ := hz
    refine sr rfl rfl rfl ((q_move rfl rfl)) (sr rfl rfl rfl ((q_extract rfl rfl rfl)) (sr rfl rfl rfl ((q_extract rfl rfl rfl)) (sr rfl rfl rfl ((q_extract rfl rfl rfl)) (sr rfl rfl rfl ((q_assign rfl rfl)) (sr rfl rfl rfl ((q_assign rfl rfl)) (sr rfl rfl rfl ((q_assign rfl rfl)) (sw_nil (post_then (cw_seq (cw_region (sr rfl rfl rfl ((q_move rfl rfl)) (sr rfl rfl rfl ((q_move rfl rfl)) ?_))))))))))))
    refine sw_step rfl rfl rfl (q_call (CanCall.mk Tryz.call35) rfl (.cons rfl inferInstance (.cons rfl inferInstance (.nil))) (fun _ w hw => callq hw (needed_spec n k2 sv vs ls (by omega) w (stb_arg hw hm)))) ?_
    refine sr rfl rfl rfl ((q_assign rfl rfl)) (sw_nil (post_then (cw_seq (cw_seq (cw_region (sr rfl rfl rfl ((q_move rfl rfl)) (sr rfl rfl rfl ((q_eql rfl rfl rfl)) (sr rfl rfl rfl ((q_move rfl rfl)) (sr rfl rfl rfl ((q_move rfl rfl)) (sr rfl rfl rfl ((q_eql rfl rfl rfl)) (sr rfl rfl rfl ((q_or2 rfl rfl rfl)) (sr rfl rfl rfl ((q_move rfl rfl)) (sr rfl rfl rfl ((q_move rfl rfl)) (sr rfl rfl rfl ((q_move rfl rfl)) ?_))))))))))))))
    refine sw_step rfl rfl rfl (q_call (CanCall.mk Tryz.call36) rfl (.cons rfl inferInstance (.cons rfl inferInstance (.nil))) (fun _ w hw => callq hw (widest_spec n (by omega) sv vs ls q4 w (stb_arg hw hm)))) ?_
    refine sr rfl rfl rfl ((q_gtr rfl rfl rfl)) (sr rfl rfl rfl ((q_and2 rfl rfl rfl)) (sw_nil (post_then ?_)))
    rw [hg]
    refine cw_cond rfl (fun h3 => ?_) (fun h3 => ?_)
    · skip
      simp at h3; omega
    · skip
      refine cw_skip (post_then (cw_seq (cw_seq (cw_region (sr rfl rfl rfl ((q_move rfl rfl)) (sr rfl rfl rfl ((q_neq rfl rfl rfl)) (sw_nil (post_then ?_))))))))
      refine cw_cond rfl (fun h4 => ?_) (fun h4 => ?_)
      · skip
        simp at h4
      · skip
        refine cw_skip (post_then (cw_seq (cw_region (sr rfl rfl rfl ((q_move rfl rfl)) (sr rfl rfl rfl ((q_move rfl rfl)) ?_)))))
        refine sw_x rfl rfl rfl (e_call (CanCall.mk Tryz.call37) rfl (.cons rfl inferInstance (.cons rfl inferInstance (.nil))) (fun w hw => refGreedy_yes n (by omega) sv vs ls (by omega) q4 w (stb_arg hw hm) hP)) (fun z => ?_)
        refine sw_imp fun hz => ?_
        obtain ⟨⟨so, sr⟩, kr⟩ := z
        dsimp only at hz ⊢
        obtain rfl := done_one hz2.ok hz2.full hz.ok hz.full
        refine sr rfl rfl rfl ((q_move rfl rfl)) (sr rfl rfl rfl ((q_extract rfl rfl rfl)) (sr rfl rfl rfl ((q_extract rfl rfl rfl)) (sr rfl rfl rfl ((q_extract rfl rfl rfl)) (sr rfl rfl rfl ((q_assign rfl rfl)) (sr rfl rfl rfl ((q_assign rfl rfl)) (sr rfl rfl rfl ((q_assign rfl rfl)) (sw_nil (post_then (cw_seq (cw_region (sr rfl rfl rfl ((q_move rfl rfl)) (sr rfl rfl rfl ((q_eql rfl rfl rfl)) (sr rfl rfl rfl ((q_move rfl rfl)) (sr rfl rfl rfl ((q_move rfl rfl)) (sr rfl rfl rfl ((q_move rfl rfl)) ?_)))))))))))))))
        refine sw_step rfl rfl rfl (q_call (CanCall.mk Tryz.call23) rfl (.cons rfl inferInstance (.cons rfl inferInstance (.nil))) (fun _ w hw => callq hw (same_true _ _ lp (priceL (giter n (msOf ls) kp).sh) hz1 w (stb_own (e := 3) hw (by exact .tail _ (.tail _ (.head _)))) (stb_own (e := 3) hw (by exact .tail _ (.head _)))))) ?_
        refine sr rfl rfl rfl ((q_and2 rfl rfl rfl)) (sr rfl rfl rfl ((q_move rfl rfl)) (sr rfl rfl rfl ((q_move rfl rfl)) (sr rfl rfl rfl ((q_move rfl rfl)) (sr rfl rfl rfl ((q_move rfl rfl)) ?_))))
        refine sw_step rfl rfl rfl (q_call (CanCall.mk Tryz.call36) rfl (.cons rfl inferInstance (.cons rfl inferInstance (.nil))) (fun _ w hw => callq hw (widest_spec n (by omega) sv vs ls q4 w (stb_arg hw hm)))) ?_
        refine sw_step rfl rfl rfl (q_call (CanCall.mk Tryz.call38) rfl (.cons rfl inferInstance (.nil)) (fun _ w hw => callq hw (scale_spec (wid (msOf ls)) (by omega) w))) ?_
        refine sr rfl rfl rfl ((q_eql rfl rfl rfl)) (sr rfl rfl rfl ((q_and2 rfl rfl rfl)) (sr rfl rfl rfl ((q_move rfl rfl)) (sw_step rfl rfl rfl (q_call (CanCall.mk Tryz.call18) rfl (.nil) (fun _ w hw => callq hw (known_spec w))) (sr rfl rfl rfl ((q_and2 rfl rfl rfl)) (sr rfl rfl rfl ((q_assign rfl rfl)) (sw_nil (post_then (cw_ret (post_ret1 rfl (resOk_tmp rfl) ?_)))))))))
        exact fun w' hw => ⟨by simp, (fun w h => Cl.sel (by exact .nil _) w h) _ hw⟩
theorem lawPrices (n : Int) (hn : -9223372036854775808 ≤ n) (sv : SlV) (vs : List SlV) (ls : List (List Int)) (w : World) (hm : Stb w [] (fun w' => Mt w' sv.v vs ls)) :
    Calls Tryz.prog 7 #[.int .i64 n, sv.v] w fun e w' => e = .returned (.bool true) ∧ Cl w [] [] w' := by
  by_cases hE : covE n ls 1000 = 0
  · obtain ⟨m, rfl⟩ : ∃ m : Nat, n = m := ⟨n.toNat, by have := (covE_ok hE).2.2.1; omega⟩
    by_cases h12 : 12 < wid (msOf ls)
    · exact lawPrices_wide m hn sv vs ls w hm hE h12
    · cases hP : possN m (msOf ls)
      · exact lawPrices_none m hn sv vs ls w hm hE (by omega) hP
      · exact lawPrices_yes m hn sv vs ls w hm hE (by omega) hP
  · exact lawPrices_bad n hn sv vs ls w hm hE
end Go.Proofs.YtomjbfeafodfbaaGreat

/- Prices prove bounds on covers; the greedy cover's prices. Plain lemmas, no program text. -/
set_option autoImplicit false
namespace Go.Sx
theorem psum_full (l : List Int) (n : Nat) : ∀ k, k ≤ n → psum l (fullN n) k = sumTo l k
  | 0, _ => rfl
  | k + 1, h => by rw [psum, sumTo, psum_full l n k (by omega), fullN_bit, if_pos (by simp; omega)]
theorem psum_or {l : List Int} (h : ∀ k, 0 ≤ nth l k) (a b : Nat) : ∀ k, psum l (a ||| b) k ≤ psum l a k + psum l b k
  | 0 => by simp [psum]
  | k + 1 => by
    have ih := psum_or h a b k
    have hk := h k
    simp only [psum, Nat.testBit_or, Bool.or_eq_true]
    by_cases h1 : a.testBit k = true <;> by_cases h2 : b.testBit k = true <;> simp only [h1, h2, if_true, or_true, true_or, or_self, if_false] <;> simp <;> omega
theorem psum_mono {l : List Int} (h : ∀ k, 0 ≤ nth l k) {a b : Nat} (hab : ∀ i, a.testBit i = true → b.testBit i = true) : ∀ k, psum l a k ≤ psum l b k
  | 0 => by simp [psum]
  | k + 1 => by
    have ih := psum_mono h hab k
    have hk := h k
    have hb := hab k
    simp only [psum]
    by_cases h1 : a.testBit k = true
    · rw [if_pos h1, if_pos (hb h1)]; omega
    · rw [if_neg h1]; split <;> omega
/-- All the numbers of some sets. -/
def unL (ms : List Nat) : List Int → Nat
  | [] => 0
  | i :: c => nth ms i.toNat ||| unL ms c
theorem unL_bit (ms : List Nat) (x : Nat) : ∀ c : List Int, (unL ms c).testBit x = true ↔ ∃ i ∈ c, (nth ms i.toNat).testBit x = true
  | [] => by simp [unL]
  | i :: c => by rw [unL, Nat.testBit_or, Bool.or_eq_true, unL_bit ms x c]; simp
def Cvr (n : Nat) (ms : List Nat) (c : List Int) : Prop := ∀ x, x < n → (unL ms c).testBit x = true
/-- Each set costs at most the scale: so no cover has few sets. -/
theorem cover_bound {n : Nat} {ms : List Nat} {l : List Int} {s : Int} (h0 : ∀ k, 0 ≤ nth l k) (hs0 : 0 ≤ s) (hs : ∀ i, i < ms.length → psum l (nth ms i) n ≤ s) {c : List Int} (hc : Cvr n ms c) : sumTo l n ≤ s * c.length := by
  have key : ∀ c : List Int, psum l (unL ms c) n ≤ s * c.length := by
    intro c
    induction c with
    | nil =>
      have : ∀ q, psum l 0 q = 0 := by
        intro q
        induction q with
        | zero => rfl
        | succ q ih => simp [psum, ih]
      simp [unL, this]
    | cons i c ih =>
      have h1 := psum_or h0 (nth ms i.toNat) (unL ms c) n
      have h2 : psum l (nth ms i.toNat) n ≤ s := by
        by_cases hi : i.toNat < ms.length
        · exact hs _ hi
        · have e : nth ms i.toNat = 0 := by simp only [nth, List.getD, List.getElem?_eq_none (show ms.length ≤ i.toNat by omega)]; rfl
          have : ∀ q, psum l 0 q = 0 := by
            intro q
            induction q with
            | zero => rfl
            | succ q ih => simp [psum, ih]
          rw [e, this]; exact hs0
      have e : s * ((i :: c).length : Int) = s + s * c.length := by rw [List.length_cons, Int.natCast_add, Int.mul_add]; simp; omega
      rw [unL, e]; omega
  rw [← psum_full l n n (Nat.le_refl _)]
  refine Int.le_trans (psum_mono h0 (fun i hi => ?_) n) (key c)
  rw [fullN_bit, decide_eq_true_eq] at hi
  exact hc i hi
theorem ceil_le {a s : Int} {k : Nat} (hs : 1 ≤ s) (h : a ≤ s * k) : (a + s - 1) / s ≤ k := by
  have : (a + s - 1) / s < (k : Int) + 1 := by
    apply Int.ediv_lt_of_lt_mul (by omega)
    rw [Int.add_mul, Int.one_mul, Int.mul_comm (k : Int) s]
    omega
  omega
def prcL (sh : List Int) : List Int := sh.map fun k => 27720 / k
theorem prcL_nth {sh : List Int} {j : Nat} (h : j < sh.length) : nth (prcL sh) j = 27720 / nth sh j := by
  rw [nth_get (by simpa [prcL] using h), nth_get h]; simp [prcL]
theorem psum_step {n : Nat} {g mi m : Nat} {most : Int} {sh : List Int} (hl : sh.length = n) (h0 : ∀ x, x < n → g.testBit x = false → nth sh x = 0) : ∀ k, k ≤ n →
    psum (prcL (shUp n g mi most sh n)) m k = psum (prcL sh) m k + (27720 / most) * sumB (fun x => m.testBit x && (mi.testBit x && !g.testBit x)) k
  | 0, _ => by simp [psum, sumB]
  | k + 1, hk => by
    have ih := psum_step hl h0 (mi := mi) (m := m) (most := most) k (by omega)
    have hl2 := shUp_len n g mi most sh n
    have e1 := prcL_nth (sh := shUp n g mi most sh n) (j := k) (by omega)
    have e2 := prcL_nth (sh := sh) (j := k) (by omega)
    have e3 := shUp_nth n g mi most sh (by omega) n (Nat.le_refl _) k
    rw [psum, psum, sumB, ih, e1, e2, e3]
    have hk' : k < n := by omega
    simp only [hk', true_and]
    by_cases hm : m.testBit k = true
    · rw [if_pos hm, if_pos hm]
      by_cases h1 : mi.testBit k = true ∧ g.testBit k = false
      · rw [if_pos h1, h0 k hk' h1.2]
        simp only [hm, h1.1, h1.2, Bool.not_false, Bool.and_self, Bool.toNat_true]
        rw [Int.natCast_add, Int.mul_add]; simp; omega
      · rw [if_neg h1]
        have : (m.testBit k && (mi.testBit k && !g.testBit k)) = false := by
          cases a : mi.testBit k <;> cases b : g.testBit k <;> simp_all
        rw [this]; simp
        omega
    · rw [if_neg hm, if_neg hm]
      have : m.testBit k = false := by simpa using hm
      rw [this]; simp
theorem giter_zero {n : Nat} {ms : List Nat} : ∀ {k : Nat}, GOk n ms k → ∀ x, x < n → (giter n ms k).g.testBit x = false → nth (giter n ms k).sh x = 0
  | 0, _, x, hx, _ => by simp only [giter]; rw [nth_get (by simpa using hx)]; simp
  | k + 1, hk, x, hx, h => by
    obtain ⟨_, i, h2, h3, h4⟩ := hk k (by omega)
    have h5 := giter_sh n ms k
    simp only [giter, gstep, h3, Int.toNat_natCast] at h ⊢
    rw [Nat.testBit_or, Bool.or_eq_false_iff] at h
    rw [shUp_nth _ _ _ _ _ (by omega) n (Nat.le_refl _), if_neg (by simp [h.2])]
    exact giter_zero (fun j hj => hk j (by omega)) x hx h.1
theorem sumB_less {f : Nat → Bool} {n : Nat} (h : ∀ i, f i = true → i < n) : ∀ {k : Nat}, n ≤ k → sumB f k = sumB f n := by
  intro k hk
  induction k with
  | zero => have : n = 0 := by omega
            rw [this]
  | succ k ih =>
    by_cases e : n = k + 1
    · rw [e]
    · have : f k = false := by
        cases hf : f k
        · rfl
        · have := h k hf; omega
      rw [sumB, this, ih (by omega)]; simp
theorem fr_split {g mi m : Nat} : fr g m = fr (g ||| mi) m + sumB (fun x => m.testBit x && (mi.testBit x && !g.testBit x)) 32 := by
  rw [fr_sum, fr_sum]
  refine sumB_add fun i _ => ?_
  rw [Nat.testBit_or]
  cases m.testBit i <;> cases mi.testBit i <;> cases g.testBit i <;> rfl
theorem div_le {a b : Nat} (h0 : 0 < a) (h : a ≤ b) : (27720 : Int) / (b : Int) ≤ 27720 / (a : Int) := by
  have h1 : 27720 / b ≤ 27720 / a := Nat.div_le_div_left h h0
  have e1 : ((27720 / b : Nat) : Int) = (27720 : Int) / (b : Int) := Int.natCast_ediv 27720 b
  have e2 : ((27720 / a : Nat) : Int) = (27720 : Int) / (a : Int) := Int.natCast_ediv 27720 a
  rw [← e1, ← e2]
  exact Int.ofNat_le.2 h1
theorem scale_gap {r most : Nat} (hr : r ≤ most) : ∀ c, c ≤ r → (27720 / (most : Int)) * c ≤ scaleTo r - scaleTo (r - c)
  | 0, _ => by simp
  | c + 1, hc => by
    have ih := scale_gap hr c (by omega)
    obtain ⟨q, hq⟩ : ∃ q, r - (c + 1) = q := ⟨_, rfl⟩
    have e : r - c = q + 1 := by omega
    rw [e, scaleTo] at ih
    rw [hq]
    have h1 := div_le (a := q + 1) (b := most) (by omega) (by omega)
    rw [Int.natCast_add] at h1
    rw [Int.natCast_add, Int.mul_add]
    simp only [Int.natCast_one, Int.mul_one] at *
    have e1 : ((1 : Nat) : Int) = 1 := rfl
    omega
theorem scaleTo_mono {a b : Nat} (h : a ≤ b) : scaleTo a ≤ scaleTo b := by
  induction b with
  | zero => have : a = 0 := by omega
            rw [this]; exact Int.le_refl _
  | succ b ih =>
    by_cases e : a = b + 1
    · rw [e]; exact Int.le_refl _
    · have h1 : (0 : Int) ≤ 27720 / ((b : Int) + 1) := Int.ediv_nonneg (by decide) (by omega)
      have := ih (by omega)
      simp only [scaleTo]; omega
theorem fr_best {ms : List Nat} {g i : Nat} (hb : best ms g = ((i : Int), fr g (nth ms i))) {j : Nat} (hj : j < ms.length) : fr g (nth ms j) ≤ fr g (nth ms i) := by
  rcases bestTo_spec ms g ms.length with ⟨h1, h2⟩ | ⟨i', h1, h2, h3, h4⟩
  · rw [h2 j hj]; exact Nat.zero_le _
  · have h5 : best ms g = ((i' : Int), fr g (nth ms i')) := h2
    rw [hb] at h5
    simp only [Prod.mk.injEq] at h5
    rw [h5.2]; exact h4 j hj
/-- What is paid in a set, and may yet be paid. -/
theorem paid {n : Nat} {ms : List Nat} (hn : n ≤ 32) (hm : MsOk n ms) {j : Nat} (hj : j < ms.length) : ∀ {k : Nat}, GOk n ms k → psum (prcL (giter n ms k).sh) (nth ms j) n + scaleTo (fr (giter n ms k).g (nth ms j)) ≤ scaleTo (fr 0 (nth ms j))
  | 0, _ => by
    have : ∀ q, q ≤ n → psum (prcL (List.replicate n (0 : Int))) (nth ms j) q = 0 := by
      intro q
      induction q with
      | zero => intro _; rfl
      | succ q ih =>
        intro hq
        rw [psum, ih (by omega), prcL_nth (by rw [List.length_replicate]; omega), nth_get (show q < (List.replicate n (0 : Int)).length by rw [List.length_replicate]; omega)]
        simp
    simp only [giter]
    rw [this n (Nat.le_refl _)]; omega
  | k + 1, hk => by
    have ih := paid hn hm hj (k := k) (fun j hj => hk j (by omega))
    obtain ⟨_, i, h2, h3, h4⟩ := hk k (by omega)
    have hz := giter_zero (k := k) (fun j hj => hk j (by omega))
    have hl := giter_sh n ms k
    have hs := psum_step (n := n) (g := (giter n ms k).g) (mi := nth ms i) (m := nth ms j) (most := fr (giter n ms k).g (nth ms i)) hl hz n (Nat.le_refl _)
    have hf := fr_split (g := (giter n ms k).g) (mi := nth ms i) (m := nth ms j)
    have hb := fr_best h3 hj
    have hc : sumB (fun x => (nth ms j).testBit x && ((nth ms i).testBit x && !(giter n ms k).g.testBit x)) 32 = sumB (fun x => (nth ms j).testBit x && ((nth ms i).testBit x && !(giter n ms k).g.testBit x)) n := by
      refine sumB_less (fun x hx => ?_) hn
      exact msOk_nth hm j x (by simp only [Bool.and_eq_true] at hx; exact hx.1)
    rw [hc] at hf
    have hg := scale_gap (r := fr (giter n ms k).g (nth ms j)) (most := fr (giter n ms k).g (nth ms i)) hb (sumB (fun x => (nth ms j).testBit x && ((nth ms i).testBit x && !(giter n ms k).g.testBit x)) n) (by omega)
    have he : fr (giter n ms k).g (nth ms j) - sumB (fun x => (nth ms j).testBit x && ((nth ms i).testBit x && !(giter n ms k).g.testBit x)) n = fr ((giter n ms k).g ||| nth ms i) (nth ms j) := by omega
    rw [he] at hg
    simp only [giter, gstep, h3, Int.toNat_natCast]
    rw [hs]
    omega
theorem wid_le {ms : List Nat} {j : Nat} (hj : j < ms.length) : fr 0 (nth ms j) ≤ wid ms := by
  have key : ∀ k, j < k → fr 0 (nth ms j) ≤ widTo ms k := by
    intro k
    induction k with
    | zero => intro h; omega
    | succ k ih =>
      intro h
      rw [widTo]
      by_cases e : j = k
      · subst e; omega
      · have := ih (by omega); omega
  exact key _ hj
theorem price_nonneg {sh : List Int} (h : ∀ k, 0 ≤ nth sh k) (k : Nat) : 0 ≤ nth (prcL sh) k ∧ nth (prcL sh) k ≤ 27720 := by
  by_cases hk : k < sh.length
  · rw [prcL_nth hk]
    exact ⟨Int.ediv_nonneg (by decide) (h k), Int.ediv_le_self _ (by decide)⟩
  · have : nth (prcL sh) k = 0 := by simp only [nth, List.getD]; rw [List.getElem?_eq_none (by simp [prcL]; omega)]; rfl
    rw [this]; omega
theorem giter_nonneg {n : Nat} {ms : List Nat} {k : Nat} (hk : GOk n ms k) (x : Nat) : 0 ≤ nth (giter n ms k).sh x := by
  by_cases hx : x < n
  · by_cases hb : (giter n ms k).g.testBit x = true
    · have := (giter_share hk x hx hb).1; omega
    · rw [giter_zero hk x hx (by simpa using hb)]; exact Int.le_refl _
  · have : nth (giter n ms k).sh x = 0 := by simp only [nth, List.getD]; rw [List.getElem?_eq_none (by rw [giter_sh]; omega)]; rfl
    rw [this]; exact Int.le_refl _
/-- The prices of the greedy cover never exceed the scale in a set. -/
theorem greedy_proves {n : Nat} {ms : List Nat} (hn : n ≤ 32) (hm : MsOk n ms) {k : Nat} (hk : GOk n ms k) {j : Nat} (hj : j < ms.length) : psum (prcL (giter n ms k).sh) (nth ms j) n ≤ scaleTo (wid ms) := by
  have h1 := paid hn hm hj hk
  have h2 := scaleTo_bd (fr (giter n ms k).g (nth ms j))
  have h3 := scaleTo_mono (wid_le hj)
  omega
theorem twelve {k : Nat} (h1 : 1 ≤ k) (h2 : k ≤ 12) : (27720 / (k : Int)) * k = 27720 := by
  have : k = 1 ∨ k = 2 ∨ k = 3 ∨ k = 4 ∨ k = 5 ∨ k = 6 ∨ k = 7 ∨ k = 8 ∨ k = 9 ∨ k = 10 ∨ k = 11 ∨ k = 12 := by omega
  rcases this with rfl | rfl | rfl | rfl | rfl | rfl | rfl | rfl | rfl | rfl | rfl | rfl <;> decide
/-- All that is paid. -/
theorem greedy_sum {n : Nat} {ms : List Nat} (hn : n ≤ 32) (hm : MsOk n ms) (hw : wid ms ≤ 12) : ∀ {k : Nat}, GOk n ms k → sumTo (prcL (giter n ms k).sh) n = 27720 * (k : Int)
  | 0, _ => by
    have : ∀ q, q ≤ n → sumTo (prcL (List.replicate n (0 : Int))) q = 0 := by
      intro q
      induction q with
      | zero => intro _; rfl
      | succ q ih =>
        intro hq
        rw [sumTo, ih (by omega), prcL_nth (by rw [List.length_replicate]; omega), nth_get (show q < (List.replicate n (0 : Int)).length by rw [List.length_replicate]; omega)]
        simp
    simp only [giter]
    rw [this n (Nat.le_refl _)]; rfl
  | k + 1, hk => by
    have ih := greedy_sum hn hm hw (k := k) (fun j hj => hk j (by omega))
    obtain ⟨_, i, h2, h3, h4⟩ := hk k (by omega)
    have hz := giter_zero (k := k) (fun j hj => hk j (by omega))
    have hl := giter_sh n ms k
    have hs := psum_step (n := n) (g := (giter n ms k).g) (mi := nth ms i) (m := fullN n) (most := fr (giter n ms k).g (nth ms i)) hl hz n (Nat.le_refl _)
    rw [psum_full _ n n (Nat.le_refl _), psum_full _ n n (Nat.le_refl _), ih] at hs
    have hc : sumB (fun x => (fullN n).testBit x && ((nth ms i).testBit x && !(giter n ms k).g.testBit x)) n = fr (giter n ms k).g (nth ms i) := by
      rw [fr_sum]
      have h5 : sumB (fun x => (nth ms i).testBit x && !(giter n ms k).g.testBit x) 32 = sumB (fun x => (nth ms i).testBit x && !(giter n ms k).g.testBit x) n := sumB_less (fun x hx => msOk_nth hm i x (by simp only [Bool.and_eq_true] at hx; exact hx.1)) hn
      rw [h5]
      refine sumB_congr fun x hx => ?_
      rw [fullN_bit]; simp [hx]
    rw [hc] at hs
    have h6 := wid_le h2
    have h7 : fr (giter n ms k).g (nth ms i) ≤ fr 0 (nth ms i) := by
      have := fr_mono (g := 0) (m := nth ms i) (m' := (giter n ms k).g)
      simpa using this
    rw [twelve (by omega) (by omega)] at hs
    simp only [giter, gstep, h3, Int.toNat_natCast]
    rw [hs, Int.natCast_add, Int.mul_add]; rfl
theorem greedy_covers {n : Nat} {ms : List Nat} : ∀ {k : Nat}, GOk n ms k → ∀ x, (giter n ms k).g.testBit x = true → (unL ms (giter n ms k).out).testBit x = true
  | 0, _, x, h => by simp [giter] at h
  | k + 1, hk, x, h => by
    obtain ⟨_, i, h2, h3, h4⟩ := hk k (by omega)
    simp only [giter, gstep, h3, Int.toNat_natCast, Nat.testBit_or, Bool.or_eq_true] at h ⊢
    rw [unL_bit]
    rcases h with h | h
    · obtain ⟨j, h5, h6⟩ := (unL_bit ms x _).1 (greedy_covers (fun j hj => hk j (by omega)) x h)
      exact ⟨j, by simp [h5], h6⟩
    · exact ⟨i, by simp, by simpa using h⟩
theorem giter_idx {n : Nat} {ms : List Nat} : ∀ {k : Nat}, GOk n ms k → ∀ i ∈ (giter n ms k).out, 0 ≤ i ∧ i < ms.length
  | 0, _, i, h => by simp [giter] at h
  | k + 1, hk, i, h => by
    obtain ⟨_, j, h2, h3, h4⟩ := hk k (by omega)
    simp only [giter, gstep, h3, List.mem_append, List.mem_singleton] at h
    rcases h with h | rfl
    · exact giter_idx (fun j hj => hk j (by omega)) i h
    · omega
theorem unL_perm {ms : List Nat} {c c' : List Int} (h : c.Perm c') (x : Nat) : (unL ms c).testBit x = (unL ms c').testBit x := by
  rw [Bool.eq_iff_iff, unL_bit, unL_bit]
  constructor
  · rintro ⟨i, h1, h2⟩; exact ⟨i, h.mem_iff.1 h1, h2⟩
  · rintro ⟨i, h1, h2⟩; exact ⟨i, h.mem_iff.2 h1, h2⟩
end Go.Sx

set_option autoImplicit false
set_option maxRecDepth 100000
namespace Go.Proofs.YtomjbfeafodfbaaGreat
open Go.Sx
open Enc (enc val)
theorem unL_snoc (ms : List Nat) (c : List Int) (i : Int) : unL ms (c ++ [i]) = unL ms c ||| nth ms i.toNat := by
  apply Nat.eq_of_testBit_eq
  intro x
  rw [Nat.testBit_or, Bool.eq_iff_iff, unL_bit, Bool.or_eq_true, unL_bit]
  constructor
  · rintro ⟨j, h1, h2⟩
    rcases List.mem_append.1 h1 with h | h
    · exact .inl ⟨j, h, h2⟩
    · simp only [List.mem_singleton] at h; subst h; exact .inr h2
  · rintro (⟨j, h1, h2⟩ | h)
    · exact ⟨j, by simp [h1], h2⟩
    · exact ⟨i, by simp, h⟩
def cvrB (n : Nat) (ms : List Nat) (c : List Int) : Bool := (List.range n).all fun x => (unL ms c).testBit x
theorem cvrB_iff {n : Nat} {ms : List Nat} {c : List Int} : cvrB n ms c = true ↔ Cvr n ms c := by simp [cvrB, Cvr]
theorem refCovers_spec (n : Nat) (hn : n ≤ 30) (sv : SlV) (vs : List SlV) (ls : List (List Int)) (hs : ∀ s ∈ ls, setB n s = true) (sc : Value) (c : List Int) (hc : ∀ i ∈ c, 0 ≤ i ∧ i < ls.length) (w : World) (hm : Stb w [] (fun w' => Mt w' sv.v vs ls)) (hcr : Stb w [] (RdL sc c)) :
    Calls Tryz.prog 43 #[.int .i64 n, sv.v, sc] w fun e w' => e = .returned (.bool (cvrB n (msOf ls) c)) ∧ Cl w [] [] w' := by
  have h1 := stb_map hm fun _ h => h.l
  have n1 := hm.here.n
  have hL := rd_len hcr.here
  refine calls_cw (vs := [_, _, _]) Tryz.func43 rfl Tryz.ntmps43 rfl (Cl.start0 w) (cw_seq (cw_region (sr rfl rfl rfl ((q_assign rfl rfl)) (sw_nil (post_then (cw_seq (cw_region (sr rfl rfl rfl ((q_move rfl rfl)) ?_))))))))
  refine sw_x rfl rfl rfl (e_make (α := Bool) (zero := false) rfl rfl rfl rfl rfl (by omega) (by omega) (by decide)) (fun s12 => ?_)
  rw [Int.toNat_natCast, cvL_zero]
  refine sr rfl rfl rfl ((q_assign rfl rfl)) (sw_nil (post_then (cw_seq (cw_seq (cw_region (sr rfl rfl rfl ((q_assign rfl rfl)) (sw_nil (post_then (cw_block ?_)))))))))
  refine cw_loop (S := Nat) (fun k => [(0, [], .int .i64 n), (1, [], sv.v), (2, [], sc), (7, [], s12.v), (8, [], .int .i64 k)]) (fun k => Cl w [] [ownL 4 s12.v (cvL n (unL (msOf ls) (c.take k)))]) (fun k => k ≤ c.length) (fun k => c.length - k) 0 (Nat.zero_le _) (by exact .cons rfl (.cons rfl (.cons rfl (.cons rfl (.cons rfl .nil))))) (fun _ h => h) ?_
  intro k hk
  refine cw_seq (cw_seq (cw_region (sr rfl rfl rfl ((q_move rfl rfl)) (sr rfl rfl rfl ((q_move rfl rfl)) ?_))))
  refine sr rfl rfl rfl ((q_len rfl (.cons rfl inferInstance (.nil)) (by exact fun w hw => Stb.cl (by assumption) hw))) ?_
  refine sr rfl rfl rfl ((q_lss rfl rfl rfl)) (sw_nil (post_then ?_))
  refine cw_cond rfl (fun h => ?_) (fun h => ?_)
  · skip
    have hk' : k < c.length := by simp only [decide_eq_true_eq] at h; omega
    have hck := hc _ (nth_mem hk')
    have hrow := stb_map hm fun _ h => h.r (nth c k).toNat (by omega)
    have hrl := rd_len hrow.here
    have hsb := mask_bits (hs _ (nth_mem (i := (nth c k).toNat) (by omega)))
    refine cw_skip (post_then (cw_seq (cw_block (cw_seq (cw_region (sr rfl rfl rfl ((q_assign rfl rfl)) (sw_nil (post_then (cw_block ?_)))))))))
    refine cw_loop (S := Nat) (fun q => [(0, [], .int .i64 n), (1, [], sv.v), (2, [], sc), (7, [], s12.v), (8, [], .int .i64 k), (9, [], .int .i64 q)]) (fun q => Cl w [] [ownL 4 s12.v (cvL n (unL (msOf ls) (c.take k) ||| maskTo (nth ls (nth c k).toNat) q))]) (fun q => q ≤ (nth ls (nth c k).toNat).length) (fun q => (nth ls (nth c k).toNat).length - q) 0 (Nat.zero_le _) (by exact .cons rfl (.cons rfl (.cons rfl (.cons rfl (.cons rfl (.cons rfl .nil)))))) (fun w3 h3 => by simp only [maskTo, Nat.or_zero]; exact h3) ?_
    intro q hq
    refine cw_seq (cw_seq (cw_region (sr rfl rfl rfl ((q_move rfl rfl)) (sr rfl rfl rfl ((q_move rfl rfl)) (sr rfl rfl rfl ((q_move rfl rfl)) (sr rfl rfl rfl ((q_move rfl rfl)) ?_))))))
    refine sr rfl rfl rfl ((q_indexN rfl rfl rfl (by exact fun w hw => Stb.cl (by assumption) hw) (by intro hc; omega))) ?_
    refine sr rfl rfl rfl ((q_loadEl rfl rfl rfl (by exact fun w hw => Stb.cl (by assumption) hw) (by intro hc; omega))) ?_
    refine sr rfl rfl rfl ((q_index rfl rfl rfl (by exact fun w hw => Stb.cl (by assumption) hw) (by intro hc; omega))) ?_
    refine sr rfl rfl rfl ((q_loadEl rfl rfl rfl (by exact fun w hw => Stb.cl (by assumption) hw) (by intro hc; omega))) ?_
    refine sr rfl rfl rfl ((q_len rfl (.cons rfl inferInstance (.nil)) (by exact fun w hw => Stb.cl (by assumption) hw))) ?_
    refine sr rfl rfl rfl ((q_lss rfl rfl rfl)) (sw_nil (post_then ?_))
    refine cw_cond rfl (fun h2 => ?_) (fun h2 => ?_)
    · skip
      have hq' : q < (nth ls (nth c k).toNat).length := by simp only [decide_eq_true_eq] at h2; omega
      have hel := hsb.2 _ (nth_mem hq')
      have hcl := cvL_len n (unL (msOf ls) (c.take k) ||| maskTo (nth ls (nth c k).toNat) q)
      refine cw_skip (post_then (cw_seq (cw_block (cw_region (sr rfl rfl rfl ((q_move rfl rfl)) (sr rfl rfl rfl ((q_move rfl rfl)) (sr rfl rfl rfl ((q_move rfl rfl)) (sr rfl rfl rfl ((q_move rfl rfl)) ?_))))))))
      refine sr rfl rfl rfl ((q_indexN rfl rfl rfl (by exact fun w hw => Stb.cl (by assumption) hw) (by intro hc; omega))) ?_
      refine sr rfl rfl rfl ((q_loadEl rfl rfl rfl (by exact fun w hw => Stb.cl (by assumption) hw) (by intro hc; omega))) ?_
      refine sr rfl rfl rfl ((q_index rfl rfl rfl (by exact fun w hw => Stb.cl (by assumption) hw) (by intro hc; omega))) ?_
      refine sr rfl rfl rfl ((q_loadEl rfl rfl rfl (by exact fun w hw => Stb.cl (by assumption) hw) (by intro hc; omega))) ?_
      refine sr rfl rfl rfl ((q_move rfl rfl)) ?_
      refine sr rfl rfl rfl ((q_indexN rfl rfl rfl (by exact fun w hw => Stb.cl (by assumption) hw) (by intro hc; omega))) ?_
      refine sr rfl rfl rfl ((q_loadEl rfl rfl rfl (by exact fun w hw => Stb.cl (by assumption) hw) (by intro hc; omega))) ?_
      refine sr rfl rfl rfl ((q_index rfl rfl rfl (by exact fun w hw => rd_own hw (by exact .head _)) (by intro hc; omega))) ?_
      refine sw_eff0 rfl rfl (e_storeEl1 (i := 0) rfl rfl rfl rfl rfl (by omega)) ?_
      refine sw_nil (post_blk (post_then (cw_region (sr rfl rfl rfl ((q_move rfl rfl)) ?_))))
      refine sr rfl rfl rfl ((q_add rfl rfl rfl (by intro hc; omega))) ?_
      refine sr rfl rfl rfl ((q_assign rfl rfl)) (sw_nil ?_)
      refine post_next (q + 1) (by exact .cons rfl (.cons rfl (.cons rfl (.cons rfl (.cons rfl (.cons rfl .nil)))))) (fun w3 hw3 => ?_) (by omega) (by omega)
      rw [maskTo, ← Nat.or_assoc, ← cvL_set (by omega)]
      exact hw3
    · skip
      have hq' : q = (nth ls (nth c k).toNat).length := by simp only [decide_eq_false_iff_not] at h2; omega
      subst hq'
      refine cw_exit (post_then_x (post_then_x (post_blk_eq (post_blk (post_then (cw_region (sr rfl rfl rfl ((q_move rfl rfl)) ?_)))))))
      refine sr rfl rfl rfl ((q_add rfl rfl rfl (by intro hc; omega))) ?_
      refine sr rfl rfl rfl ((q_assign rfl rfl)) (sw_nil ?_)
      refine post_next (k + 1) (by exact .cons rfl (.cons rfl (.cons rfl (.cons rfl (.cons rfl .nil))))) (fun w3 hw3 => ?_) (by omega) (by omega)
      rw [List.take_succ_eq_append_getElem hk', unL_snoc, ← nth_get hk', msOf_nth (by omega)]
      exact hw3
  · skip
    have hk' : k = c.length := by simp only [decide_eq_false_iff_not] at h; omega
    subst hk'
    rw [List.take_length]
    have hcl := cvL_len n (unL (msOf ls) c)
    refine cw_exit (post_then_x (post_then_x (post_blk_eq (post_then (cw_seq (cw_seq (cw_region (sr rfl rfl rfl ((q_assign rfl rfl)) (sw_nil (post_then (cw_block ?_)))))))))))
    refine cw_loop (S := Nat) (fun x => [(0, [], .int .i64 n), (7, [], s12.v), (10, [], .int .i64 x)]) (fun x => Cl w [] [ownL 4 s12.v (cvL n (unL (msOf ls) c))]) (fun x => x ≤ n ∧ ∀ j, j < x → (unL (msOf ls) c).testBit j = true) (fun x => n - x) 0 ⟨Nat.zero_le _, fun j hj => by omega⟩ (by exact .cons rfl (.cons rfl (.cons rfl .nil))) (fun _ h => h) ?_
    rintro x ⟨hx, hb⟩
    refine cw_seq (cw_seq (cw_region (sr rfl rfl rfl ((q_move rfl rfl)) (sr rfl rfl rfl ((q_move rfl rfl)) (sr rfl rfl rfl ((q_lss rfl rfl rfl)) (sw_nil (post_then ?_)))))))
    refine cw_cond rfl (fun h2 => ?_) (fun h2 => ?_)
    · skip
      have hx' : x < n := by simp only [decide_eq_true_eq] at h2; omega
      have hbit := cvL_nth hx' (unL (msOf ls) c)
      refine cw_skip (post_then (cw_seq (cw_block (cw_seq (cw_region (sr rfl rfl rfl ((q_move rfl rfl)) (sr rfl rfl rfl ((q_move rfl rfl)) ?_)))))))
      refine sr rfl rfl rfl ((q_indexN rfl rfl rfl (by exact fun w hw => rd_own hw (by exact .head _)) (by intro hc; omega))) ?_
      refine sr rfl rfl rfl ((q_loadEl rfl rfl rfl (by exact fun w hw => rd_own hw (by exact .head _)) (by intro hc; omega))) ?_
      refine sr rfl rfl rfl ((q_not rfl rfl)) (sw_nil (post_then ?_))
      rw [hbit]
      refine cw_cond rfl (fun h3 => ?_) (fun h3 => ?_)
      · skip
        have h4 : cvrB n (msOf ls) c = false := List.all_eq_false.2 ⟨x, by simpa using hx', by simpa using h3⟩
        refine cw_seq (cw_region (sr rfl rfl rfl ((q_assign rfl rfl)) (sw_nil (post_then (cw_ret (post_blk_r (post_then_r (post_then_r (post_blk_r (post_then_r (post_ret1 rfl (resOk_tmp rfl) ?_)))))))))))
        exact fun w' hw => ⟨by rw [h4], (fun w h => Cl.sel (by exact .nil _) w h) _ hw⟩
      · skip
        refine cw_skip (post_blk (post_then (cw_region (sr rfl rfl rfl ((q_move rfl rfl)) ?_))))
        refine sr rfl rfl rfl ((q_add rfl rfl rfl (by intro hc; omega))) ?_
        refine sr rfl rfl rfl ((q_assign rfl rfl)) (sw_nil ?_)
        refine post_next (x + 1) (by exact .cons rfl (.cons rfl (.cons rfl .nil))) (fun _ h => h) ⟨by omega, fun j hj => ?_⟩ (by omega)
        by_cases e : j = x
        · subst e; simpa using h3
        · exact hb j (by omega)
    · skip
      have hx' : x = n := by simp only [decide_eq_false_iff_not] at h2; omega
      subst hx'
      have h4 : cvrB x (msOf ls) c = true := cvrB_iff.2 hb
      refine cw_exit (post_then_x (post_then_x (post_blk_eq (post_then (cw_seq (cw_region (sr rfl rfl rfl ((q_assign rfl rfl)) (sw_nil (post_then (cw_ret (post_ret1 rfl (resOk_tmp rfl) ?_)))))))))))
      exact fun w' hw => ⟨by rw [h4], (fun w h => Cl.sel (by exact .nil _) w h) _ hw⟩
def someI (f : Nat → Option (List Int)) : Nat → Nat → Option (List Int)
  | _, 0 => none
  | i, c + 1 => match f i with
    | some x => some x
    | none => someI f (i + 1) c
def someF (n : Nat) (ms : List Nat) : Nat → List Int → Nat → Option (List Int)
  | 0, ch, _ => if cvrB n ms ch = true then some ch else none
  | k + 1, ch, fr => someI (fun i => someF n ms k (ch ++ [(i : Int)]) (i + 1)) fr (ms.length - fr)
def leastF (n : Nat) (ms : List Nat) : Option (List Int) := someI (fun k => someF n ms k [] 0) 0 (ms.length + 1)
theorem someI_step {f : Nat → Option (List Int)} {i L : Nat} (h : i < L) : someI f i (L - i) = match f i with
    | some x => some x
    | none => someI f (i + 1) (L - (i + 1)) := by
  rw [show L - i = (L - (i + 1)) + 1 by omega, someI]
def optA (r : SlV) (o : Option (List Int)) : List Asn := match o with
  | some c => [ownL 3 r.v c]
  | none => []
theorem some_spec (n : Nat) (hn : n ≤ 30) (sv : SlV) (vs : List SlV) (ls : List (List Int)) (hl : ls.length ≤ 1000) (hs : ∀ s ∈ ls, setB n s = true) : ∀ (more : Nat) (sc : SlV) (ch : List Int) (f : Nat), ch.length + more ≤ 100000 → f ≤ ls.length → (∀ i ∈ ch, 0 ≤ i ∧ i < ls.length) → ∀ (w : World) (bs : List Nat), Sep [ownL 3 sc.v ch] w bs → bs.Nodup → (∀ b ∈ bs, b < w.heap.size) → Stb w bs (fun w' => Mt w' sv.v vs ls) →
    Calls Tryz.prog 85 #[.int .i64 n, sv.v, sc.v, .int .i64 f, .int .i64 more] w fun e w' => ∃ r : SlV, e = .returned (.tuple #[r.v, .bool (someF n (msOf ls) more ch f).isSome]) ∧ True ∧ Cl w bs (optA r (someF n (msOf ls) more ch f)) w' := by
  intro more
  induction more with
  | zero =>
    intro sc ch f hb hf hch w bs k1 k2 k3 hm
    refine calls_cw (vs := [_, _, _, _, _]) Tryz.func85 rfl Tryz.ntmps85 rfl (Cl.start k1 k2 k3) (cw_seq (cw_region (sr rfl rfl rfl ((q_assign rfl rfl)) (sr rfl rfl rfl ((q_assign rfl rfl)) (sw_nil (post_then (cw_seq (cw_seq (cw_region (sr rfl rfl rfl ((q_move rfl rfl)) (sr rfl rfl rfl ((q_eql rfl rfl rfl)) (sw_nil (post_then ?_)))))))))))))
    refine cw_cond rfl (fun h => ?_) (fun h => ?_)
    · skip
      refine cw_seq (cw_region (sr rfl rfl rfl ((q_move rfl rfl)) (sr rfl rfl rfl ((q_move rfl rfl)) (sr rfl rfl rfl ((q_move rfl rfl)) (sr rfl rfl rfl ((q_move rfl rfl)) (sw_step rfl rfl rfl (q_call (CanCall.mk Tryz.call43) rfl (.cons rfl inferInstance (.cons rfl inferInstance (.cons rfl inferInstance (.nil)))) (fun _ w hw => callq hw (refCovers_spec n hn sv vs ls hs sc.v ch hch w (stb_arg hw hm) (stb_own (e := 3) hw (.head _))))) (sr rfl rfl rfl ((q_assign rfl rfl)) (sr rfl rfl rfl ((q_assign rfl rfl)) (sw_nil (post_then (cw_ret (post_then_r (post_ret2 rfl (resOk_tmp rfl) (resOk_tmp rfl) ?_)))))))))))))
      refine fun w' hw => ⟨sc, ?_, trivial, ?_⟩
      · simp only [someF]; cases cvrB n (msOf ls) ch <;> rfl
      · simp only [someF]
        cases cvrB n (msOf ls) ch
        · exact hw.tail
        · exact hw
    · skip
      simp at h
  | succ more ih =>
    intro sc ch f hb hf hch w bs k1 k2 k3 hm
    have hml : (msOf ls).length = ls.length := by simp [msOf]
    refine calls_cw (vs := [_, _, _, _, _]) Tryz.func85 rfl Tryz.ntmps85 rfl (Cl.start k1 k2 k3) (cw_seq (cw_region (sr rfl rfl rfl ((q_assign rfl rfl)) (sr rfl rfl rfl ((q_assign rfl rfl)) (sw_nil (post_then (cw_seq (cw_seq (cw_region (sr rfl rfl rfl ((q_move rfl rfl)) (sr rfl rfl rfl ((q_eql rfl rfl rfl)) (sw_nil (post_then ?_)))))))))))))
    refine cw_cond rfl (fun h => ?_) (fun h => ?_)
    · skip
      simp at h; omega
    · skip
      clear h
      refine cw_skip (post_then (cw_seq (cw_seq (cw_region (sr rfl rfl rfl ((q_move rfl rfl)) (sr rfl rfl rfl ((q_assign rfl rfl)) (sw_nil (post_then (cw_block ?_)))))))))
      refine cw_loop (S := Nat) (fun i => [(0, [], .int .i64 n), (1, [], sv.v), (2, [], sc.v), (4, [], .int .i64 (more + 1 : Nat)), (12, [], .int .i64 i)]) (fun i => Cl w bs [ownL 3 sc.v ch]) (fun i => i ≤ ls.length ∧ someF n (msOf ls) (more + 1) ch f = someI (fun i => someF n (msOf ls) more (ch ++ [(i : Int)]) (i + 1)) i (ls.length - i)) (fun i => ls.length - i) f ⟨hf, by rw [someF, hml]⟩ (by exact .cons rfl (.cons rfl (.cons rfl (.cons rfl (.cons rfl .nil))))) (fun _ h => h) ?_
      rintro i ⟨hi, hF⟩
      have h1 := stb_map hm fun _ h => h.l
      have n1 := hm.here.n
      refine cw_seq (cw_seq (cw_region (sr rfl rfl rfl ((q_move rfl rfl)) (sr rfl rfl rfl ((q_move rfl rfl)) ?_))))
      refine sr rfl rfl rfl ((q_len rfl (.cons rfl inferInstance (.nil)) (by exact fun w hw => Stb.cl (by assumption) hw))) ?_
      refine sr rfl rfl rfl ((q_lss rfl rfl rfl)) (sw_nil (post_then ?_))
      refine cw_cond rfl (fun h => ?_) (fun h => ?_)
      · skip
        have hi' : i < ls.length := by simp only [decide_eq_true_eq] at h; omega
        rw [someI_step hi'] at hF
        refine cw_c (C' := Cl w bs [ownL 3 (SlV.v ⟨none, 0, 0⟩) ([] : List Int), ownL 3 sc.v ch]) (fun w' hw => hw.addNil (α := Int) 3) (cw_skip (post_then (cw_seq (cw_block (cw_seq (cw_region (sr rfl rfl rfl ((q_move rfl rfl)) (sr rfl rfl rfl ((q_move rfl rfl)) (sr rfl rfl rfl ((q_move rfl rfl)) ?_)))))))))
        refine sw_x rfl rfl rfl (e_append (i := 0) rfl (.cons rfl inferInstance (.cons rfl inferInstance (.nil))) rfl rfl (by exact fun w hw => rd_own hw (by exact .tail _ (.head _))) (by simp only [List.length_set, List.length_append, List.length_cons, List.length_nil, List.length_replicate, List.length_take, List.length_drop, List.length_map]; omega) rfl) (fun s33 => ?_)
        refine sr rfl rfl rfl ((q_move rfl rfl)) ?_
        refine sw_x rfl rfl rfl (e_build1 (α := Int) rfl rfl rfl rfl) (fun s35 => ?_)
        refine sw_x rfl rfl rfl (e_append (i := 1) rfl (.cons rfl inferInstance (.cons rfl inferInstance (.nil))) rfl rfl (by exact fun w hw => rd_own hw (by exact .head _)) (by simp only [List.length_set, List.length_append, List.length_cons, List.length_nil, List.length_replicate, List.length_take, List.length_drop, List.length_map]; omega) rfl) (fun s36 => ?_)
        refine sr rfl rfl rfl ((q_move rfl rfl)) ?_
        refine sr rfl rfl rfl ((q_add rfl rfl rfl (by intro hc; omega))) ?_
        refine sr rfl rfl rfl ((q_move rfl rfl)) ?_
        refine sr rfl rfl rfl ((q_sub rfl rfl rfl (by intro hc; omega))) ?_
        rw [show ((i : Int) + 1) = ((i + 1 : Nat) : Int) by omega, show (((more + 1 : Nat) : Int) - 1) = (more : Int) by omega]
        refine sw_x rfl rfl rfl (e_callH (A := [ownL 3 s36.v (ch ++ [(i : Int)])]) (F := [ownL 3 s35.v [(i : Int)], ownL 3 sc.v ch]) (CanCall.mk Tryz.call85) rfl rfl (.cons rfl inferInstance (.cons rfl inferInstance (.cons rfl inferInstance (.cons rfl inferInstance (.cons rfl inferInstance (.nil)))))) (perm_del (i := 1) rfl) (fun w bs k1 k2 k3 k4 k5 => ih s36 (ch ++ [(i : Int)]) (i + 1) (by simp; omega) (by omega) (fun j hj => by rcases List.mem_append.1 hj with h5 | h5; exact hch j h5; simp only [List.mem_singleton] at h5; omega) w bs k1 k2 k3 (k4 _ hm))) (fun r => ?_)
        refine sw_imp fun _ => (sr rfl rfl rfl ((q_move rfl rfl)) (sr rfl rfl rfl ((q_extract rfl rfl rfl)) (sr rfl rfl rfl ((q_extract rfl rfl rfl)) (sr rfl rfl rfl ((q_assign rfl rfl)) (sr rfl rfl rfl ((q_assign rfl rfl)) (sw_nil (post_then (cw_seq (cw_region (sr rfl rfl rfl ((q_move rfl rfl)) (sw_nil (post_then ?_))))))))))))
        refine cw_cond rfl (fun h2 => ?_) (fun h2 => ?_)
        · skip
          obtain ⟨c, hc⟩ := Option.isSome_iff_exists.1 h2
          rw [hc] at hF
          simp only at hF
          refine cw_seq (cw_region (sr rfl rfl rfl ((q_move rfl rfl)) (sr rfl rfl rfl ((q_assign rfl rfl)) (sr rfl rfl rfl ((q_assign rfl rfl)) (sw_nil (post_then (cw_ret (post_blk_r (post_then_r (post_then_r (post_blk_r (post_then_r (post_ret2 rfl (resOk_tmp rfl) (resOk_tmp rfl) ?_)))))))))))))
          refine fun w' hw => ⟨r, by rw [hF]; rfl, trivial, ?_⟩
          rw [hc] at hw
          rw [hF]
          exact (fun w h => Cl.sel (by exact .take 0 rfl (.nil _)) w h) _ hw
        · skip
          have hc : someF n (msOf ls) more (ch ++ [(i : Int)]) (i + 1) = none := by
            cases hx : someF n (msOf ls) more (ch ++ [(i : Int)]) (i + 1)
            · rfl
            · rw [hx] at h2; cases h2
          rw [hc] at hF
          simp only at hF
          refine cw_skip (post_blk (post_then (cw_region (sr rfl rfl rfl ((q_move rfl rfl)) ?_))))
          refine sr rfl rfl rfl ((q_add rfl rfl rfl (by intro hc; omega))) ?_
          refine sr rfl rfl rfl ((q_assign rfl rfl)) (sw_nil ?_)
          refine post_next (i + 1) (by exact .cons rfl (.cons rfl (.cons rfl (.cons rfl (.cons rfl .nil))))) (fun w3 hw3 => ?_) ⟨by omega, hF⟩ (by omega)
          rw [hc] at hw3
          exact (fun w h => Cl.sel (by exact .take 1 rfl (.nil _)) w h) _ hw3
      · skip
        have hi' : i = ls.length := by simp only [decide_eq_false_iff_not] at h; omega
        subst hi'
        have hF' : someF n (msOf ls) (more + 1) ch f = none := by rw [hF, Nat.sub_self]; rfl
        refine cw_exit (post_then_x (post_then_x (post_blk_eq (post_then (cw_seq (cw_region (sr rfl rfl rfl ((q_assign rfl rfl)) (sr rfl rfl rfl ((q_assign rfl rfl)) (sw_nil (post_then (cw_ret (post_ret2 rfl (resOk_tmp rfl) (resOk_tmp rfl) ?_))))))))))))
        exact fun w' hw => ⟨⟨none, 0, 0⟩, by rw [hF']; rfl, trivial, by rw [hF']; exact hw.tail⟩
theorem refLeast_spec (n : Nat) (hn : n ≤ 30) (sv : SlV) (vs : List SlV) (ls : List (List Int)) (hl : ls.length ≤ 1000) (hs : ∀ s ∈ ls, setB n s = true) (w : World) (hm : Stb w [] (fun w' => Mt w' sv.v vs ls)) :
    Calls Tryz.prog 41 #[.int .i64 n, sv.v] w fun e w' => ∃ r : SlV, e = .returned (.tuple #[r.v, .bool (leastF n (msOf ls)).isSome]) ∧ True ∧ Cl w [] (optA r (leastF n (msOf ls))) w' := by
  have h1 := stb_map hm fun _ h => h.l
  have n1 := hm.here.n
  have hml : (msOf ls).length = ls.length := by simp [msOf]
  refine calls_cw (vs := [_, _]) Tryz.func41 rfl Tryz.ntmps41 rfl (Cl.start0 w) (cw_seq (cw_region (sr rfl rfl rfl ((q_assign rfl rfl)) (sr rfl rfl rfl ((q_assign rfl rfl)) (sw_nil (post_then (cw_seq (cw_seq (cw_region (sr rfl rfl rfl ((q_assign rfl rfl)) (sw_nil (post_then (cw_block ?_)))))))))))))
  refine cw_loop (S := Nat) (fun k => [(0, [], .int .i64 n), (1, [], sv.v), (6, [], .int .i64 k)]) (fun k => Cl w [] []) (fun k => k ≤ ls.length + 1 ∧ leastF n (msOf ls) = someI (fun k => someF n (msOf ls) k [] 0) k (ls.length + 1 - k)) (fun k => ls.length + 1 - k) 0 ⟨Nat.zero_le _, by rw [leastF, hml]; rfl⟩ (by exact .cons rfl (.cons rfl (.cons rfl .nil))) (fun _ h => h) ?_
  rintro k ⟨hk, hF⟩
  refine cw_seq (cw_seq (cw_region (sr rfl rfl rfl ((q_move rfl rfl)) (sr rfl rfl rfl ((q_move rfl rfl)) ?_))))
  refine sr rfl rfl rfl ((q_len rfl (.cons rfl inferInstance (.nil)) (by exact fun w hw => Stb.cl (by assumption) hw))) ?_
  refine sr rfl rfl rfl ((q_leq rfl rfl rfl)) (sw_nil (post_then ?_))
  refine cw_cond rfl (fun h => ?_) (fun h => ?_)
  · skip
    have hk' : k < ls.length + 1 := by simp only [decide_eq_true_eq] at h; omega
    rw [someI_step hk'] at hF
    refine cw_c (C' := Cl w [] [ownL 3 (SlV.v ⟨none, 0, 0⟩) ([] : List Int)]) (fun w' hw => hw.addNil (α := Int) 3) (cw_skip (post_then (cw_seq (cw_block (cw_seq (cw_region (sr rfl rfl rfl ((q_move rfl rfl)) (sr rfl rfl rfl ((q_move rfl rfl)) (sr rfl rfl rfl ((q_move rfl rfl)) ?_)))))))))
    refine sw_x rfl rfl rfl (e_callH (A := [ownL 3 (SlV.v ⟨none, 0, 0⟩) ([] : List Int)]) (F := []) (CanCall.mk Tryz.call85) rfl rfl (.cons rfl inferInstance (.cons rfl inferInstance (.cons rfl inferInstance (.cons rfl inferInstance (.cons rfl inferInstance (.nil)))))) (.refl _) (fun w bs k1 k2 k3 k4 k5 => some_spec n hn sv vs ls hl hs k ⟨none, 0, 0⟩ [] 0 (by simp; omega) (Nat.zero_le _) (fun j hj => by simp at hj) w bs k1 k2 k3 (k4 _ hm))) (fun r => ?_)
    refine sw_imp fun _ => (sr rfl rfl rfl ((q_move rfl rfl)) (sr rfl rfl rfl ((q_extract rfl rfl rfl)) (sr rfl rfl rfl ((q_extract rfl rfl rfl)) (sr rfl rfl rfl ((q_assign rfl rfl)) (sr rfl rfl rfl ((q_assign rfl rfl)) (sw_nil (post_then (cw_seq (cw_region (sr rfl rfl rfl ((q_move rfl rfl)) (sw_nil (post_then ?_))))))))))))
    refine cw_cond rfl (fun h2 => ?_) (fun h2 => ?_)
    · skip
      obtain ⟨c, hc⟩ := Option.isSome_iff_exists.1 h2
      rw [hc] at hF
      simp only at hF
      refine cw_seq (cw_region (sr rfl rfl rfl ((q_move rfl rfl)) (sr rfl rfl rfl ((q_assign rfl rfl)) (sr rfl rfl rfl ((q_assign rfl rfl)) (sw_nil (post_then (cw_ret (post_blk_r (post_then_r (post_then_r (post_blk_r (post_then_r (post_ret2 rfl (resOk_tmp rfl) (resOk_tmp rfl) ?_)))))))))))))
      refine fun w' hw => ⟨r, by rw [hF]; rfl, trivial, ?_⟩
      rw [hc] at hw
      rw [hF]
      exact (fun w h => Cl.sel (by exact .take 0 rfl (.nil _)) w h) _ hw
    · skip
      have hc : someF n (msOf ls) k [] 0 = none := by
        cases hx : someF n (msOf ls) k [] 0
        · rfl
        · rw [hx] at h2; cases h2
      rw [hc] at hF
      simp only at hF
      refine cw_skip (post_blk (post_then (cw_region (sr rfl rfl rfl ((q_move rfl rfl)) ?_))))
      refine sr rfl rfl rfl ((q_add rfl rfl rfl (by intro hc; omega))) ?_
      refine sr rfl rfl rfl ((q_assign rfl rfl)) (sw_nil ?_)
      refine post_next (k + 1) (by exact .cons rfl (.cons rfl (.cons rfl .nil))) (fun w3 hw3 => ?_) ⟨by omega, hF⟩ (by omega)
      rw [hc] at hw3
      exact (fun w h => Cl.sel (by exact .nil _) w h) _ hw3
  · skip
    have hk' : k = ls.length + 1 := by simp only [decide_eq_false_iff_not] at h; omega
    subst hk'
    have hF' : leastF n (msOf ls) = none := by rw [hF, Nat.sub_self]; rfl
    refine cw_exit (post_then_x (post_then_x (post_blk_eq (post_then (cw_seq (cw_region (sr rfl rfl rfl ((q_assign rfl rfl)) (sr rfl rfl rfl ((q_assign rfl rfl)) (sw_nil (post_then (cw_ret (post_ret2 rfl (resOk_tmp rfl) (resOk_tmp rfl) ?_))))))))))))
    exact fun w' hw => ⟨⟨none, 0, 0⟩, by rw [hF']; rfl, trivial, by rw [hF']; exact hw⟩
theorem someI_some {f : Nat → Option (List Int)} {c : List Int} : ∀ {m i : Nat}, someI f i m = some c → ∃ j, i ≤ j ∧ j < i + m ∧ f j = some c
  | 0, i, h => by simp [someI] at h
  | m + 1, i, h => by
    rw [someI] at h
    cases h1 : f i with
    | some x => rw [h1] at h; exact ⟨i, by omega, by omega, by rw [h1]; exact h⟩
    | none =>
      rw [h1] at h
      obtain ⟨j, h2, h3, h4⟩ := someI_some h
      exact ⟨j, by omega, by omega, h4⟩
theorem someI_none {f : Nat → Option (List Int)} : ∀ {m i : Nat}, someI f i m = none → ∀ j, i ≤ j → j < i + m → f j = none
  | 0, i, _, j, a, b => by omega
  | m + 1, i, h, j, a, b => by
    rw [someI] at h
    cases h1 : f i with
    | some x => rw [h1] at h; cases h
    | none =>
      rw [h1] at h
      by_cases e : j = i
      · subst e; exact h1
      · exact someI_none h j (by omega) (by omega)
theorem someF_some {n : Nat} {ms : List Nat} : ∀ {k : Nat} {ch : List Int} {fr : Nat} {c : List Int}, someF n ms k ch fr = some c → Cvr n ms c ∧ c.length = ch.length + k
  | 0, ch, fr, c, h => by
    rw [someF] at h
    split at h
    · rename_i h1
      cases h
      exact ⟨cvrB_iff.1 h1, rfl⟩
    · cases h
  | k + 1, ch, fr, c, h => by
    rw [someF] at h
    obtain ⟨j, _, _, h4⟩ := someI_some h
    have := someF_some h4
    simp only [List.length_append, List.length_cons, List.length_nil] at this
    exact ⟨this.1, by omega⟩
/-- All sets from one on, if they do: there is a cover. -/
theorem someF_all {n : Nat} {ms : List Nat} : ∀ {k : Nat} {ch : List Int} {f : Nat}, f + k = ms.length → (∀ x, x < n → (unL ms ch).testBit x = true ∨ ∃ j, f ≤ j ∧ j < ms.length ∧ (nth ms j).testBit x = true) → someF n ms k ch f ≠ none
  | 0, ch, f, he, h => by
    rw [someF, if_pos]
    · simp
    · refine cvrB_iff.2 fun x hx => ?_
      rcases h x hx with h1 | ⟨j, h2, h3, _⟩
      · exact h1
      · omega
  | k + 1, ch, f, he, h => by
    rw [someF]
    intro hn
    have h1 := someI_none hn f (Nat.le_refl _) (by omega)
    refine someF_all (k := k) (by omega) (fun x hx => ?_) h1
    rw [unL_snoc, Nat.testBit_or, Bool.or_eq_true]
    rcases h x hx with h2 | ⟨j, h3, h4, h5⟩
    · exact .inl (.inl h2)
    · by_cases e : j = f
      · subst e; exact .inl (.inr (by simpa using h5))
      · exact .inr ⟨j, by omega, h4, h5⟩
theorem least_some {n : Nat} {ms : List Nat} (hn : n ≤ 32) (hp : possN n ms = true) : ∃ c, leastF n ms = some c ∧ Cvr n ms c ∧ c.length ≤ ms.length := by
  have h1 := someF_all (n := n) (ms := ms) (k := ms.length) (ch := []) (f := 0) (by omega) (fun x hx => by
    obtain ⟨j, h2, h3⟩ := (possN_iff hn).1 hp x hx
    exact .inr ⟨j, Nat.zero_le _, h2, h3⟩)
  cases h : leastF n ms with
  | none => exact absurd (someI_none h ms.length (Nat.zero_le _) (by omega)) h1
  | some c =>
    obtain ⟨j, _, h3, h4⟩ := someI_some h
    have h5 := someF_some h4
    exact ⟨c, rfl, h5.1, by have := h5.2; simp only [List.length_nil] at this; omega⟩
end Go.Proofs.YtomjbfeafodfbaaGreat
