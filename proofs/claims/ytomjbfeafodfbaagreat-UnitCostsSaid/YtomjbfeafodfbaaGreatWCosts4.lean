import Derived.Test.YtomjbfeafodfbaaGreatWCosts3

set_option autoImplicit false
set_option linter.unusedSimpArgs false
set_option linter.unusedVariables false
set_option maxRecDepth 100000
namespace Go.Proofs.YtomjbfeafodfbaaGreat
open Go.Sx
open Enc (enc val)
def setB (n : Int) (s : List Int) : Bool := s.all fun x => inB x 0 (n - 1)
def covE (n : Int) (ls : List (List Int)) (most : Int) : Int := if 1000 < n ∨ most < ls.length then 4 else if n < 0 ∨ ls.all (setB n) = false then 2 else 0
theorem elem_spec (b : Nat) (n : Int) (hn : 0 ≤ n ∧ n ≤ 1000) (xs : List Int) : PredL Tryz.prog 117 #[.pointer (some ⟨b, 0, none⟩)] (fun x : Int => !inB x 0 (n - 1)) (fun w => BlkAt b [.int .i64 n] 3 w) xs := fun x _ w hR => by
  have hb := blk_stb hR
  refine calls_cw (vs := [_, _]) Tryz.func117 rfl Tryz.ntmps117 rfl (Cl.start0 w) (cw_seq (cw_region (sr rfl rfl rfl ((q_assign rfl rfl)) (sw_nil (post_then (cw_seq (cw_region (sr rfl rfl rfl ((q_move rfl rfl)) ?_))))))))
  refine sr rfl rfl rfl ((q_loadS rfl rfl (fun w hw => Stb.cl (by assumption) hw) rfl)) ?_
  refine sr rfl rfl rfl ((q_sub rfl rfl rfl (by intro hc; omega))) ?_
  refine sw_step rfl rfl rfl (q_call (CanCall.mk Tryz.call70) rfl (.cons rfl inferInstance (.cons rfl inferInstance (.cons rfl inferInstance (.nil)))) (fun _ w hw => callq hw (within_spec _ _ _ w))) (sr rfl rfl rfl ((q_not rfl rfl)) (sr rfl rfl rfl ((q_assign rfl rfl)) (sw_nil (post_then (cw_ret (post_ret1 rfl (resOk_tmp rfl) ?_))))))
  exact fun w' hw => ⟨rfl, hw⟩
theorem row_spec (b : Nat) (n : Int) (hn : 0 ≤ n ∧ n ≤ 1000) (sv : SlV) (vs : List SlV) (ls : List (List Int)) (c : SlV → List Int) (hc : ∀ i, i < ls.length → c (nth vs i) = nth ls i) : PredL Tryz.prog 116 #[.pointer (some ⟨b, 0, none⟩)] (fun s => !setB n (c s)) (fun w => BlkAt b [.int .i64 n] 3 w ∧ Mt w sv.v vs ls) vs := fun s hs w ⟨hR1, hR2⟩ => by
  have hb := blk_stb hR1
  obtain ⟨i, hi, rfl⟩ := List.getElem_of_mem hs
  have hn2 := hR2.n
  have e : vs[i] = nth vs i := (nth_get hi).symm
  rw [e]
  dsimp only
  rw [hc i (by omega)]
  have h1 := rd_stb (hR2.r i (by omega))
  refine calls_cw (vs := [_, _]) Tryz.func116 rfl Tryz.ntmps116 rfl (Cl.start0 w) (cw_seq (cw_region (sr rfl rfl rfl ((q_assign rfl rfl)) (sw_nil (post_then (cw_seq (cw_region (sr rfl rfl rfl ((q_move rfl rfl)) (sr rfl rfl rfl ((q_func_l rfl (.cons rfl inferInstance (.nil)))) ?_)))))))))
  refine sw_step rfl rfl rfl (q_call (CanCall.mk Tryz.call81) rfl (.cons rfl inferInstance (.cons rfl inferInstance (.nil))) (fun _ w hw => callq hw (containsInt_spec _ _ _ _ _ _ w (by exact stb_arg hw (by assumption)) (stb_arg hw hb) (CanCall.mk Tryz.call117) (elem_spec b n hn _)))) ?_
  refine sr rfl rfl rfl ((q_assign rfl rfl)) (sw_nil (post_then (cw_ret (post_ret1 rfl (resOk_tmp rfl) ?_))))
  refine fun w' hw => ⟨?_, hw⟩
  simp only [setB]
  rw [List.not_all_eq_any_not]
theorem any_rows {n : Int} {vs : List SlV} {ls : List (List Int)} {c : SlV → List Int} (hl : vs.length = ls.length) (hc : ∀ i, i < ls.length → c (nth vs i) = nth ls i) : (vs.any fun s => !setB n (c s)) = !ls.all (setB n) := by
  rw [← List.not_all_eq_any_not]
  congr 1
  rw [Bool.eq_iff_iff, List.all_eq_true, List.all_eq_true]
  constructor
  · intro h5 l hl2
    obtain ⟨i, hi, rfl⟩ := List.getElem_of_mem hl2
    have h6 := h5 (nth vs i) (nth_mem (by omega))
    rw [hc i hi, nth_get hi] at h6
    exact h6
  · intro h5 s hs
    obtain ⟨i, hi, rfl⟩ := List.getElem_of_mem hs
    have h6 := h5 (nth ls i) (nth_mem (by omega))
    rw [← nth_get hi, hc i (by omega)]
    exact h6
theorem covering_neg (n : Int) (hn : -9223372036854775808 ≤ n) (sv : SlV) (vs : List SlV) (ls : List (List Int)) (most : Int) (w : World) (hm : Stb w [] (fun w' => Mt w' sv.v vs ls)) (hE : covE n ls most ≠ 0) (hn0 : n < 0) :
    Calls Tryz.prog 75 #[.int .i64 n, sv.v, .int .i64 most] w fun e w' => e = .returned (.tuple #[.pointer none, .int .i64 (covE n ls most)]) ∧ Cl w [] [] w' := by
  have h1 : Stb w [] (RdL sv.v vs) := stb_map hm fun _ h => h.l
  have n1 := hm.here.n
  obtain ⟨c, hc⟩ := content hm.here
  refine calls_cw (vs := [_, _, _]) Tryz.func75 rfl Tryz.ntmps75 rfl (Cl.start0 w) (cw_seq (cw_region ?_))
  refine sw_x rfl rfl rfl (e_box rfl rfl rfl) (fun b3 => ?_)
  refine sr rfl rfl rfl ((q_assign rfl rfl)) (sr rfl rfl rfl ((q_assign rfl rfl)) (sw_nil (post_then (cw_seq (cw_seq (cw_region ?_))))))
  refine sr rfl rfl rfl ((q_loadC rfl rfl (by exact .head _) rfl)) ?_
  refine sr rfl rfl rfl ((q_gtr rfl rfl rfl)) (sr rfl rfl rfl ((q_move rfl rfl)) (sr rfl rfl rfl ((q_move rfl rfl)) ?_))
  refine sr rfl rfl rfl ((q_len rfl (.cons rfl inferInstance (.nil)) (by exact fun w hw => Stb.cl (by assumption) hw))) ?_
  refine sr rfl rfl rfl ((q_move rfl rfl)) (sr rfl rfl rfl ((q_gtr rfl rfl rfl)) (sr rfl rfl rfl ((q_or2 rfl rfl rfl)) (sw_nil (post_then ?_))))
  refine cw_cond rfl (fun h => ?_) (fun h => ?_)
  · skip
    have h2 : 1000 < n ∨ most < ls.length := by simp only [Bool.or_eq_true, decide_eq_true_eq] at h; omega
    refine cw_seq (cw_region (sr rfl rfl rfl ((q_assign rfl rfl)) (sr rfl rfl rfl ((q_assign rfl rfl)) (sw_nil (post_then (cw_ret (post_then_r (post_ret2 rfl (resOk_tmp rfl) (resOk_tmp rfl) ?_))))))))
    exact fun w' hw => ⟨by rw [covE, if_pos h2], (fun w h => Cl.sel (by exact .nil _) w h) _ hw⟩
  · skip
    have h2 : ¬ (1000 < n ∨ most < ls.length) := by simp only [Bool.or_eq_false_iff, decide_eq_false_iff_not] at h; omega
    have e0 : covE n ls most = if n < 0 ∨ ls.all (setB n) = false then 2 else 0 := by rw [covE, if_neg h2]
    refine cw_skip (post_then (cw_seq (cw_seq (cw_region ?_))))
    refine sr rfl rfl rfl ((q_loadC rfl rfl (by exact .head _) rfl)) ?_
    refine sr rfl rfl rfl ((q_lss rfl rfl rfl)) (sr rfl rfl rfl ((q_move rfl rfl)) (sr rfl rfl rfl ((q_move rfl rfl)) (sr rfl rfl rfl ((q_func_l rfl (.cons rfl inferInstance (.nil)))) ?_)))
    refine sr rfl rfl rfl ((q_off (v := .bool false) (by simp [AllT, hn0]))) ?_
    refine sr rfl rfl rfl ((q_or2 rfl rfl rfl)) (sw_nil (post_then ?_))
    refine cw_cond rfl (fun h3 => ?_) (fun h3 => ?_)
    · skip
      refine cw_seq (cw_region (sr rfl rfl rfl ((q_assign rfl rfl)) (sr rfl rfl rfl ((q_assign rfl rfl)) (sw_nil (post_then (cw_ret (post_then_r (post_ret2 rfl (resOk_tmp rfl) (resOk_tmp rfl) ?_))))))))
      exact fun w' hw => ⟨by rw [e0, if_pos (.inl hn0)], (fun w h => Cl.sel (by exact .nil _) w h) _ hw⟩
    · skip
      simp [hn0] at h3
theorem covering_pos (n : Int) (hn : -9223372036854775808 ≤ n) (sv : SlV) (vs : List SlV) (ls : List (List Int)) (most : Int) (w : World) (hm : Stb w [] (fun w' => Mt w' sv.v vs ls)) (hE : covE n ls most ≠ 0) (hn0 : ¬ n < 0) :
    Calls Tryz.prog 75 #[.int .i64 n, sv.v, .int .i64 most] w fun e w' => e = .returned (.tuple #[.pointer none, .int .i64 (covE n ls most)]) ∧ Cl w [] [] w' := by
  have h1 : Stb w [] (RdL sv.v vs) := stb_map hm fun _ h => h.l
  have n1 := hm.here.n
  obtain ⟨c, hc⟩ := content hm.here
  refine calls_cw (vs := [_, _, _]) Tryz.func75 rfl Tryz.ntmps75 rfl (Cl.start0 w) (cw_seq (cw_region ?_))
  refine sw_x rfl rfl rfl (e_box rfl rfl rfl) (fun b3 => ?_)
  refine sr rfl rfl rfl ((q_assign rfl rfl)) (sr rfl rfl rfl ((q_assign rfl rfl)) (sw_nil (post_then (cw_seq (cw_seq (cw_region ?_))))))
  refine sr rfl rfl rfl ((q_loadC rfl rfl (by exact .head _) rfl)) ?_
  refine sr rfl rfl rfl ((q_gtr rfl rfl rfl)) (sr rfl rfl rfl ((q_move rfl rfl)) (sr rfl rfl rfl ((q_move rfl rfl)) ?_))
  refine sr rfl rfl rfl ((q_len rfl (.cons rfl inferInstance (.nil)) (by exact fun w hw => Stb.cl (by assumption) hw))) ?_
  refine sr rfl rfl rfl ((q_move rfl rfl)) (sr rfl rfl rfl ((q_gtr rfl rfl rfl)) (sr rfl rfl rfl ((q_or2 rfl rfl rfl)) (sw_nil (post_then ?_))))
  refine cw_cond rfl (fun h => ?_) (fun h => ?_)
  · skip
    have h2 : 1000 < n ∨ most < ls.length := by simp only [Bool.or_eq_true, decide_eq_true_eq] at h; omega
    refine cw_seq (cw_region (sr rfl rfl rfl ((q_assign rfl rfl)) (sr rfl rfl rfl ((q_assign rfl rfl)) (sw_nil (post_then (cw_ret (post_then_r (post_ret2 rfl (resOk_tmp rfl) (resOk_tmp rfl) ?_))))))))
    exact fun w' hw => ⟨by rw [covE, if_pos h2], (fun w h => Cl.sel (by exact .nil _) w h) _ hw⟩
  · skip
    have h2 : ¬ (1000 < n ∨ most < ls.length) := by simp only [Bool.or_eq_false_iff, decide_eq_false_iff_not] at h; omega
    have e0 : covE n ls most = if n < 0 ∨ ls.all (setB n) = false then 2 else 0 := by rw [covE, if_neg h2]
    have hn1 : 0 ≤ n ∧ n ≤ 1000 := by omega
    refine cw_skip (post_then (cw_seq (cw_seq (cw_region ?_))))
    refine sr rfl rfl rfl ((q_loadC rfl rfl (by exact .head _) rfl)) ?_
    refine sr rfl rfl rfl ((q_lss rfl rfl rfl)) (sr rfl rfl rfl ((q_move rfl rfl)) (sr rfl rfl rfl ((q_move rfl rfl)) (sr rfl rfl rfl ((q_func_l rfl (.cons rfl inferInstance (.nil)))) ?_)))
    refine sw_step rfl rfl rfl (q_call (CanCall.mk Tryz.call95) rfl (.cons rfl inferInstance (.cons rfl inferInstance (.nil))) (fun _ w1 hw => callq hw (containsRow_spec _ vs _ _ _ _ w1 (stb_arg hw h1) ⟨fun w' k => ⟨(blk_stb (blk_here hw (by exact .head _))).stb w' k, (stb_arg hw hm).stb w' k⟩⟩ (CanCall.mk Tryz.call116) (row_spec b3 n hn1 sv vs ls c hc)))) ?_
    refine sr rfl rfl rfl ((q_or2 rfl rfl rfl)) (sw_nil (post_then ?_))
    rw [any_rows n1 hc]
    refine cw_cond rfl (fun h3 => ?_) (fun h3 => ?_)
    · skip
      have h4 : n < 0 ∨ ls.all (setB n) = false := by
        right
        cases h5 : ls.all (setB n)
        · rfl
        · rw [h5] at h3; simp at h3; omega
      refine cw_seq (cw_region (sr rfl rfl rfl ((q_assign rfl rfl)) (sr rfl rfl rfl ((q_assign rfl rfl)) (sw_nil (post_then (cw_ret (post_then_r (post_ret2 rfl (resOk_tmp rfl) (resOk_tmp rfl) ?_))))))))
      exact fun w' hw => ⟨by rw [e0, if_pos h4], (fun w h => Cl.sel (by exact .nil _) w h) _ hw⟩
    · skip
      exfalso
      apply hE
      rw [e0, if_neg]
      rintro (h4 | h4)
      · omega
      · rw [h4] at h3; simp at h3
theorem covering_no (n : Int) (hn : -9223372036854775808 ≤ n) (sv : SlV) (vs : List SlV) (ls : List (List Int)) (most : Int) (w : World) (hm : Stb w [] (fun w' => Mt w' sv.v vs ls)) (hE : covE n ls most ≠ 0) :
    Calls Tryz.prog 75 #[.int .i64 n, sv.v, .int .i64 most] w fun e w' => e = .returned (.tuple #[.pointer none, .int .i64 (covE n ls most)]) ∧ Cl w [] [] w' := by
  by_cases h : n < 0
  · exact covering_neg n hn sv vs ls most w hm hE h
  · exact covering_pos n hn sv vs ls most w hm hE h
theorem empty_spec (b n : Nat) (hn : n ≤ 30) (w : World) (hb : Stb w [] (BlkAt b [.int .i64 n] 3)) : Calls Tryz.prog 118 #[.pointer (some ⟨b, 0, none⟩)] w fun e w' => ∃ r : SlV, e = .returned r.v ∧ True ∧ Cl w [] [ownL 156 r.v (ws n 0)] w' := by
  refine calls_cw (vs := [_]) Tryz.func118 rfl Tryz.ntmps118 rfl (Cl.start0 w) (cw_seq (cw_region (sr rfl rfl rfl ((q_assign rfl rfl)) (sw_nil (post_then (cw_seq (cw_region ?_)))))))
  refine sr rfl rfl rfl ((q_loadS rfl rfl (fun w hw => Stb.cl (by assumption) hw) rfl)) ?_
  refine sr rfl rfl rfl ((q_add rfl rfl rfl (by intro hc; omega))) ?_
  refine sr rfl rfl rfl ((q_quo rfl rfl rfl (by intro hc; omega))) ?_
  refine sw_x rfl rfl rfl (e_make (α := UW) (zero := ⟨0⟩) rfl rfl rfl rfl rfl (by omega) (by omega) (by decide)) (fun s5 => ?_)
  refine sr rfl rfl rfl ((q_assign rfl rfl)) (sw_nil (post_then (cw_ret (post_ret1 rfl (resOk_tmp rfl) ?_))))
  refine fun w' hw => ⟨s5, rfl, trivial, ?_⟩
  have e : List.replicate (((n : Int) + 63) / 64).toNat (⟨0⟩ : UW) = ws n 0 := by
    unfold ws
    by_cases h : n = 0
    · subst h; rfl
    · rw [if_neg h, show (((n : Int) + 63) / 64).toNat = 1 by omega]; rfl
  rw [e] at hw
  exact hw
def rowU (n : Nat) (g : SlV × Nat) : Asn := ownL 156 g.1.v (ws n g.2)
structure CGood (y : CV × List (SlV × Nat)) (n : Nat) (ls : List (List Int)) : Prop where
  n : y.1.n = n
  l : y.1.ls = y.2.map (·.1)
  m : y.1.ms = y.2.map (·.2)
  ms : y.1.ms = ls.map mask
def CV.F (y : CV × List (SlV × Nat)) : List Asn := blk y.1.bc [.int .i64 y.1.n, y.1.ss.v, y.1.sa.v] 117 :: ownL 115 y.1.ss.v y.1.ls :: ownL 156 y.1.sa.v (ws y.1.n (fullN y.1.n)) :: y.2.map (rowU y.1.n)
theorem cv_rd {y : CV × List (SlV × Nat)} {n : Nat} {ls : List (List Int)} (g : CGood y n ls) {w : World} {bs : List Nat} {F : List Asn} (h5 : ∀ G ∈ F, ∃ b2, Stb w bs fun w' => G.holds w' b2) (hF : ∀ A ∈ CV.F y, A ∈ F) : Stb w bs y.1.Rd := by
  obtain ⟨⟨bc, n', ss, l', sa, ms⟩, G⟩ := y
  obtain ⟨e1, e2, e3, e4⟩ := g
  dsimp only at e1 e2 e3 e4
  subst e1 e2 e3
  have f1 := lend_blk h5 (hF _ (.head _))
  have f2 := lend_own h5 (hF _ (.tail _ (.head _)))
  have f3 := lend_own h5 (hF _ (.tail _ (.tail _ (.head _))))
  refine ⟨fun w' k => ⟨f1.stb w' k, f2.stb w' k, by simp, fun i hi => ?_, f3.stb w' k⟩⟩
  dsimp only at hi ⊢
  rw [List.length_map] at hi
  have f4 : Stb w bs (RdL (nth G i).1.v (ws n' (nth G i).2)) := lend_own (e := 156) h5 (hF _ (.tail _ (.tail _ (.tail _ (List.mem_map_of_mem (f := rowU n') (nth_mem hi))))))
  have e5 : nth (G.map (·.1)) i = (nth G i).1 := by rw [nth_get (by simpa using hi), nth_get hi]; simp
  have e6 : nth (G.map (·.2)) i = (nth G i).2 := by rw [nth_get (by simpa using hi), nth_get hi]; simp
  rw [e5, e6]
  exact f4.stb w' k
theorem mask_bits {n : Nat} {s : List Int} (h : setB n s = true) : (∀ i, (mask s).testBit i = true → i < n) ∧ ∀ x ∈ s, 0 ≤ x ∧ x < n := by
  have h1 : ∀ x ∈ s, 0 ≤ x ∧ x < n := fun x hx => by
    have := List.all_eq_true.1 h x hx
    simp only [inB, Bool.and_eq_true, decide_eq_true_eq] at this
    omega
  refine ⟨fun i hi => ?_, h1⟩
  obtain ⟨j, hj, e⟩ := (maskTo_bit s i s.length).1 hi
  have := h1 _ (nth_mem hj)
  omega
theorem covE_ok {n : Int} {ls : List (List Int)} {most : Int} (h : covE n ls most = 0) : n ≤ 1000 ∧ ls.length ≤ most ∧ 0 ≤ n ∧ ∀ s ∈ ls, setB n s = true := by
  unfold covE at h
  split at h
  · cases h
  · split at h
    · cases h
    · rename_i h1 h2
      refine ⟨by omega, by omega, by omega, fun s hs => ?_⟩
      have : ¬ ls.all (setB n) = false := fun e => h2 (.inr e)
      rw [Bool.not_eq_false, List.all_eq_true] at this
      exact this s hs
theorem cgood_ok {y : CV × List (SlV × Nat)} {n : Nat} {ls : List (List Int)} {most : Int} (g : CGood y n ls) (hn : n ≤ 30) (hE : covE n ls most = 0) (hl : ls.length ≤ 1000) : y.1.Ok := by
  obtain ⟨h1, h2, h3, h4⟩ := covE_ok hE
  refine ⟨by rw [g.n]; exact hn, fun m hm => ?_, by rw [g.ms]; simpa using hl⟩
  rw [g.ms] at hm
  obtain ⟨s, hs, rfl⟩ := List.mem_map.1 hm
  rw [g.n]
  exact (mask_bits (h4 s hs)).1
structure CW1 where
  i : Nat
  ss : SlV
  G : List (SlV × Nat)
theorem covering_yes (n : Nat) (hn : n ≤ 30) (sv : SlV) (vs : List SlV) (ls : List (List Int)) (most : Int) (w : World) (hm : Stb w [] (fun w' => Mt w' sv.v vs ls)) (hl : ls.length ≤ 1000) (hE : covE n ls most = 0) :
    Calls Tryz.prog 75 #[.int .i64 n, sv.v, .int .i64 most] w fun e w' => ∃ y : CV × List (SlV × Nat), e = .returned (.tuple #[.pointer (some ⟨y.1.bc, 0, none⟩), .int .i64 0]) ∧ CGood y n ls ∧ Cl w [] (CV.F y) w' := by
  have h1 : Stb w [] (RdL sv.v vs) := stb_map hm fun _ h => h.l
  have n1 := hm.here.n
  obtain ⟨c, hc⟩ := content hm.here
  obtain ⟨q1, q2, q3, q4⟩ := covE_ok hE
  have hn1 : 0 ≤ (n : Int) ∧ (n : Int) ≤ 1000 := by omega
  refine calls_cw (vs := [_, _, _]) Tryz.func75 rfl Tryz.ntmps75 rfl (Cl.start0 w) (cw_seq (cw_region ?_))
  refine sw_x rfl rfl rfl (e_box rfl rfl rfl) (fun b3 => ?_)
  refine sr rfl rfl rfl ((q_assign rfl rfl)) (sr rfl rfl rfl ((q_assign rfl rfl)) (sw_nil (post_then (cw_seq (cw_seq (cw_region ?_))))))
  refine sr rfl rfl rfl ((q_loadC rfl rfl (by exact .head _) rfl)) ?_
  refine sr rfl rfl rfl ((q_gtr rfl rfl rfl)) (sr rfl rfl rfl ((q_move rfl rfl)) (sr rfl rfl rfl ((q_move rfl rfl)) ?_))
  refine sr rfl rfl rfl ((q_len rfl (.cons rfl inferInstance (.nil)) (by exact fun w hw => Stb.cl (by assumption) hw))) ?_
  refine sr rfl rfl rfl ((q_move rfl rfl)) (sr rfl rfl rfl ((q_gtr rfl rfl rfl)) (sr rfl rfl rfl ((q_or2 rfl rfl rfl)) (sw_nil (post_then ?_))))
  refine cw_cond rfl (fun h => ?_) (fun h => ?_)
  · skip
    exfalso
    simp only [Bool.or_eq_true, decide_eq_true_eq] at h; omega
  · skip
    clear h
    refine cw_skip (post_then (cw_seq (cw_seq (cw_region ?_))))
    refine sr rfl rfl rfl ((q_loadC rfl rfl (by exact .head _) rfl)) ?_
    refine sr rfl rfl rfl ((q_lss rfl rfl rfl)) (sr rfl rfl rfl ((q_move rfl rfl)) (sr rfl rfl rfl ((q_move rfl rfl)) (sr rfl rfl rfl ((q_func_l rfl (.cons rfl inferInstance (.nil)))) ?_)))
    refine sw_step rfl rfl rfl (q_call (CanCall.mk Tryz.call95) rfl (.cons rfl inferInstance (.cons rfl inferInstance (.nil))) (fun _ w1 hw => callq hw (containsRow_spec _ vs _ _ _ _ w1 (stb_arg hw h1) ⟨fun w' k => ⟨(blk_stb (blk_here hw (by exact .head _))).stb w' k, (stb_arg hw hm).stb w' k⟩⟩ (CanCall.mk Tryz.call116) (row_spec b3 n hn1 sv vs ls c hc)))) ?_
    refine sr rfl rfl rfl ((q_or2 rfl rfl rfl)) (sw_nil (post_then ?_))
    rw [any_rows n1 hc]
    refine cw_cond rfl (fun h3 => ?_) (fun h3 => ?_)
    · skip
      exfalso
      rw [List.all_eq_true.2 q4] at h3
      simp at h3; omega
    · skip
      clear h3
      refine cw_skip (post_then (cw_seq (cw_region (sr rfl rfl rfl ((q_func_l rfl (.cons rfl inferInstance (.nil)))) (sr rfl rfl rfl ((q_assign rfl rfl)) (sw_nil (post_then (cw_seq (cw_region_a (Cl w [] [blk b3 [.int .i64 n] 3]) [] mixed_Tryz ?_)))))))))
      refine aw_take 0 (fun w h => Cl.sel (by exact .take 0 rfl (.nil _)) w h) rfl (by kernel_rfl) (by kernel_rfl) (by kernel_rfl) (by kernel_rfl) (by kernel_rfl) (by kernel_rfl) rfl rfl rfl (q_loadC rfl rfl (by exact .head _) rfl) ?_
      refine aw_pure 1 rfl (by kernel_rfl) (by kernel_rfl) (by kernel_rfl) (by kernel_rfl) (by kernel_rfl) rfl rfl rfl (q_move rfl rfl) ?_
      refine aw_x 2 (by kernel_rfl) rfl rfl rfl rfl (e_callH (A := []) (F := [blk b3 [.int .i64 n] 3]) (CanCall.mk Tryz.call118) rfl rfl (.nil) (.refl _) (fun w bs k1 k2 k3 k4 k5 => by cases k1; exact empty_spec b3 n hn w (lend_blk k5 (.head _)))) (by intro hb; exact fun _ w h => (fun w h => Cl.sel (by exact .take 1 rfl (.nil _)) w h) w h.2) (fun s34 => ?_)
      refine aw_imp fun _ => ?_
      refine aw_pure 3 rfl (by kernel_rfl) (by kernel_rfl) (by kernel_rfl) (by kernel_rfl) (by kernel_rfl) rfl rfl rfl (q_build (cells := [.int .i64 n, .slice none 0 0, s34.v]) rfl (.cons rfl inferInstance (.cons rfl inferInstance (.nil))) (by rfl)) ?_
      refine aw_x 4 (by kernel_rfl) rfl rfl rfl rfl (e_box rfl rfl rfl) (by intro hb; exact fun _ => (fun w h => Cl.sel (by exact .take 2 rfl (.nil _)) w h)) (fun b36 => ?_)
      refine aw_pure 5 rfl (by kernel_rfl) (by kernel_rfl) (by kernel_rfl) (by kernel_rfl) (by kernel_rfl) rfl rfl rfl (q_assign rfl rfl) ?_
      refine aw_end (by kernel_rfl) ?_
      refine post_then (cw_seq (cw_seq (cw_region ?_)))
      refine sr rfl rfl rfl ((q_loadC rfl rfl (by exact .tail _ (.tail _ (.head _))) rfl)) ?_
      refine sr rfl rfl rfl ((q_move rfl rfl)) (sw_nil (post_then (cw_block ?_)))
      refine cw_loop (S := Nat) (fun x => [(1, [], sv.v), (8, [], .func (.func 118) #[] #[.pointer (some ⟨b3, 0, none⟩)]), (9, [], .pointer (some ⟨b36, 0, none⟩)), (37, [], .int .i64 n), (38, [], .int .i64 x)]) (fun x => Cl w [] [blk b3 [.int .i64 n] 3, blk b36 [.int .i64 n, .slice none 0 0, s34.v] 117, ownL 156 s34.v (ws n (fullN x))]) (fun x => x ≤ n) (fun x => n - x) 0 (Nat.zero_le _) (by exact .cons rfl (.cons rfl (.cons rfl (.cons rfl (.cons rfl .nil))))) (fun w h => Cl.sel (by exact .take 2 rfl (.take 0 rfl (.take 0 rfl (.nil _)))) w h) ?_
      intro x hx
      refine cw_seq (cw_region (sr rfl rfl rfl ((q_lss rfl rfl rfl)) (sw_nil (post_then (cw_seq ?_)))))
      refine cw_cond rfl (fun h => ?_) (fun h => ?_)
      · skip
        have hx' : x < n := by simp only [decide_eq_true_eq] at h; omega
        have hn0 : 0 < n := by omega
        have f1 : fullN x < 2 ^ 32 := Nat.lt_of_lt_of_le (Nat.sub_lt (Nat.two_pow_pos x) (by decide)) (Nat.pow_le_pow_right (by decide) (by omega))
        have f2 : 2 ^ x < 2 ^ 32 := two_lt (by omega)
        refine cw_c (C' := Cl w [] [blk b3 [.int .i64 n] 3, blk b36 [.int .i64 n, .slice none 0 0, s34.v] 117, ownL 156 s34.v [UW.mk (fullN x)]]) (fun w3 h => by rw [ws_pos hn0] at h; exact h) ?_
        refine cw_skip (post_then (cw_seq (cw_block (cw_seq (cw_region (sr rfl rfl rfl ((q_move rfl rfl)) (sr rfl rfl rfl ((q_assign rfl rfl)) (sw_nil (post_then (cw_region_a (Cl w [] [blk b36 [.int .i64 n, .slice none 0 0, s34.v] 117, ownL 156 s34.v [UW.mk (fullN x)]]) [13] mixed_Tryz ?_))))))))))
        refine aw_pure 0 rfl (by kernel_rfl) (by kernel_rfl) (by kernel_rfl) (by kernel_rfl) (by kernel_rfl) rfl rfl rfl (q_move rfl rfl) ?_
        refine aw_pure 1 rfl (by kernel_rfl) (by kernel_rfl) (by kernel_rfl) (by kernel_rfl) (by kernel_rfl) rfl rfl rfl (q_nilCheck rfl rfl) ?_
        refine aw_take 2 (fun w h => Cl.sel (by exact .take 1 rfl (.take 1 rfl (.nil _))) w h) rfl (by kernel_rfl) (by kernel_rfl) (by kernel_rfl) (by kernel_rfl) (by kernel_rfl) (by kernel_rfl) rfl rfl rfl (q_fieldAddr rfl rfl) ?_
        refine aw_take 3 (fun w h => Cl.sel (by exact .take 1 rfl (.take 1 rfl (.nil _))) w h) rfl (by kernel_rfl) (by kernel_rfl) (by kernel_rfl) (by kernel_rfl) (by kernel_rfl) (by kernel_rfl) rfl rfl rfl (q_loadC rfl rfl (by exact .head _) rfl) ?_
        refine aw_pure 4 rfl (by kernel_rfl) (by kernel_rfl) (by kernel_rfl) (by kernel_rfl) (by kernel_rfl) rfl rfl rfl (q_move rfl rfl) ?_
        refine aw_pure 5 rfl (by kernel_rfl) (by kernel_rfl) (by kernel_rfl) (by kernel_rfl) (by kernel_rfl) rfl rfl rfl (q_quo rfl rfl rfl (by intro hc; omega)) ?_
        refine aw_pure 8 rfl (by kernel_rfl) (by kernel_rfl) (by kernel_rfl) (by kernel_rfl) (by kernel_rfl) rfl rfl rfl (q_move rfl rfl) ?_
        refine aw_pure 9 rfl (by kernel_rfl) (by kernel_rfl) (by kernel_rfl) (by kernel_rfl) (by kernel_rfl) rfl rfl rfl (q_rem rfl rfl rfl (by intro hc; omega)) ?_
        rw [show ((x : Int) / 64) = ((0 : Nat) : Int) by omega, show ((x : Int) % 64) = (x : Int) by omega]
        refine aw_take 6 (fun w h => Cl.sel (by exact .take 1 rfl (.take 1 rfl (.nil _))) w h) rfl (by kernel_rfl) (by kernel_rfl) (by kernel_rfl) (by kernel_rfl) (by kernel_rfl) (by kernel_rfl) rfl rfl rfl (q_indexN rfl rfl rfl (by exact fun w hw => rd_own hw (by exact .tail _ (.head _))) (by intro hc; (simp only [List.length_set, List.length_append, List.length_cons, List.length_nil, List.length_replicate, List.length_take, List.length_drop, List.length_map]; omega))) ?_
        refine aw_take 7 (fun w h => Cl.sel (by exact .take 1 rfl (.take 1 rfl (.nil _))) w h) rfl (by kernel_rfl) (by kernel_rfl) (by kernel_rfl) (by kernel_rfl) (by kernel_rfl) (by kernel_rfl) rfl rfl rfl (q_loadEl rfl rfl rfl (by exact fun w hw => rd_own hw (by exact .tail _ (.head _))) (by intro hc; (simp only [List.length_set, List.length_append, List.length_cons, List.length_nil, List.length_replicate, List.length_take, List.length_drop, List.length_map]; omega))) ?_
        refine aw_pure 10 rfl (by kernel_rfl) (by kernel_rfl) (by kernel_rfl) (by kernel_rfl) (by kernel_rfl) rfl rfl rfl (q_shl1 (k := x) rfl rfl rfl (by omega)) ?_
        refine aw_pure 11 rfl (by kernel_rfl) (by kernel_rfl) (by kernel_rfl) (by kernel_rfl) (by kernel_rfl) rfl rfl rfl (q_orK (a := fullN x) (b := 2 ^ x) rfl rfl rfl (fun _ => by omega)) ?_
        refine aw_take 12 (fun w h => Cl.sel (by exact .take 1 rfl (.take 1 rfl (.nil _))) w h) rfl (by kernel_rfl) (by kernel_rfl) (by kernel_rfl) (by kernel_rfl) (by kernel_rfl) (by kernel_rfl) rfl rfl rfl (q_indexN rfl rfl rfl (by exact fun w hw => rd_own hw (by exact .tail _ (.head _))) (by intro hc; (simp only [List.length_set, List.length_append, List.length_cons, List.length_nil, List.length_replicate, List.length_take, List.length_drop, List.length_map]; omega))) ?_
        refine aw_one0 13 (by kernel_rfl) rfl rfl rfl (e_storeEl1 (i := 2) rfl rfl rfl rfl rfl (by (simp only [List.length_set, List.length_append, List.length_cons, List.length_nil, List.length_replicate, List.length_take, List.length_drop, List.length_map]; omega))) (by intro hb; (exact absurd hb (by decide))) ?_
        refine aw_end (by kernel_rfl) ?_
        refine post_blk (post_then (cw_region ?_))
        refine sr rfl rfl rfl ((q_add rfl rfl rfl (by intro hc; omega))) ?_
        refine sr rfl rfl rfl ((q_move rfl rfl)) (sw_nil ?_)
        refine post_next (x + 1) (by exact .cons rfl (.cons rfl (.cons rfl (.cons rfl (.cons rfl .nil))))) (fun w3 hw3 => ?_) (by omega) (by omega)
        rw [ws_pos hn0, ← fullN_succ]
        exact hw3
      · skip
        have hx' : x = n := by simp only [decide_eq_false_iff_not] at h; omega
        subst hx'
        refine cw_c (C' := Cl w [] [ownL 115 (SlV.v ⟨none, 0, 0⟩) ([] : List SlV), blk b3 [.int .i64 x] 3, blk b36 [.int .i64 x, .slice none 0 0, s34.v] 117, ownL 156 s34.v (ws x (fullN x))]) (fun w3 h => h.addNil (α := SlV) 115) (cw_exit (post_then_x (post_then_x (post_blk_eq (post_then (cw_seq (cw_seq (cw_region (sr rfl rfl rfl ((q_move rfl rfl)) ?_)))))))))
        refine sr rfl rfl rfl ((q_len rfl (.cons rfl inferInstance (.nil)) (by exact fun w hw => Stb.cl (by assumption) hw))) ?_
        refine sr rfl rfl rfl ((q_move rfl rfl)) (sw_nil (post_then (cw_block ?_)))
        refine cw_loop (S := CW1) (fun y => [(8, [], .func (.func 118) #[] #[.pointer (some ⟨b3, 0, none⟩)]), (9, [], .pointer (some ⟨b36, 0, none⟩)), (55, [], sv.v), (56, [], .int .i64 ls.length), (57, [], .int .i64 y.i)]) (fun y => Cl w [] (blk b3 [.int .i64 x] 3 :: blk b36 [.int .i64 x, y.ss.v, s34.v] 117 :: ownL 115 y.ss.v (y.G.map (·.1)) :: ownL 156 s34.v (ws x (fullN x)) :: y.G.map (rowU x))) (fun y => y.i ≤ ls.length ∧ y.G.map (·.2) = (ls.take y.i).map mask) (fun y => ls.length - y.i) ⟨0, ⟨none, 0, 0⟩, []⟩ ⟨Nat.zero_le _, rfl⟩ ?_ (fun w h => Cl.sel (by exact .take 1 rfl (.take 1 rfl (.take 0 rfl (.take 0 rfl (.nil _))))) w h) ?_
        · exact Le.cons rfl (Le.cons rfl (Le.cons rfl (Le.cons' rfl (by rw [n1]) (Le.cons rfl Le.nil))))
        rintro ⟨i, ss, G⟩ ⟨hi, hG⟩
        dsimp only at hi hG ⊢
        have hGl : G.length = i := by
          have := congrArg List.length hG
          simp only [List.length_map, List.length_take] at this
          omega
        refine cw_seq (cw_region (sr rfl rfl rfl ((q_lss rfl rfl rfl)) (sw_nil (post_then (cw_seq ?_)))))
        refine cw_cond rfl (fun h2 => ?_) (fun h2 => ?_)
        · skip
          have hi' : i < ls.length := by simp only [decide_eq_true_eq] at h2; omega
          have hrow := stb_map hm fun _ h => h.r i hi'
          have hsb := mask_bits (q4 _ (nth_mem hi'))
          have hrl := rd_len hrow.here
          refine cw_skip (post_then (cw_seq (cw_block (cw_seq (cw_region ?_)))))
          refine sr rfl rfl rfl ((q_indexN rfl rfl rfl (by exact fun w hw => Stb.cl (by assumption) hw) (by intro hc; omega))) ?_
          refine sr rfl rfl rfl ((q_loadEl rfl rfl rfl (by exact fun w hw => Stb.cl (by assumption) hw) (by intro hc; omega))) ?_
          refine sr rfl rfl rfl ((q_assign rfl rfl)) (sw_nil (post_then (cw_seq (cw_region (sr rfl rfl rfl ((q_move rfl rfl)) ?_)))))
          refine sw_x rfl rfl rfl (e_callH (A := []) (F := blk b3 [.int .i64 x] 3 :: blk b36 [.int .i64 x, ss.v, s34.v] 117 :: ownL 115 ss.v (G.map (·.1)) :: ownL 156 s34.v (ws x (fullN x)) :: G.map (rowU x)) (CanCall.mk Tryz.call118) rfl rfl (.nil) (.refl _) (fun w bs k1 k2 k3 k4 k5 => by cases k1; exact empty_spec b3 x hn w (lend_blk k5 (.head _)))) (fun s62 => ?_)
          refine sw_imp fun _ => (sr rfl rfl rfl ((q_assign rfl rfl)) (sw_nil (post_then (cw_seq (cw_seq (cw_region (sr rfl rfl rfl ((q_move rfl rfl)) ?_)))))))
          refine sr rfl rfl rfl ((q_len rfl (.cons rfl inferInstance (.nil)) (by exact fun w hw => Stb.cl (by assumption) hw))) ?_
          refine sr rfl rfl rfl ((q_move rfl rfl)) (sw_nil (post_then (cw_block ?_)))
          refine cw_loop (S := Nat) (fun j => [(8, [], .func (.func 118) #[] #[.pointer (some ⟨b3, 0, none⟩)]), (9, [], .pointer (some ⟨b36, 0, none⟩)), (13, [], s62.v), (55, [], sv.v), (56, [], .int .i64 ls.length), (57, [], .int .i64 i), (63, [], (nth vs i).v), (64, [], .int .i64 (nth ls i).length), (65, [], .int .i64 j)]) (fun j => Cl w [] (ownL 156 s62.v (ws x (maskTo (nth ls i) j)) :: blk b3 [.int .i64 x] 3 :: blk b36 [.int .i64 x, ss.v, s34.v] 117 :: ownL 115 ss.v (G.map (·.1)) :: ownL 156 s34.v (ws x (fullN x)) :: G.map (rowU x))) (fun j => j ≤ (nth ls i).length) (fun j => (nth ls i).length - j) 0 (Nat.zero_le _) (by exact .cons rfl (.cons rfl (.cons rfl (.cons rfl (.cons rfl (.cons rfl (.cons rfl (.cons rfl (.cons rfl .nil))))))))) (fun _ h => h) ?_
          intro j hj
          refine cw_seq (cw_region (sr rfl rfl rfl ((q_lss rfl rfl rfl)) (sw_nil (post_then (cw_seq ?_)))))
          refine cw_cond rfl (fun h3 => ?_) (fun h3 => ?_)
          · skip
            have hj' : j < (nth ls i).length := by simp only [decide_eq_true_eq] at h3; omega
            have hel := hsb.2 _ (nth_mem hj')
            have hn0 : 0 < x := by omega
            have f1 : maskTo (nth ls i) j < 2 ^ 32 := Nat.lt_of_lt_of_le (maskTo_lt hsb.2 j hj) (Nat.pow_le_pow_right (by decide) (by omega))
            have f2 : 2 ^ (nth (nth ls i) j).toNat < 2 ^ 32 := two_lt (by omega)
            refine cw_c (C' := Cl w [] (ownL 156 s62.v [UW.mk (maskTo (nth ls i) j)] :: blk b3 [.int .i64 x] 3 :: blk b36 [.int .i64 x, ss.v, s34.v] 117 :: ownL 115 ss.v (G.map (·.1)) :: ownL 156 s34.v (ws x (fullN x)) :: G.map (rowU x))) (fun w3 h => by rw [ws_pos hn0] at h; exact h) ?_
            refine cw_skip (post_then (cw_seq (cw_block (cw_seq (cw_region ?_)))))
            refine sr rfl rfl rfl ((q_indexN rfl rfl rfl (by exact fun w hw => Stb.cl (by assumption) hw) (by intro hc; omega))) ?_
            refine sr rfl rfl rfl ((q_loadEl rfl rfl rfl (by exact fun w hw => Stb.cl (by assumption) hw) (by intro hc; omega))) ?_
            refine sr rfl rfl rfl ((q_assign rfl rfl)) (sw_nil (post_then (cw_region_a (Cl w [] [ownL 156 s62.v [UW.mk (maskTo (nth ls i) j)]]) [10] mixed_Tryz ?_)))
            refine aw_pure 0 rfl (by kernel_rfl) (by kernel_rfl) (by kernel_rfl) (by kernel_rfl) (by kernel_rfl) rfl rfl rfl (q_move rfl rfl) ?_
            refine aw_pure 1 rfl (by kernel_rfl) (by kernel_rfl) (by kernel_rfl) (by kernel_rfl) (by kernel_rfl) rfl rfl rfl (q_move rfl rfl) ?_
            refine aw_pure 2 rfl (by kernel_rfl) (by kernel_rfl) (by kernel_rfl) (by kernel_rfl) (by kernel_rfl) rfl rfl rfl (q_quo rfl rfl rfl (by intro hc; omega)) ?_
            refine aw_pure 5 rfl (by kernel_rfl) (by kernel_rfl) (by kernel_rfl) (by kernel_rfl) (by kernel_rfl) rfl rfl rfl (q_move rfl rfl) ?_
            refine aw_pure 6 rfl (by kernel_rfl) (by kernel_rfl) (by kernel_rfl) (by kernel_rfl) (by kernel_rfl) rfl rfl rfl (q_rem rfl rfl rfl (by intro hc; omega)) ?_
            rw [show (nth (nth ls i) j / 64) = ((0 : Nat) : Int) by omega, show (nth (nth ls i) j % 64) = ((nth (nth ls i) j).toNat : Int) by omega]
            refine aw_take 3 (fun w h => Cl.sel (by exact .take 0 rfl (.nil _)) w h) rfl (by kernel_rfl) (by kernel_rfl) (by kernel_rfl) (by kernel_rfl) (by kernel_rfl) (by kernel_rfl) rfl rfl rfl (q_indexN rfl rfl rfl (by exact fun w hw => rd_own hw (by exact .head _)) (by intro hc; (simp only [List.length_set, List.length_append, List.length_cons, List.length_nil, List.length_replicate, List.length_take, List.length_drop, List.length_map]; omega))) ?_
            refine aw_take 4 (fun w h => Cl.sel (by exact .take 0 rfl (.nil _)) w h) rfl (by kernel_rfl) (by kernel_rfl) (by kernel_rfl) (by kernel_rfl) (by kernel_rfl) (by kernel_rfl) rfl rfl rfl (q_loadEl rfl rfl rfl (by exact fun w hw => rd_own hw (by exact .head _)) (by intro hc; (simp only [List.length_set, List.length_append, List.length_cons, List.length_nil, List.length_replicate, List.length_take, List.length_drop, List.length_map]; omega))) ?_
            refine aw_pure 7 rfl (by kernel_rfl) (by kernel_rfl) (by kernel_rfl) (by kernel_rfl) (by kernel_rfl) rfl rfl rfl (q_shl1 (k := (nth (nth ls i) j).toNat) rfl rfl rfl (by omega)) ?_
            refine aw_pure 8 rfl (by kernel_rfl) (by kernel_rfl) (by kernel_rfl) (by kernel_rfl) (by kernel_rfl) rfl rfl rfl (q_orK (a := maskTo (nth ls i) j) (b := 2 ^ (nth (nth ls i) j).toNat) rfl rfl rfl (fun _ => by omega)) ?_
            refine aw_take 9 (fun w h => Cl.sel (by exact .take 0 rfl (.nil _)) w h) rfl (by kernel_rfl) (by kernel_rfl) (by kernel_rfl) (by kernel_rfl) (by kernel_rfl) (by kernel_rfl) rfl rfl rfl (q_indexN rfl rfl rfl (by exact fun w hw => rd_own hw (by exact .head _)) (by intro hc; (simp only [List.length_set, List.length_append, List.length_cons, List.length_nil, List.length_replicate, List.length_take, List.length_drop, List.length_map]; omega))) ?_
            refine aw_one0 10 (by kernel_rfl) rfl rfl rfl (e_storeEl1 (i := 0) rfl rfl rfl rfl rfl (by (simp only [List.length_set, List.length_append, List.length_cons, List.length_nil, List.length_replicate, List.length_take, List.length_drop, List.length_map]; omega))) (by intro hb; (exact absurd hb (by decide))) ?_
            refine aw_end (by kernel_rfl) ?_
            refine post_blk (post_then (cw_region ?_))
            refine sr rfl rfl rfl ((q_add rfl rfl rfl (by intro hc; omega))) ?_
            refine sr rfl rfl rfl ((q_move rfl rfl)) (sw_nil ?_)
            refine post_next (j + 1) (by exact .cons rfl (.cons rfl (.cons rfl (.cons rfl (.cons rfl (.cons rfl (.cons rfl (.cons rfl (.cons rfl .nil))))))))) (fun w3 hw3 => ?_) (by omega) (by omega)
            rw [ws_pos hn0]
            exact hw3
          · skip
            have hj' : j = (nth ls i).length := by simp only [decide_eq_false_iff_not] at h3; omega
            subst hj'
            refine cw_exit (post_then_x (post_then_x (post_blk_eq (post_then (cw_region (sr rfl rfl rfl ((q_move rfl rfl)) (sr rfl rfl rfl ((q_move rfl rfl)) (sr rfl rfl rfl ((q_nilCheck rfl rfl)) (sr rfl rfl rfl ((q_fieldAddr rfl rfl)) ?_)))))))))
            refine sr rfl rfl rfl ((q_loadC rfl rfl (by exact .tail _ (.tail _ (.head _))) rfl)) ?_
            refine sr rfl rfl rfl ((q_move rfl rfl)) ?_
            refine sw_x rfl rfl rfl (e_build1 (α := SlV) rfl rfl rfl rfl) (fun s86 => ?_)
            refine sw_x rfl rfl rfl (e_append (i := 4) rfl (.cons rfl inferInstance (.cons rfl inferInstance (.nil))) rfl rfl (by exact fun w hw => rd_own hw (by exact .head _)) (by simp only [List.length_set, List.length_append, List.length_cons, List.length_nil, List.length_replicate, List.length_take, List.length_drop, List.length_map]; omega) rfl) (fun s87 => ?_)
            refine sr rfl rfl rfl ((q_nilCheck rfl rfl)) (sr rfl rfl rfl ((q_fieldAddr rfl rfl)) (sw_eff0 rfl rfl (e_store (i := 3) rfl rfl rfl rfl rfl rfl rfl rfl) (sw_nil (post_blk (post_then (cw_region ?_))))))
            refine sr rfl rfl rfl ((q_add rfl rfl rfl (by intro hc; omega))) ?_
            refine sr rfl rfl rfl ((q_move rfl rfl)) (sw_nil ?_)
            refine post_next ⟨i + 1, s87, G ++ [(s62, mask (nth ls i))]⟩ (by exact .cons rfl (.cons rfl (.cons rfl (.cons rfl (.cons rfl .nil))))) (fun w3 hw3 => ?_) ⟨by simp only; omega, ?_⟩ (by simp only; omega)
            · have h5 : Cl w [] (ownL 156 s62.v (ws x (mask (nth ls i))) :: blk b3 [.int .i64 x] 3 :: blk b36 [.int .i64 x, s87.v, s34.v] 117 :: ownL 115 s87.v (G.map (·.1) ++ [s62]) :: ownL 156 s34.v (ws x (fullN x)) :: G.map (rowU x)) w3 := hw3.tail
              simp only [List.map_append, List.map_cons, List.map_nil]
              exact h5.perm (List.perm_append_singleton _ (blk b3 [.int .i64 x] 3 :: blk b36 [.int .i64 x, s87.v, s34.v] 117 :: ownL 115 s87.v (G.map (·.1) ++ [s62]) :: ownL 156 s34.v (ws x (fullN x)) :: G.map (rowU x))).symm
            · simp only [List.map_append, List.map_cons, List.map_nil]
              rw [hG, List.take_succ_eq_append_getElem hi', List.map_append, ← nth_get hi']
              rfl
        · skip
          have hi' : i = ls.length := by simp only [decide_eq_false_iff_not] at h2; omega
          subst hi'
          refine cw_exit (post_then_x (post_then_x (post_blk_eq (post_then (cw_seq (cw_region (sr rfl rfl rfl ((q_move rfl rfl)) (sr rfl rfl rfl ((q_assign rfl rfl)) (sr rfl rfl rfl ((q_assign rfl rfl)) (sw_nil (post_then (cw_ret (post_ret2 rfl (resOk_tmp rfl) (resOk_tmp rfl) ?_)))))))))))))
          refine fun w' hw => ⟨((⟨b36, x, ss, G.map Prod.fst, s34, G.map Prod.snd⟩ : CV), G), rfl, ⟨rfl, rfl, rfl, ?_⟩, hw.tail⟩
          rw [hG, List.take_length]
end Go.Proofs.YtomjbfeafodfbaaGreat

set_option autoImplicit false
set_option maxRecDepth 100000
namespace Go.Proofs.YtomjbfeafodfbaaGreat
open Go.Sx
open Enc (enc val)
def msOf (ls : List (List Int)) : List Nat := ls.map mask
def greedyE (n : Int) (ls : List (List Int)) : Int := if covE n ls 1000 ≠ 0 then covE n ls 1000 else if possN n.toNat (msOf ls) then 0 else 5
theorem greedy_bad (n : Int) (hn : -9223372036854775808 ≤ n) (sv : SlV) (vs : List SlV) (ls : List (List Int)) (w : World) (hm : Stb w [] (fun w' => Mt w' sv.v vs ls)) (hE : covE n ls 1000 ≠ 0) :
    Calls Tryz.prog 42 #[.int .i64 n, sv.v] w fun e w' => e = .returned (.tuple #[.slice none 0 0, .int .i64 (covE n ls 1000)]) ∧ Cl w [] [] w' := by
  refine calls_cw (vs := [_, _]) Tryz.func42 rfl Tryz.ntmps42 rfl (Cl.start0 w) (cw_seq (cw_region (sr rfl rfl rfl ((q_assign rfl rfl)) (sr rfl rfl rfl ((q_assign rfl rfl)) (sw_nil (post_then (cw_seq (cw_region (sr rfl rfl rfl ((q_move rfl rfl)) (sr rfl rfl rfl ((q_move rfl rfl)) (sw_step rfl rfl rfl (q_call (CanCall.mk Tryz.call75) rfl (.cons rfl inferInstance (.cons rfl inferInstance (.cons rfl inferInstance (.nil)))) (fun _ w hw => callq hw (covering_no n hn sv vs ls 1000 w (stb_arg hw hm) hE))) (sr rfl rfl rfl ((q_move rfl rfl)) (sr rfl rfl rfl ((q_extract rfl rfl rfl)) (sr rfl rfl rfl ((q_extract rfl rfl rfl)) (sr rfl rfl rfl ((q_assign rfl rfl)) (sr rfl rfl rfl ((q_assign rfl rfl)) (sw_nil (post_then (cw_seq (cw_seq (cw_region (sr rfl rfl rfl ((q_move rfl rfl)) (sr rfl rfl rfl ((q_neq rfl rfl rfl)) (sw_nil (post_then ?_)))))))))))))))))))))))))
  refine cw_cond rfl (fun h => ?_) (fun h => ?_)
  · skip
    refine cw_seq (cw_region (sr rfl rfl rfl ((q_move rfl rfl)) (sr rfl rfl rfl ((q_assign rfl rfl)) (sr rfl rfl rfl ((q_assign rfl rfl)) (sw_nil (post_then (cw_ret (post_then_r (post_ret2 rfl (resOk_tmp rfl) (resOk_tmp rfl) ?_)))))))))
    exact fun w' hw => ⟨rfl, hw⟩
  · skip
    exfalso
    simp only [Bool.not_eq_false', decide_eq_true_eq] at h
    exact hE h
theorem greedy_none (n : Nat) (hn : n ≤ 30) (sv : SlV) (vs : List SlV) (ls : List (List Int)) (w : World) (hm : Stb w [] (fun w' => Mt w' sv.v vs ls)) (hE : covE n ls 1000 = 0) (hP : possN n (msOf ls) = false) :
    Calls Tryz.prog 42 #[.int .i64 n, sv.v] w fun e w' => e = .returned (.tuple #[.slice none 0 0, .int .i64 5]) ∧ Cl w [] [] w' := by
  have hl := (covE_ok hE).2.1
  refine calls_cw (vs := [_, _]) Tryz.func42 rfl Tryz.ntmps42 rfl (Cl.start0 w) (cw_seq (cw_region (sr rfl rfl rfl ((q_assign rfl rfl)) (sr rfl rfl rfl ((q_assign rfl rfl)) (sw_nil (post_then (cw_seq (cw_region (sr rfl rfl rfl ((q_move rfl rfl)) (sr rfl rfl rfl ((q_move rfl rfl)) ?_))))))))))
  refine sw_x rfl rfl rfl (e_call (CanCall.mk Tryz.call75) rfl (.cons rfl inferInstance (.cons rfl inferInstance (.cons rfl inferInstance (.nil)))) (fun w hw => covering_yes n hn sv vs ls 1000 w (stb_arg hw hm) (by omega) hE)) (fun y => ?_)
  refine sw_imp fun hg => ?_
  rw [List.append_nil]
  have hok := cgood_ok hg hn hE (by omega)
  have hpe : possN y.1.n y.1.ms = false := by rw [hg.n, hg.ms]; exact hP
  refine sr rfl rfl rfl ((q_move rfl rfl)) (sr rfl rfl rfl ((q_extract rfl rfl rfl)) (sr rfl rfl rfl ((q_extract rfl rfl rfl)) (sr rfl rfl rfl ((q_assign rfl rfl)) (sr rfl rfl rfl ((q_assign rfl rfl)) (sw_nil (post_then (cw_seq (cw_seq (cw_region (sr rfl rfl rfl ((q_move rfl rfl)) (sr rfl rfl rfl ((q_neq rfl rfl rfl)) (sw_nil (post_then ?_)))))))))))))
  refine cw_cond rfl (fun h => ?_) (fun h => ?_)
  · skip
    cases h
  · skip
    refine cw_skip (post_then (cw_seq (cw_seq (cw_region (sr rfl rfl rfl ((q_move rfl rfl)) (sw_step rfl rfl rfl (q_call (CanCall.mk Tryz.call77) rfl (.cons rfl inferInstance (.nil)) (fun _ w hw => callq hw (covers_spec y.1 hok w (cv_rd hg hw.split0.2.1 (fun A hA => hA))))) (sr rfl rfl rfl ((q_not rfl rfl)) (sw_nil (post_then ?_)))))))))
    refine cw_cond rfl (fun h2 => ?_) (fun h2 => ?_)
    · skip
      refine cw_seq (cw_region (sr rfl rfl rfl ((q_assign rfl rfl)) (sr rfl rfl rfl ((q_assign rfl rfl)) (sw_nil (post_then (cw_ret (post_then_r (post_ret2 rfl (resOk_tmp rfl) (resOk_tmp rfl) ?_))))))))
      exact fun w' hw => ⟨rfl, (fun w h => Cl.sel (by exact .nil _) w h) _ hw⟩
    · skip
      exfalso
      rw [hpe] at h2
      cases h2
theorem greedy_yes (n : Nat) (hn : n ≤ 30) (sv : SlV) (vs : List SlV) (ls : List (List Int)) (h8 : ls.length ≤ 8) (w : World) (hm : Stb w [] (fun w' => Mt w' sv.v vs ls)) (hE : covE n ls 1000 = 0) (hP : possN n (msOf ls) = true) :
    Calls Tryz.prog 42 #[.int .i64 n, sv.v] w fun e w' => ∃ y : SlV × (List Int × Nat), e = .returned (.tuple #[y.1.v, .int .i64 0]) ∧ GDone n (msOf ls) y.2.2 y.2.1 ∧ Cl w [] [ownL 3 y.1.v y.2.1] w' := by
  have hl := (covE_ok hE).2.1
  refine calls_cw (vs := [_, _]) Tryz.func42 rfl Tryz.ntmps42 rfl (Cl.start0 w) (cw_seq (cw_region (sr rfl rfl rfl ((q_assign rfl rfl)) (sr rfl rfl rfl ((q_assign rfl rfl)) (sw_nil (post_then (cw_seq (cw_region (sr rfl rfl rfl ((q_move rfl rfl)) (sr rfl rfl rfl ((q_move rfl rfl)) ?_))))))))))
  refine sw_x rfl rfl rfl (e_call (CanCall.mk Tryz.call75) rfl (.cons rfl inferInstance (.cons rfl inferInstance (.cons rfl inferInstance (.nil)))) (fun w hw => covering_yes n hn sv vs ls 1000 w (stb_arg hw hm) (by omega) hE)) (fun y => ?_)
  refine sw_imp fun hg => ?_
  rw [List.append_nil]
  have hok := cgood_ok hg hn hE (by omega)
  have e1 := hg.n
  have e2 : y.1.ms = msOf ls := hg.ms
  have hpe : possN y.1.n y.1.ms = true := by rw [e1, e2]; exact hP
  have h8' : y.1.ms.length ≤ 8 := by rw [e2]; simpa [msOf] using h8
  refine sr rfl rfl rfl ((q_move rfl rfl)) (sr rfl rfl rfl ((q_extract rfl rfl rfl)) (sr rfl rfl rfl ((q_extract rfl rfl rfl)) (sr rfl rfl rfl ((q_assign rfl rfl)) (sr rfl rfl rfl ((q_assign rfl rfl)) (sw_nil (post_then (cw_seq (cw_seq (cw_region (sr rfl rfl rfl ((q_move rfl rfl)) (sr rfl rfl rfl ((q_neq rfl rfl rfl)) (sw_nil (post_then ?_)))))))))))))
  refine cw_cond rfl (fun h => ?_) (fun h => ?_)
  · skip
    cases h
  · skip
    refine cw_skip (post_then (cw_seq (cw_seq (cw_region (sr rfl rfl rfl ((q_move rfl rfl)) (sw_step rfl rfl rfl (q_call (CanCall.mk Tryz.call77) rfl (.cons rfl inferInstance (.nil)) (fun _ w hw => callq hw (covers_spec y.1 hok w (cv_rd hg hw.split0.2.1 (fun A hA => hA))))) (sr rfl rfl rfl ((q_not rfl rfl)) (sw_nil (post_then ?_)))))))))
    refine cw_cond rfl (fun h2 => ?_) (fun h2 => ?_)
    · skip
      exfalso
      rw [hpe] at h2
      cases h2
    · skip
      refine cw_skip (post_then (cw_seq (cw_region (sr rfl rfl rfl ((q_move rfl rfl)) ?_))))
      refine sw_x rfl rfl rfl (e_call (CanCall.mk Tryz.call78) rfl (.cons rfl inferInstance (.nil)) (fun w hw => greedy_spec y.1 hok h8' hpe w (cv_rd hg hw.split0.2.1 (fun A hA => hA)))) (fun x24 => ?_)
      refine sw_imp (fun hx24 => ?_)
      refine sr rfl rfl rfl ((q_move rfl rfl)) (sr rfl rfl rfl ((q_extract rfl rfl rfl)) (sr rfl rfl rfl ((q_extract rfl rfl rfl)) (sr rfl rfl rfl ((q_assign rfl rfl)) (sr rfl rfl rfl ((q_assign rfl rfl)) (sw_nil (post_then (cw_seq (cw_region (sr rfl rfl rfl ((q_move rfl rfl)) (sr rfl rfl rfl ((q_assign rfl rfl)) (sr rfl rfl rfl ((q_assign rfl rfl)) (sw_nil (post_then (cw_ret (post_ret2 rfl (resOk_tmp rfl) (resOk_tmp rfl) ?_)))))))))))))))
      rw [e1, e2] at hx24
      exact fun w' hw => ⟨(x24.1.1, x24.2), rfl, hx24, (fun w h => Cl.sel (by exact .take 0 rfl (.nil _)) w h) _ hw⟩
end Go.Proofs.YtomjbfeafodfbaaGreat

set_option autoImplicit false
set_option maxRecDepth 100000
namespace Go.Proofs.YtomjbfeafodfbaaGreat
open Go.Sx
open Enc (enc val)
theorem price_bad (n : Int) (hn : -9223372036854775808 ≤ n) (sv : SlV) (vs : List SlV) (ls : List (List Int)) (w : World) (hm : Stb w [] (fun w' => Mt w' sv.v vs ls)) (hE : covE n ls 1000 ≠ 0) :
    Calls Tryz.prog 34 #[.int .i64 n, sv.v] w fun e w' => e = .returned (.tuple #[.slice none 0 0, .int .i64 0, .int .i64 (covE n ls 1000)]) ∧ Cl w [] [] w' := by
  refine calls_cw (vs := [_, _]) Tryz.func34 rfl Tryz.ntmps34 rfl (Cl.start0 w) (cw_seq (cw_region (sr rfl rfl rfl ((q_assign rfl rfl)) (sr rfl rfl rfl ((q_assign rfl rfl)) (sr rfl rfl rfl ((q_assign rfl rfl)) (sw_nil (post_then (cw_seq (cw_region (sr rfl rfl rfl ((q_move rfl rfl)) (sr rfl rfl rfl ((q_move rfl rfl)) (sw_step rfl rfl rfl (q_call (CanCall.mk Tryz.call75) rfl (.cons rfl inferInstance (.cons rfl inferInstance (.cons rfl inferInstance (.nil)))) (fun _ w hw => callq hw (covering_no n hn sv vs ls 1000 w (stb_arg hw hm) hE))) (sr rfl rfl rfl ((q_move rfl rfl)) (sr rfl rfl rfl ((q_extract rfl rfl rfl)) (sr rfl rfl rfl ((q_extract rfl rfl rfl)) (sr rfl rfl rfl ((q_assign rfl rfl)) (sr rfl rfl rfl ((q_assign rfl rfl)) (sw_nil (post_then (cw_seq (cw_seq (cw_region (sr rfl rfl rfl ((q_move rfl rfl)) (sr rfl rfl rfl ((q_neq rfl rfl rfl)) (sw_nil (post_then ?_))))))))))))))))))))))))))
  refine cw_cond rfl (fun h => ?_) (fun h => ?_)
  · skip
    refine cw_seq (cw_region (sr rfl rfl rfl ((q_move rfl rfl)) (sr rfl rfl rfl ((q_assign rfl rfl)) (sr rfl rfl rfl ((q_assign rfl rfl)) (sr rfl rfl rfl ((q_assign rfl rfl)) (sw_nil (post_then (cw_ret (post_then_r (post_ret3 rfl (resOk_tmp rfl) (resOk_tmp rfl) (resOk_tmp rfl) ?_))))))))))
    exact fun w' hw => ⟨rfl, hw⟩
  · skip
    exfalso
    simp only [Bool.not_eq_false', decide_eq_true_eq] at h
    exact hE h
theorem CV.Ok.none {c : CV} (h : c.Ok) (k : Nat) : c.n = 0 → nth c.ms k = 0 := fun e => by
  have := lt_of_bits (m := nth c.ms k) (n := 0) (by omega) (fun j hj => by have := msOk_nth h.m k j hj; omega)
  apply Nat.eq_of_testBit_eq
  intro i
  rw [Nat.zero_testBit]
  cases hb : (nth c.ms k).testBit i with
  | false => rfl
  | true => have := msOk_nth h.m k i hb; omega
theorem price_wide (n : Nat) (hn : n ≤ 30) (sv : SlV) (vs : List SlV) (ls : List (List Int)) (w : World) (hm : Stb w [] (fun w' => Mt w' sv.v vs ls)) (hE : covE n ls 1000 = 0) (h12 : 12 < wid (msOf ls)) :
    Calls Tryz.prog 34 #[.int .i64 n, sv.v] w fun e w' => e = .returned (.tuple #[.slice none 0 0, .int .i64 0, .int .i64 2]) ∧ Cl w [] [] w' := by
  have hl := (covE_ok hE).2.1
  refine calls_cw (vs := [_, _]) Tryz.func34 rfl Tryz.ntmps34 rfl (Cl.start0 w) (cw_seq (cw_region (sr rfl rfl rfl ((q_assign rfl rfl)) (sr rfl rfl rfl ((q_assign rfl rfl)) (sr rfl rfl rfl ((q_assign rfl rfl)) (sw_nil (post_then (cw_seq (cw_region (sr rfl rfl rfl ((q_move rfl rfl)) (sr rfl rfl rfl ((q_move rfl rfl)) ?_)))))))))))
  refine sw_x rfl rfl rfl (e_call (CanCall.mk Tryz.call75) rfl (.cons rfl inferInstance (.cons rfl inferInstance (.cons rfl inferInstance (.nil)))) (fun w hw => covering_yes n hn sv vs ls 1000 w (stb_arg hw hm) (by omega) hE)) (fun y => ?_)
  refine sw_imp fun hg => ?_
  rw [List.append_nil]
  have hok := cgood_ok hg hn hE (by omega)
  have e1 := hg.n
  have e2 : y.1.ms = msOf ls := hg.ms
  have hml : y.1.ms.length ≤ 1000 := hok.l
  have hrd : ∀ {w1 : World}, Cl w [] (CV.F y) w1 → Stb w1 [] y.1.Rd := fun hw => cv_rd hg hw.split0.2.1 (fun A hA => hA)
  refine sr rfl rfl rfl ((q_move rfl rfl)) (sr rfl rfl rfl ((q_extract rfl rfl rfl)) (sr rfl rfl rfl ((q_extract rfl rfl rfl)) (sr rfl rfl rfl ((q_assign rfl rfl)) (sr rfl rfl rfl ((q_assign rfl rfl)) (sw_nil (post_then (cw_seq (cw_seq (cw_region (sr rfl rfl rfl ((q_move rfl rfl)) (sr rfl rfl rfl ((q_neq rfl rfl rfl)) (sw_nil (post_then ?_)))))))))))))
  refine cw_cond rfl (fun h => ?_) (fun h => ?_)
  · skip
    cases h
  · skip
    clear h
    refine cw_c (C' := fun w1 => (y.1.ls.length = y.1.ms.length) ∧ Cl w [] (CV.F y) w1) (fun w1 hw => ⟨(hrd hw).here.ll, hw⟩) (cw_imp fun hll => (cw_skip (post_then (cw_seq (cw_region (sr rfl rfl rfl ((q_assign rfl rfl)) (sw_nil (post_then (cw_seq (cw_seq (cw_region (sr rfl rfl rfl ((q_move rfl rfl)) (sr rfl rfl rfl ((q_nilCheck rfl rfl)) (sr rfl rfl rfl ((q_fieldAddr rfl rfl)) ?_))))))))))))))
    refine sr rfl rfl rfl ((q_loadC rfl rfl (by exact .head _) rfl)) ?_
    refine sr rfl rfl rfl ((q_len rfl (.cons rfl inferInstance (.nil)) (by exact fun w hw => rd_own hw (by exact .tail _ (.head _))))) ?_
    refine sr rfl rfl rfl ((q_move rfl rfl)) (sw_nil (post_then (cw_block ?_)))
    refine cw_loop (S := Nat) (fun k => [(0, [], .int .i64 n), (7, [], .pointer (some ⟨y.1.bc, 0, none⟩)), (9, [], .int .i64 (widTo y.1.ms k)), (31, [], y.1.ss.v), (32, [], .int .i64 y.1.ms.length), (33, [], .int .i64 k)]) (fun k => Cl w [] (CV.F y)) (fun k => k ≤ y.1.ms.length) (fun k => y.1.ms.length - k) 0 (Nat.zero_le _) ?_ (fun _ h => h) ?_
    · exact Le.cons rfl (Le.cons rfl (Le.cons rfl (Le.cons rfl (Le.cons' rfl (by rw [hll]) (Le.cons rfl Le.nil)))))
    intro k hk
    refine cw_seq (cw_region (sr rfl rfl rfl ((q_lss rfl rfl rfl)) (sw_nil (post_then (cw_seq ?_)))))
    refine cw_cond rfl (fun h2 => ?_) (fun h2 => ?_)
    · skip
      have hk' : k < y.1.ms.length := by simp only [decide_eq_true_eq] at h2; omega
      have m1 := hok.lt k
      have m3 := hok.none k
      have hwl : (ws y.1.n (fullN y.1.n)).length ≤ 1 := by rw [ws_len]; split <;> omega
      refine cw_skip (post_then (cw_seq (cw_block (cw_seq (cw_region ?_)))))
      refine sr rfl rfl rfl ((q_indexN rfl rfl rfl (by exact fun w hw => rd_own hw (by exact .tail _ (.head _))) (by intro hc; omega))) ?_
      refine sr rfl rfl rfl ((q_loadEl rfl rfl rfl (by exact fun w hw => rd_own hw (by exact .tail _ (.head _))) (by intro hc; omega))) ?_
      refine sr rfl rfl rfl ((q_assign rfl rfl)) (sw_nil (post_then (cw_region (sr rfl rfl rfl ((q_move rfl rfl)) (sr rfl rfl rfl ((q_move rfl rfl)) (sr rfl rfl rfl ((q_move rfl rfl)) (sr rfl rfl rfl ((q_nilCheck rfl rfl)) (sr rfl rfl rfl ((q_fieldAddr rfl rfl)) ?_))))))))
      refine sr rfl rfl rfl ((q_loadC rfl rfl (by exact .head _) rfl)) ?_
      refine sr rfl rfl rfl ((q_len rfl (.cons rfl inferInstance (.nil)) (by exact fun w hw => rd_own hw (by exact .tail _ (.tail _ (.head _)))))) ?_
      refine sw_x rfl rfl rfl (e_make (α := UW) (zero := ⟨0⟩) rfl rfl rfl rfl rfl (by omega) (by omega) (by decide)) (fun s44 => ?_)
      rw [Int.toNat_natCast, ws_zero]
      refine sw_step rfl rfl rfl (q_call (CanCall.mk Tryz.call76) rfl (.cons rfl inferInstance (.cons rfl inferInstance (.nil))) (fun _ w1 hw => callq hw (without_spec _ _ y.1.n (nth y.1.ms k) 0 m1 (by omega) m3 w1 ((rd_stb ((hrd hw.tail).here.mm k hk'))) (by exact stb_own hw (by exact .head _))))) ?_
      refine sr rfl rfl rfl ((q_max rfl (.cons rfl inferInstance (.cons rfl inferInstance (.nil))))) (sr rfl rfl rfl ((q_assign rfl rfl)) (sw_nil (post_blk (post_then (cw_region ?_)))))
      refine sr rfl rfl rfl ((q_add rfl rfl rfl (by intro hc; omega))) ?_
      refine sr rfl rfl rfl ((q_move rfl rfl)) (sw_nil ?_)
      have ewk : ((widTo y.1.ms (k + 1) : Nat) : Int) = max (widTo y.1.ms k : Int) (fr 0 (nth y.1.ms k) : Int) := by simp only [widTo]; omega
      refine post_next (k + 1) ?_ (fun _ h => h.tail) (by omega) (by omega)
      rw [ewk]
      exact (by exact .cons rfl (.cons rfl (.cons rfl (.cons rfl (.cons rfl (.cons rfl .nil))))))
    · skip
      have hk' : k = y.1.ms.length := by simp only [decide_eq_false_iff_not] at h2; omega
      subst hk'
      have ew : widTo y.1.ms y.1.ms.length = wid (msOf ls) := by rw [e2]; rfl
      rw [ew]
      refine cw_exit (post_then_x (post_then_x (post_blk_eq (post_then (cw_seq (cw_seq (cw_region (sr rfl rfl rfl ((q_move rfl rfl)) (sr rfl rfl rfl ((q_gtr rfl rfl rfl)) (sw_nil (post_then ?_)))))))))))
      refine cw_cond rfl (fun h3 => ?_) (fun h3 => ?_)
      · skip
        refine cw_seq (cw_region (sr rfl rfl rfl ((q_assign rfl rfl)) (sr rfl rfl rfl ((q_assign rfl rfl)) (sr rfl rfl rfl ((q_assign rfl rfl)) (sw_nil (post_then (cw_ret (post_then_r (post_ret3 rfl (resOk_tmp rfl) (resOk_tmp rfl) (resOk_tmp rfl) ?_)))))))))
        exact fun w' hw => ⟨rfl, (fun w h => Cl.sel (by exact .nil _) w h) _ hw⟩
      · skip
        simp only [decide_eq_false_iff_not] at h3; omega
theorem price_none (n : Nat) (hn : n ≤ 30) (sv : SlV) (vs : List SlV) (ls : List (List Int)) (w : World) (hm : Stb w [] (fun w' => Mt w' sv.v vs ls)) (hE : covE n ls 1000 = 0) (h12 : wid (msOf ls) ≤ 12) (hP : possN n (msOf ls) = false) :
    Calls Tryz.prog 34 #[.int .i64 n, sv.v] w fun e w' => e = .returned (.tuple #[.slice none 0 0, .int .i64 0, .int .i64 5]) ∧ Cl w [] [] w' := by
  have hl := (covE_ok hE).2.1
  refine calls_cw (vs := [_, _]) Tryz.func34 rfl Tryz.ntmps34 rfl (Cl.start0 w) (cw_seq (cw_region (sr rfl rfl rfl ((q_assign rfl rfl)) (sr rfl rfl rfl ((q_assign rfl rfl)) (sr rfl rfl rfl ((q_assign rfl rfl)) (sw_nil (post_then (cw_seq (cw_region (sr rfl rfl rfl ((q_move rfl rfl)) (sr rfl rfl rfl ((q_move rfl rfl)) ?_)))))))))))
  refine sw_x rfl rfl rfl (e_call (CanCall.mk Tryz.call75) rfl (.cons rfl inferInstance (.cons rfl inferInstance (.cons rfl inferInstance (.nil)))) (fun w hw => covering_yes n hn sv vs ls 1000 w (stb_arg hw hm) (by omega) hE)) (fun y => ?_)
  refine sw_imp fun hg => ?_
  rw [List.append_nil]
  have hok := cgood_ok hg hn hE (by omega)
  have e1 := hg.n
  have e2 : y.1.ms = msOf ls := hg.ms
  have hml : y.1.ms.length ≤ 1000 := hok.l
  have hrd : ∀ {w1 : World}, Cl w [] (CV.F y) w1 → Stb w1 [] y.1.Rd := fun hw => cv_rd hg hw.split0.2.1 (fun A hA => hA)
  refine sr rfl rfl rfl ((q_move rfl rfl)) (sr rfl rfl rfl ((q_extract rfl rfl rfl)) (sr rfl rfl rfl ((q_extract rfl rfl rfl)) (sr rfl rfl rfl ((q_assign rfl rfl)) (sr rfl rfl rfl ((q_assign rfl rfl)) (sw_nil (post_then (cw_seq (cw_seq (cw_region (sr rfl rfl rfl ((q_move rfl rfl)) (sr rfl rfl rfl ((q_neq rfl rfl rfl)) (sw_nil (post_then ?_)))))))))))))
  refine cw_cond rfl (fun h => ?_) (fun h => ?_)
  · skip
    cases h
  · skip
    clear h
    refine cw_c (C' := fun w1 => (y.1.ls.length = y.1.ms.length) ∧ Cl w [] (CV.F y) w1) (fun w1 hw => ⟨(hrd hw).here.ll, hw⟩) (cw_imp fun hll => (cw_skip (post_then (cw_seq (cw_region (sr rfl rfl rfl ((q_assign rfl rfl)) (sw_nil (post_then (cw_seq (cw_seq (cw_region (sr rfl rfl rfl ((q_move rfl rfl)) (sr rfl rfl rfl ((q_nilCheck rfl rfl)) (sr rfl rfl rfl ((q_fieldAddr rfl rfl)) ?_))))))))))))))
    refine sr rfl rfl rfl ((q_loadC rfl rfl (by exact .head _) rfl)) ?_
    refine sr rfl rfl rfl ((q_len rfl (.cons rfl inferInstance (.nil)) (by exact fun w hw => rd_own hw (by exact .tail _ (.head _))))) ?_
    refine sr rfl rfl rfl ((q_move rfl rfl)) (sw_nil (post_then (cw_block ?_)))
    refine cw_loop (S := Nat) (fun k => [(0, [], .int .i64 n), (7, [], .pointer (some ⟨y.1.bc, 0, none⟩)), (9, [], .int .i64 (widTo y.1.ms k)), (31, [], y.1.ss.v), (32, [], .int .i64 y.1.ms.length), (33, [], .int .i64 k)]) (fun k => Cl w [] (CV.F y)) (fun k => k ≤ y.1.ms.length) (fun k => y.1.ms.length - k) 0 (Nat.zero_le _) ?_ (fun _ h => h) ?_
    · exact Le.cons rfl (Le.cons rfl (Le.cons rfl (Le.cons rfl (Le.cons' rfl (by rw [hll]) (Le.cons rfl Le.nil)))))
    intro k hk
    refine cw_seq (cw_region (sr rfl rfl rfl ((q_lss rfl rfl rfl)) (sw_nil (post_then (cw_seq ?_)))))
    refine cw_cond rfl (fun h2 => ?_) (fun h2 => ?_)
    · skip
      have hk' : k < y.1.ms.length := by simp only [decide_eq_true_eq] at h2; omega
      have m1 := hok.lt k
      have m3 := hok.none k
      have hwl : (ws y.1.n (fullN y.1.n)).length ≤ 1 := by rw [ws_len]; split <;> omega
      refine cw_skip (post_then (cw_seq (cw_block (cw_seq (cw_region ?_)))))
      refine sr rfl rfl rfl ((q_indexN rfl rfl rfl (by exact fun w hw => rd_own hw (by exact .tail _ (.head _))) (by intro hc; omega))) ?_
      refine sr rfl rfl rfl ((q_loadEl rfl rfl rfl (by exact fun w hw => rd_own hw (by exact .tail _ (.head _))) (by intro hc; omega))) ?_
      refine sr rfl rfl rfl ((q_assign rfl rfl)) (sw_nil (post_then (cw_region (sr rfl rfl rfl ((q_move rfl rfl)) (sr rfl rfl rfl ((q_move rfl rfl)) (sr rfl rfl rfl ((q_move rfl rfl)) (sr rfl rfl rfl ((q_nilCheck rfl rfl)) (sr rfl rfl rfl ((q_fieldAddr rfl rfl)) ?_))))))))
      refine sr rfl rfl rfl ((q_loadC rfl rfl (by exact .head _) rfl)) ?_
      refine sr rfl rfl rfl ((q_len rfl (.cons rfl inferInstance (.nil)) (by exact fun w hw => rd_own hw (by exact .tail _ (.tail _ (.head _)))))) ?_
      refine sw_x rfl rfl rfl (e_make (α := UW) (zero := ⟨0⟩) rfl rfl rfl rfl rfl (by omega) (by omega) (by decide)) (fun s44 => ?_)
      rw [Int.toNat_natCast, ws_zero]
      refine sw_step rfl rfl rfl (q_call (CanCall.mk Tryz.call76) rfl (.cons rfl inferInstance (.cons rfl inferInstance (.nil))) (fun _ w1 hw => callq hw (without_spec _ _ y.1.n (nth y.1.ms k) 0 m1 (by omega) m3 w1 ((rd_stb ((hrd hw.tail).here.mm k hk'))) (by exact stb_own hw (by exact .head _))))) ?_
      refine sr rfl rfl rfl ((q_max rfl (.cons rfl inferInstance (.cons rfl inferInstance (.nil))))) (sr rfl rfl rfl ((q_assign rfl rfl)) (sw_nil (post_blk (post_then (cw_region ?_)))))
      refine sr rfl rfl rfl ((q_add rfl rfl rfl (by intro hc; omega))) ?_
      refine sr rfl rfl rfl ((q_move rfl rfl)) (sw_nil ?_)
      have ewk : ((widTo y.1.ms (k + 1) : Nat) : Int) = max (widTo y.1.ms k : Int) (fr 0 (nth y.1.ms k) : Int) := by simp only [widTo]; omega
      refine post_next (k + 1) ?_ (fun _ h => h.tail) (by omega) (by omega)
      rw [ewk]
      exact (by exact .cons rfl (.cons rfl (.cons rfl (.cons rfl (.cons rfl (.cons rfl .nil))))))
    · skip
      have hk' : k = y.1.ms.length := by simp only [decide_eq_false_iff_not] at h2; omega
      subst hk'
      have ew : widTo y.1.ms y.1.ms.length = wid (msOf ls) := by rw [e2]; rfl
      rw [ew]
      refine cw_exit (post_then_x (post_then_x (post_blk_eq (post_then (cw_seq (cw_seq (cw_region (sr rfl rfl rfl ((q_move rfl rfl)) (sr rfl rfl rfl ((q_gtr rfl rfl rfl)) (sw_nil (post_then ?_)))))))))))
      refine cw_cond rfl (fun h3 => ?_) (fun h3 => ?_)
      · skip
        simp only [decide_eq_true_eq] at h3; omega
      · skip
        have hpe : possN y.1.n y.1.ms = false := by rw [e1, e2]; exact hP
        refine cw_skip (post_then (cw_seq (cw_seq (cw_region (sr rfl rfl rfl ((q_move rfl rfl)) (sw_step rfl rfl rfl (q_call (CanCall.mk Tryz.call77) rfl (.cons rfl inferInstance (.nil)) (fun _ w hw => callq hw (covers_spec y.1 hok w (hrd hw)))) (sr rfl rfl rfl ((q_not rfl rfl)) (sw_nil (post_then ?_)))))))))
        refine cw_cond rfl (fun h4 => ?_) (fun h4 => ?_)
        · skip
          refine cw_seq (cw_region (sr rfl rfl rfl ((q_assign rfl rfl)) (sr rfl rfl rfl ((q_assign rfl rfl)) (sr rfl rfl rfl ((q_assign rfl rfl)) (sw_nil (post_then (cw_ret (post_then_r (post_ret3 rfl (resOk_tmp rfl) (resOk_tmp rfl) (resOk_tmp rfl) ?_)))))))))
          exact fun w' hw => ⟨rfl, (fun w h => Cl.sel (by exact .nil _) w h) _ hw⟩
        · skip
          exfalso
          rw [hpe] at h4
          cases h4
theorem price_yes (n : Nat) (hn : n ≤ 30) (sv : SlV) (vs : List SlV) (ls : List (List Int)) (w : World) (hm : Stb w [] (fun w' => Mt w' sv.v vs ls)) (hE : covE n ls 1000 = 0) (h8 : ls.length ≤ 8) (h12 : wid (msOf ls) ≤ 12) (hP : possN n (msOf ls) = true) :
    Calls Tryz.prog 34 #[.int .i64 n, sv.v] w fun e w' => ∃ y : SlV × (List Int × (Nat × List Int)), e = .returned (.tuple #[y.1.v, .int .i64 (scaleTo (wid (msOf ls))), .int .i64 0]) ∧ (y.2.1 = (giter n (msOf ls) y.2.2.1).sh.map (fun k => 27720 / k) ∧ GDone n (msOf ls) y.2.2.1 y.2.2.2) ∧ Cl w [] [ownL 3 y.1.v y.2.1] w' := by
  have hl := (covE_ok hE).2.1
  refine calls_cw (vs := [_, _]) Tryz.func34 rfl Tryz.ntmps34 rfl (Cl.start0 w) (cw_seq (cw_region (sr rfl rfl rfl ((q_assign rfl rfl)) (sr rfl rfl rfl ((q_assign rfl rfl)) (sr rfl rfl rfl ((q_assign rfl rfl)) (sw_nil (post_then (cw_seq (cw_region (sr rfl rfl rfl ((q_move rfl rfl)) (sr rfl rfl rfl ((q_move rfl rfl)) ?_)))))))))))
  refine sw_x rfl rfl rfl (e_call (CanCall.mk Tryz.call75) rfl (.cons rfl inferInstance (.cons rfl inferInstance (.cons rfl inferInstance (.nil)))) (fun w hw => covering_yes n hn sv vs ls 1000 w (stb_arg hw hm) (by omega) hE)) (fun y => ?_)
  refine sw_imp fun hg => ?_
  rw [List.append_nil]
  have hok := cgood_ok hg hn hE (by omega)
  have e1 := hg.n
  have e2 : y.1.ms = msOf ls := hg.ms
  have hml : y.1.ms.length ≤ 1000 := hok.l
  have hrd : ∀ {w1 : World}, Cl w [] (CV.F y) w1 → Stb w1 [] y.1.Rd := fun hw => cv_rd hg hw.split0.2.1 (fun A hA => hA)
  refine sr rfl rfl rfl ((q_move rfl rfl)) (sr rfl rfl rfl ((q_extract rfl rfl rfl)) (sr rfl rfl rfl ((q_extract rfl rfl rfl)) (sr rfl rfl rfl ((q_assign rfl rfl)) (sr rfl rfl rfl ((q_assign rfl rfl)) (sw_nil (post_then (cw_seq (cw_seq (cw_region (sr rfl rfl rfl ((q_move rfl rfl)) (sr rfl rfl rfl ((q_neq rfl rfl rfl)) (sw_nil (post_then ?_)))))))))))))
  refine cw_cond rfl (fun h => ?_) (fun h => ?_)
  · skip
    cases h
  · skip
    clear h
    refine cw_c (C' := fun w1 => (y.1.ls.length = y.1.ms.length) ∧ Cl w [] (CV.F y) w1) (fun w1 hw => ⟨(hrd hw).here.ll, hw⟩) (cw_imp fun hll => (cw_skip (post_then (cw_seq (cw_region (sr rfl rfl rfl ((q_assign rfl rfl)) (sw_nil (post_then (cw_seq (cw_seq (cw_region (sr rfl rfl rfl ((q_move rfl rfl)) (sr rfl rfl rfl ((q_nilCheck rfl rfl)) (sr rfl rfl rfl ((q_fieldAddr rfl rfl)) ?_))))))))))))))
    refine sr rfl rfl rfl ((q_loadC rfl rfl (by exact .head _) rfl)) ?_
    refine sr rfl rfl rfl ((q_len rfl (.cons rfl inferInstance (.nil)) (by exact fun w hw => rd_own hw (by exact .tail _ (.head _))))) ?_
    refine sr rfl rfl rfl ((q_move rfl rfl)) (sw_nil (post_then (cw_block ?_)))
    refine cw_loop (S := Nat) (fun k => [(0, [], .int .i64 n), (7, [], .pointer (some ⟨y.1.bc, 0, none⟩)), (9, [], .int .i64 (widTo y.1.ms k)), (31, [], y.1.ss.v), (32, [], .int .i64 y.1.ms.length), (33, [], .int .i64 k)]) (fun k => Cl w [] (CV.F y)) (fun k => k ≤ y.1.ms.length) (fun k => y.1.ms.length - k) 0 (Nat.zero_le _) ?_ (fun _ h => h) ?_
    · exact Le.cons rfl (Le.cons rfl (Le.cons rfl (Le.cons rfl (Le.cons' rfl (by rw [hll]) (Le.cons rfl Le.nil)))))
    intro k hk
    refine cw_seq (cw_region (sr rfl rfl rfl ((q_lss rfl rfl rfl)) (sw_nil (post_then (cw_seq ?_)))))
    refine cw_cond rfl (fun h2 => ?_) (fun h2 => ?_)
    · skip
      have hk' : k < y.1.ms.length := by simp only [decide_eq_true_eq] at h2; omega
      have m1 := hok.lt k
      have m3 := hok.none k
      have hwl : (ws y.1.n (fullN y.1.n)).length ≤ 1 := by rw [ws_len]; split <;> omega
      refine cw_skip (post_then (cw_seq (cw_block (cw_seq (cw_region ?_)))))
      refine sr rfl rfl rfl ((q_indexN rfl rfl rfl (by exact fun w hw => rd_own hw (by exact .tail _ (.head _))) (by intro hc; omega))) ?_
      refine sr rfl rfl rfl ((q_loadEl rfl rfl rfl (by exact fun w hw => rd_own hw (by exact .tail _ (.head _))) (by intro hc; omega))) ?_
      refine sr rfl rfl rfl ((q_assign rfl rfl)) (sw_nil (post_then (cw_region (sr rfl rfl rfl ((q_move rfl rfl)) (sr rfl rfl rfl ((q_move rfl rfl)) (sr rfl rfl rfl ((q_move rfl rfl)) (sr rfl rfl rfl ((q_nilCheck rfl rfl)) (sr rfl rfl rfl ((q_fieldAddr rfl rfl)) ?_))))))))
      refine sr rfl rfl rfl ((q_loadC rfl rfl (by exact .head _) rfl)) ?_
      refine sr rfl rfl rfl ((q_len rfl (.cons rfl inferInstance (.nil)) (by exact fun w hw => rd_own hw (by exact .tail _ (.tail _ (.head _)))))) ?_
      refine sw_x rfl rfl rfl (e_make (α := UW) (zero := ⟨0⟩) rfl rfl rfl rfl rfl (by omega) (by omega) (by decide)) (fun s44 => ?_)
      rw [Int.toNat_natCast, ws_zero]
      refine sw_step rfl rfl rfl (q_call (CanCall.mk Tryz.call76) rfl (.cons rfl inferInstance (.cons rfl inferInstance (.nil))) (fun _ w1 hw => callq hw (without_spec _ _ y.1.n (nth y.1.ms k) 0 m1 (by omega) m3 w1 ((rd_stb ((hrd hw.tail).here.mm k hk'))) (by exact stb_own hw (by exact .head _))))) ?_
      refine sr rfl rfl rfl ((q_max rfl (.cons rfl inferInstance (.cons rfl inferInstance (.nil))))) (sr rfl rfl rfl ((q_assign rfl rfl)) (sw_nil (post_blk (post_then (cw_region ?_)))))
      refine sr rfl rfl rfl ((q_add rfl rfl rfl (by intro hc; omega))) ?_
      refine sr rfl rfl rfl ((q_move rfl rfl)) (sw_nil ?_)
      have ewk : ((widTo y.1.ms (k + 1) : Nat) : Int) = max (widTo y.1.ms k : Int) (fr 0 (nth y.1.ms k) : Int) := by simp only [widTo]; omega
      refine post_next (k + 1) ?_ (fun _ h => h.tail) (by omega) (by omega)
      rw [ewk]
      exact (by exact .cons rfl (.cons rfl (.cons rfl (.cons rfl (.cons rfl (.cons rfl .nil))))))
    · skip
      have hk' : k = y.1.ms.length := by simp only [decide_eq_false_iff_not] at h2; omega
      subst hk'
      have ew : widTo y.1.ms y.1.ms.length = wid (msOf ls) := by rw [e2]; rfl
      rw [ew]
      refine cw_exit (post_then_x (post_then_x (post_blk_eq (post_then (cw_seq (cw_seq (cw_region (sr rfl rfl rfl ((q_move rfl rfl)) (sr rfl rfl rfl ((q_gtr rfl rfl rfl)) (sw_nil (post_then ?_)))))))))))
      refine cw_cond rfl (fun h3 => ?_) (fun h3 => ?_)
      · skip
        simp only [decide_eq_true_eq] at h3; omega
      · skip
        have hpe : possN y.1.n y.1.ms = true := by rw [e1, e2]; exact hP
        have h8' : y.1.ms.length ≤ 8 := by rw [e2]; simpa [msOf] using h8
        refine cw_skip (post_then (cw_seq (cw_seq (cw_region (sr rfl rfl rfl ((q_move rfl rfl)) (sw_step rfl rfl rfl (q_call (CanCall.mk Tryz.call77) rfl (.cons rfl inferInstance (.nil)) (fun _ w hw => callq hw (covers_spec y.1 hok w (hrd hw)))) (sr rfl rfl rfl ((q_not rfl rfl)) (sw_nil (post_then ?_)))))))))
        refine cw_cond rfl (fun h4 => ?_) (fun h4 => ?_)
        · skip
          exfalso
          rw [hpe] at h4
          cases h4
        · skip
          refine cw_skip (post_then (cw_seq (cw_region (sr rfl rfl rfl ((q_move rfl rfl)) ?_))))
          refine sw_x rfl rfl rfl (e_call (CanCall.mk Tryz.call78) rfl (.cons rfl inferInstance (.nil)) (fun w hw => greedy_spec y.1 hok h8' hpe w (hrd hw))) (fun x55 => ?_)
          refine sw_imp (fun hx55 => ?_)
          refine sr rfl rfl rfl ((q_move rfl rfl)) (sr rfl rfl rfl ((q_extract rfl rfl rfl)) (sr rfl rfl rfl ((q_extract rfl rfl rfl)) (sr rfl rfl rfl ((q_assign rfl rfl)) (sr rfl rfl rfl ((q_assign rfl rfl)) (sw_nil (post_then (cw_seq (cw_region (sr rfl rfl rfl ((q_move rfl rfl)) ?_)))))))))
          rw [e1, e2] at hx55
          obtain ⟨⟨so, ss⟩, ⟨out, gk⟩⟩ := x55
          dsimp only at hx55 ⊢
          rw [e1, e2]
          have hshl := giter_sh n (msOf ls) gk
          have hshp : ∀ j, j < n → 1 ≤ nth (giter n (msOf ls) gk).sh j ∧ nth (giter n (msOf ls) gk).sh j ≤ 32 := fun j hj => giter_share hx55.ok j hj (fr_zero.1 hx55.full j (by omega) (by rw [fullN_bit]; simpa using hj))
          generalize hsh : (giter n (msOf ls) gk).sh = sh at *
          refine sw_x rfl rfl rfl (e_make (α := Int) (zero := 0) rfl rfl rfl rfl rfl (by omega) (by omega) (by decide)) (fun s59 => ?_)
          refine sr rfl rfl rfl ((q_assign rfl rfl)) (sr rfl rfl rfl ((q_assign rfl rfl)) (sw_nil (post_then (cw_seq (cw_seq (cw_region (sr rfl rfl rfl ((q_move rfl rfl)) ?_)))))))
          refine sr rfl rfl rfl ((q_len rfl (.cons rfl inferInstance (.nil)) (by exact fun w hw => rd_own hw (by exact .tail _ (.tail _ (.head _)))))) ?_
          refine sr rfl rfl rfl ((q_move rfl rfl)) (sw_nil (post_then (cw_block ?_)))
          refine cw_loop (S := Nat × List Int) (fun z => [(9, [], .int .i64 (wid (msOf ls))), (14, [], s59.v), (15, [], .int .i64 0), (60, [], ss.v), (61, [], .int .i64 n), (62, [], .int .i64 z.1)]) (fun z => Cl w [] (ownL 3 s59.v z.2 :: ownL 3 so.v out :: ownL 3 ss.v sh :: CV.F y)) (fun z => z.1 ≤ n ∧ z.2.length = n ∧ ∀ j, j < z.1 → nth z.2 j = 27720 / nth sh j) (fun z => n - z.1) (0, List.replicate n 0) ⟨Nat.zero_le _, by simp, fun j hj => by simp only at hj; omega⟩ ?_ ?_ ?_
          · exact Le.cons rfl (Le.cons rfl (Le.cons rfl (Le.cons rfl (Le.cons' rfl (by rw [hshl]) (Le.cons rfl Le.nil)))))
          · intro w3 hw3
            rw [Int.toNat_natCast] at hw3
            exact hw3
          rintro ⟨k, pl⟩ ⟨hk, hpl, hpv⟩
          dsimp only at hk hpl hpv ⊢
          refine cw_seq (cw_region (sr rfl rfl rfl ((q_lss rfl rfl rfl)) (sw_nil (post_then (cw_seq ?_)))))
          refine cw_cond rfl (fun h5 => ?_) (fun h5 => ?_)
          · skip
            have hk' : k < n := by simp only [decide_eq_true_eq] at h5; omega
            have hp1 := hshp k hk'
            refine cw_skip (post_then (cw_seq (cw_block (cw_seq (cw_region (sr rfl rfl rfl ((q_move rfl rfl)) ?_))))))
            refine sr rfl rfl rfl ((q_indexN rfl rfl rfl (by exact fun w hw => rd_own hw (by exact .tail _ (.tail _ (.head _)))) (by intro hc; omega))) ?_
            refine sr rfl rfl rfl ((q_loadEl rfl rfl rfl (by exact fun w hw => rd_own hw (by exact .tail _ (.tail _ (.head _)))) (by intro hc; omega))) ?_
            refine sr rfl rfl rfl ((q_assign rfl rfl)) (sr rfl rfl rfl ((q_assign rfl rfl)) (sw_nil (post_then (cw_region (sr rfl rfl rfl ((q_move rfl rfl)) (sr rfl rfl rfl ((q_move rfl rfl)) (sr rfl rfl rfl ((q_move rfl rfl)) ?_)))))))
            refine sr rfl rfl rfl ((q_quo rfl rfl rfl (by intro hc; omega))) ?_
            refine sr rfl rfl rfl ((q_indexN rfl rfl rfl (by exact fun w hw => rd_own hw (by exact .head _)) (by intro hc; omega))) ?_
            refine sw_eff0 rfl rfl (e_storeEl1 (i := 0) rfl rfl rfl rfl rfl (by omega)) ?_
            refine sw_nil (post_blk (post_then (cw_region ?_)))
            refine sr rfl rfl rfl ((q_add rfl rfl rfl (by intro hc; omega))) ?_
            refine sr rfl rfl rfl ((q_move rfl rfl)) (sw_nil ?_)
            refine post_next (k + 1, pl.set k (27720 / nth sh k)) (by exact .cons rfl (.cons rfl (.cons rfl (.cons rfl (.cons rfl (.cons rfl .nil)))))) (fun w3 hw3 => ?_) ⟨by simp only; omega, by simp [hpl], fun j hj => ?_⟩ (by simp only; omega)
            · exact hw3
            · simp only at hj ⊢
              rw [nth_setP _ _ _ _ (by omega)]
              by_cases e : j = k
              · rw [if_pos e, e]
              · rw [if_neg e]; exact hpv j (by omega)
          · skip
            have hk' : k = n := by simp only [decide_eq_false_iff_not] at h5; omega
            subst hk'
            have hple : pl = sh.map (fun k => 27720 / k) := by
              apply List.ext_getElem
              · simp [hpl, hshl]
              · intro i h6 h7
                have := hpv i (by omega)
                rw [nth_get h6, nth_get (by omega)] at this
                rw [this]; simp
            have hwb := widTo_bd (msOf ls) (msOf ls).length
            have hwb2 : wid (msOf ls) ≤ 32 := hwb.2
            refine cw_exit (post_then_x (post_then_x (post_blk_eq (post_then (cw_seq (cw_seq (cw_region (sr rfl rfl rfl ((q_move rfl rfl)) (sr rfl rfl rfl ((q_move rfl rfl)) (sw_nil (post_then (cw_block ?_))))))))))))
            refine cw_loop (S := Nat) (fun j => [(14, [], s59.v), (15, [], .int .i64 (scaleTo j)), (73, [], .int .i64 (wid (msOf ls))), (74, [], .int .i64 j)]) (fun j => Cl w [] (ownL 3 s59.v pl :: ownL 3 so.v out :: ownL 3 ss.v sh :: CV.F y)) (fun j => j ≤ wid (msOf ls)) (fun j => wid (msOf ls) - j) 0 (Nat.zero_le _) (by exact .cons rfl (.cons rfl (.cons rfl (.cons rfl .nil)))) (fun _ h => h) ?_
            intro j hj
            have hsb := scaleTo_bd j
            have hq1 : (0 : Int) ≤ 27720 / ((j : Int) + 1) := Int.ediv_nonneg (by decide) (by omega)
            have hq2 : (27720 : Int) / ((j : Int) + 1) ≤ 27720 := Int.ediv_le_self _ (by decide)
            refine cw_seq (cw_region (sr rfl rfl rfl ((q_lss rfl rfl rfl)) (sw_nil (post_then (cw_seq ?_)))))
            refine cw_cond rfl (fun h6 => ?_) (fun h6 => ?_)
            · skip
              refine cw_skip (post_then (cw_seq (cw_block (cw_seq (cw_region (sr rfl rfl rfl ((q_move rfl rfl)) (sr rfl rfl rfl ((q_assign rfl rfl)) (sw_nil (post_then (cw_region (sr rfl rfl rfl ((q_move rfl rfl)) (sr rfl rfl rfl ((q_move rfl rfl)) ?_))))))))))))
              refine sr rfl rfl rfl ((q_add rfl rfl rfl (by intro hc; omega))) ?_
              refine sr rfl rfl rfl ((q_quo rfl rfl rfl (by intro hc; omega))) ?_
              refine sr rfl rfl rfl ((q_add rfl rfl rfl (by intro hc; omega))) ?_
              refine sr rfl rfl rfl ((q_assign rfl rfl)) (sw_nil (post_blk (post_then (cw_region ?_))))
              refine sr rfl rfl rfl ((q_add rfl rfl rfl (by intro hc; omega))) ?_
              refine sr rfl rfl rfl ((q_move rfl rfl)) (sw_nil ?_)
              exact post_next (j + 1) (by exact .cons rfl (.cons rfl (.cons rfl (.cons rfl .nil)))) (fun _ h => h) (by simp only [decide_eq_true_eq] at h6; omega) (by simp only [decide_eq_true_eq] at h6; omega)
            · skip
              have hj' : j = wid (msOf ls) := by simp only [decide_eq_false_iff_not] at h6; omega
              subst hj'
              refine cw_exit (post_then_x (post_then_x (post_blk_eq (post_then (cw_seq (cw_region (sr rfl rfl rfl ((q_move rfl rfl)) (sr rfl rfl rfl ((q_move rfl rfl)) (sr rfl rfl rfl ((q_assign rfl rfl)) (sr rfl rfl rfl ((q_assign rfl rfl)) (sr rfl rfl rfl ((q_assign rfl rfl)) (sw_nil (post_then (cw_ret (post_ret3 rfl (resOk_tmp rfl) (resOk_tmp rfl) (resOk_tmp rfl) ?_)))))))))))))))
              exact fun w' hw => ⟨(s59, (pl, (gk, out))), rfl, ⟨by rw [hsh]; exact hple, hx55⟩, (fun w h => Cl.sel (by exact .take 0 rfl (.nil _)) w h) _ hw⟩
end Go.Proofs.YtomjbfeafodfbaaGreat

set_option autoImplicit false
set_option maxRecDepth 100000
namespace Go.Proofs.YtomjbfeafodfbaaGreat
open Go.Sx
open Enc (enc val)
def prcB (n : Nat) (prices : List Int) (scale : Int) : Bool := decide (prices.length = n) && inB scale 1 1000000000000 && prices.all fun p => inB p 0 1000000000
def provB (n : Nat) (ms : List Nat) (prices : List Int) (scale : Int) : Bool := prcB n prices scale && ms.all fun m => decide (psum prices m n ≤ scale)
def provV (n : Nat) (ms : List Nat) (prices : List Int) (scale : Int) : Int := if provB n ms prices scale then (sumTo prices n + scale - 1) / scale else 0
theorem pr1_spec (xs : List Int) : PredL Tryz.prog 82 #[] (fun x : Int => !inB x 0 1000000000) (fun _ => True) xs := fun x _ w _ => by
    refine calls_cw (vs := [_]) Tryz.func82 rfl Tryz.ntmps82 rfl (Cl.start0 w) (cw_seq (cw_region (sr rfl rfl rfl ((q_assign rfl rfl)) (sw_nil (post_then (cw_seq (cw_region (sr rfl rfl rfl ((q_move rfl rfl)) (sw_step rfl rfl rfl (q_call (CanCall.mk Tryz.call70) rfl (.cons rfl inferInstance (.cons rfl inferInstance (.cons rfl inferInstance (.nil)))) (fun _ w hw => callq hw (within_spec _ _ _ w))) (sr rfl rfl rfl ((q_not rfl rfl)) (sr rfl rfl rfl ((q_assign rfl rfl)) (sw_nil (post_then (cw_ret (post_ret1 rfl (resOk_tmp rfl) ?_)))))))))))))))
    exact fun w' hw => ⟨rfl, hw⟩
theorem proves_bad (n : Int) (hn : -9223372036854775808 ≤ n) (sv : SlV) (vs : List SlV) (ls : List (List Int)) (sp : SlV) (prices : List Int) (scale : Int) (w : World) (hm : Stb w [] (fun w' => Mt w' sv.v vs ls)) (hp : Stb w [] (RdL sp.v prices)) (hE : covE n ls 1000 ≠ 0) :
    Calls Tryz.prog 39 #[.int .i64 n, sv.v, sp.v, .int .i64 scale] w fun e w' => e = .returned (.tuple #[.int .i64 0, .bool false]) ∧ Cl w [] [] w' := by
  have hL := rd_len hp.here
  refine calls_cw (vs := [_, _, _, _]) Tryz.func39 rfl Tryz.ntmps39 rfl (Cl.start0 w) (cw_seq (cw_region (sr rfl rfl rfl ((q_assign rfl rfl)) (sr rfl rfl rfl ((q_assign rfl rfl)) (sw_nil (post_then (cw_seq (cw_region (sr rfl rfl rfl ((q_move rfl rfl)) (sr rfl rfl rfl ((q_move rfl rfl)) (sw_step rfl rfl rfl (q_call (CanCall.mk Tryz.call75) rfl (.cons rfl inferInstance (.cons rfl inferInstance (.cons rfl inferInstance (.nil)))) (fun _ w hw => callq hw (covering_no n hn sv vs ls 1000 w (stb_arg hw hm) hE))) (sr rfl rfl rfl ((q_move rfl rfl)) (sr rfl rfl rfl ((q_extract rfl rfl rfl)) (sr rfl rfl rfl ((q_extract rfl rfl rfl)) (sr rfl rfl rfl ((q_assign rfl rfl)) (sr rfl rfl rfl ((q_assign rfl rfl)) (sw_nil (post_then (cw_seq (cw_seq (cw_region (sr rfl rfl rfl ((q_move rfl rfl)) (sr rfl rfl rfl ((q_neq rfl rfl rfl)) (sr rfl rfl rfl ((q_move rfl rfl)) (sr rfl rfl rfl ((q_move rfl rfl)) ?_)))))))))))))))))))))))))
  refine sr rfl rfl rfl ((q_len rfl (.cons rfl inferInstance (.nil)) (by exact fun w hw => Stb.cl (by assumption) hw))) ?_
  refine sr rfl rfl rfl ((q_move rfl rfl)) (sr rfl rfl rfl ((q_neq rfl rfl rfl)) (sr rfl rfl rfl ((q_or2 rfl rfl rfl)) (sr rfl rfl rfl ((q_move rfl rfl)) (sr rfl rfl rfl ((q_move rfl rfl)) (sw_step rfl rfl rfl (q_call (CanCall.mk Tryz.call70) rfl (.cons rfl inferInstance (.cons rfl inferInstance (.cons rfl inferInstance (.nil)))) (fun _ w hw => callq hw (within_spec _ _ _ w))) (sr rfl rfl rfl ((q_not rfl rfl)) (sr rfl rfl rfl ((q_or2 rfl rfl rfl)) (sr rfl rfl rfl ((q_move rfl rfl)) (sr rfl rfl rfl ((q_move rfl rfl)) ?_)))))))))
  refine sw_step rfl rfl rfl (q_call (CanCall.mk Tryz.call81) rfl (.cons rfl inferInstance (.cons rfl inferInstance (.nil))) (fun _ w hw => callq hw (containsInt_spec _ _ _ _ _ _ w (by exact stb_arg hw (by assumption)) (stb_true w []) (CanCall.mk Tryz.call82) (pr1_spec _)))) ?_
  refine sr rfl rfl rfl ((q_or2 rfl rfl rfl)) (sw_nil (post_then ?_))
  refine cw_cond rfl (fun h => ?_) (fun h => ?_)
  · skip
    refine cw_seq (cw_region (sr rfl rfl rfl ((q_assign rfl rfl)) (sr rfl rfl rfl ((q_assign rfl rfl)) (sw_nil (post_then (cw_ret (post_then_r (post_ret2 rfl (resOk_tmp rfl) (resOk_tmp rfl) ?_))))))))
    exact fun w' hw => ⟨rfl, hw⟩
  · skip
    exfalso
    simp only [Bool.or_eq_false_iff, Bool.not_eq_false', decide_eq_true_eq] at h
    exact hE h.1.1.1
theorem proves_yes (n : Nat) (hn : n ≤ 30) (sv : SlV) (vs : List SlV) (ls : List (List Int)) (sp : SlV) (prices : List Int) (scale : Int) (w : World) (hm : Stb w [] (fun w' => Mt w' sv.v vs ls)) (hp : Stb w [] (RdL sp.v prices)) (hE : covE n ls 1000 = 0) :
    Calls Tryz.prog 39 #[.int .i64 n, sv.v, sp.v, .int .i64 scale] w fun e w' => e = .returned (.tuple #[.int .i64 (provV n (msOf ls) prices scale), .bool (provB n (msOf ls) prices scale)]) ∧ Cl w [] [] w' := by
  have hL := rd_len hp.here
  have hl := (covE_ok hE).2.1
  refine calls_cw (vs := [_, _, _, _]) Tryz.func39 rfl Tryz.ntmps39 rfl (Cl.start0 w) (cw_seq (cw_region (sr rfl rfl rfl ((q_assign rfl rfl)) (sr rfl rfl rfl ((q_assign rfl rfl)) (sw_nil (post_then (cw_seq (cw_region (sr rfl rfl rfl ((q_move rfl rfl)) (sr rfl rfl rfl ((q_move rfl rfl)) ?_))))))))))
  refine sw_x rfl rfl rfl (e_call (CanCall.mk Tryz.call75) rfl (.cons rfl inferInstance (.cons rfl inferInstance (.cons rfl inferInstance (.nil)))) (fun w hw => covering_yes n hn sv vs ls 1000 w (stb_arg hw hm) (by omega) hE)) (fun y => ?_)
  refine sw_imp fun hg => ?_
  rw [List.append_nil]
  have hok := cgood_ok hg hn hE (by omega)
  have e1 := hg.n
  have e2 : y.1.ms = msOf ls := hg.ms
  have hml : y.1.ms.length ≤ 1000 := hok.l
  have hrd : ∀ {w1 : World}, Cl w [] (CV.F y) w1 → Stb w1 [] y.1.Rd := fun hw => cv_rd hg hw.split0.2.1 (fun A hA => hA)
  refine sr rfl rfl rfl ((q_move rfl rfl)) (sr rfl rfl rfl ((q_extract rfl rfl rfl)) (sr rfl rfl rfl ((q_extract rfl rfl rfl)) (sr rfl rfl rfl ((q_assign rfl rfl)) (sr rfl rfl rfl ((q_assign rfl rfl)) (sw_nil (post_then (cw_seq (cw_seq (cw_region (sr rfl rfl rfl ((q_move rfl rfl)) (sr rfl rfl rfl ((q_neq rfl rfl rfl)) (sr rfl rfl rfl ((q_move rfl rfl)) (sr rfl rfl rfl ((q_move rfl rfl)) ?_)))))))))))))
  refine sr rfl rfl rfl ((q_len rfl (.cons rfl inferInstance (.nil)) (by exact fun w hw => Stb.cl (by assumption) hw))) ?_
  refine sr rfl rfl rfl ((q_move rfl rfl)) (sr rfl rfl rfl ((q_neq rfl rfl rfl)) (sr rfl rfl rfl ((q_or2 rfl rfl rfl)) (sr rfl rfl rfl ((q_move rfl rfl)) (sr rfl rfl rfl ((q_move rfl rfl)) (sw_step rfl rfl rfl (q_call (CanCall.mk Tryz.call70) rfl (.cons rfl inferInstance (.cons rfl inferInstance (.cons rfl inferInstance (.nil)))) (fun _ w hw => callq hw (within_spec _ _ _ w))) (sr rfl rfl rfl ((q_not rfl rfl)) (sr rfl rfl rfl ((q_or2 rfl rfl rfl)) (sr rfl rfl rfl ((q_move rfl rfl)) (sr rfl rfl rfl ((q_move rfl rfl)) ?_)))))))))
  refine sw_step rfl rfl rfl (q_call (CanCall.mk Tryz.call81) rfl (.cons rfl inferInstance (.cons rfl inferInstance (.nil))) (fun _ w hw => callq hw (containsInt_spec _ _ _ _ _ _ w (by exact stb_arg hw (by assumption)) (stb_true w []) (CanCall.mk Tryz.call82) (pr1_spec _)))) ?_
  refine sr rfl rfl rfl ((q_or2 rfl rfl rfl)) (sw_nil (post_then ?_))
  refine cw_cond rfl (fun h => ?_) (fun h => ?_)
  · skip
    have h1 : prcB n prices scale = false := by
      have hx : (prices.any fun x => !inB x 0 1000000000) = !prices.all fun x => inB x 0 1000000000 := by rw [← List.not_all_eq_any_not]
      rw [hx] at h
      simp only [prcB]
      simp only [decide_true, Bool.not_true, Bool.false_or] at h
      by_cases h5 : prices.length = n
      · have h6 : ((prices.length : Int) = (n : Int)) := by omega
        simp only [h5, decide_true, Bool.true_and]
        simp only [h6, decide_true, Bool.not_true, Bool.false_or] at h
        cases h7 : inB scale 1 1000000000000 <;> simp_all
      · simp [h5]
    have h2 : provB n (msOf ls) prices scale = false := by rw [provB, h1]; rfl
    refine cw_seq (cw_region (sr rfl rfl rfl ((q_assign rfl rfl)) (sr rfl rfl rfl ((q_assign rfl rfl)) (sw_nil (post_then (cw_ret (post_then_r (post_ret2 rfl (resOk_tmp rfl) (resOk_tmp rfl) ?_))))))))
    exact fun w' hw => ⟨by rw [provV, h2]; rfl, (fun w h => Cl.sel (by exact .nil _) w h) _ hw⟩
  · skip
    have h1 : prcB n prices scale = true := by
      have hx : (prices.any fun x => !inB x 0 1000000000) = !prices.all fun x => inB x 0 1000000000 := by rw [← List.not_all_eq_any_not]
      rw [hx] at h
      simp only [prcB]
      simp only [decide_true, Bool.not_true, Bool.false_or, Bool.or_eq_false_iff, Bool.not_eq_false', decide_eq_true_eq] at h
      obtain ⟨⟨h5, h6⟩, h7⟩ := h
      have h8 : prices.length = n := by omega
      rw [h6, h7]; simp [h8]
    have hpl : prices.length = n := by simp only [prcB, Bool.and_eq_true, decide_eq_true_eq] at h1; exact h1.1.1
    have hsc : 1 ≤ scale ∧ scale ≤ 1000000000000 := by simp only [prcB, Bool.and_eq_true, inB, decide_eq_true_eq] at h1; exact h1.1.2
    have hpb : ∀ k, 0 ≤ nth prices k ∧ nth prices k ≤ 1000000000 := nth_bd (by omega) fun v hv => by
      simp only [prcB, Bool.and_eq_true] at h1
      have := List.all_eq_true.1 h1.2 v hv
      simpa [inB] using this
    refine cw_c (C' := fun w1 => (y.1.ls.length = y.1.ms.length) ∧ Cl w [] (CV.F y) w1) (fun w1 hw => ⟨(hrd hw).here.ll, hw⟩) (cw_imp fun hll => (cw_skip (post_then (cw_seq (cw_region (sr rfl rfl rfl ((q_assign rfl rfl)) (sw_nil (post_then (cw_seq (cw_seq (cw_region (sr rfl rfl rfl ((q_move rfl rfl)) ?_))))))))))))
    refine sr rfl rfl rfl ((q_len rfl (.cons rfl inferInstance (.nil)) (by exact fun w hw => Stb.cl (by assumption) hw))) ?_
    refine sr rfl rfl rfl ((q_move rfl rfl)) (sw_nil (post_then (cw_block ?_)))
    refine cw_loop (S := Nat) (fun k => [(0, [], .int .i64 n), (2, [], sp.v), (3, [], .int .i64 scale), (10, [], .pointer (some ⟨y.1.bc, 0, none⟩)), (12, [], .int .i64 (sumTo prices k)), (42, [], sp.v), (43, [], .int .i64 n), (44, [], .int .i64 k)]) (fun k => Cl w [] (CV.F y)) (fun k => k ≤ n) (fun k => n - k) 0 (Nat.zero_le _) ?_ (fun _ h => h) ?_
    · exact Le.cons rfl (Le.cons rfl (Le.cons rfl (Le.cons rfl (Le.cons rfl (Le.cons rfl (Le.cons' rfl (by rw [hpl]) (Le.cons rfl Le.nil)))))))
    intro k hk
    have hs1 := sumTo_bd hpb k
    have hs2 := hpb k
    refine cw_seq (cw_region (sr rfl rfl rfl ((q_lss rfl rfl rfl)) (sw_nil (post_then (cw_seq ?_)))))
    refine cw_cond rfl (fun h2 => ?_) (fun h2 => ?_)
    · skip
      have hk' : k < n := by simp only [decide_eq_true_eq] at h2; omega
      refine cw_skip (post_then (cw_seq (cw_block (cw_seq (cw_region ?_)))))
      refine sr rfl rfl rfl ((q_indexN rfl rfl rfl (by exact fun w hw => Stb.cl (by assumption) hw) (by intro hc; omega))) ?_
      refine sr rfl rfl rfl ((q_loadEl rfl rfl rfl (by exact fun w hw => Stb.cl (by assumption) hw) (by intro hc; omega))) ?_
      refine sr rfl rfl rfl ((q_assign rfl rfl)) (sw_nil (post_then (cw_region (sr rfl rfl rfl ((q_move rfl rfl)) (sr rfl rfl rfl ((q_move rfl rfl)) ?_)))))
      refine sr rfl rfl rfl ((q_add rfl rfl rfl (by intro hc; omega))) ?_
      refine sr rfl rfl rfl ((q_assign rfl rfl)) (sw_nil (post_blk (post_then (cw_region ?_))))
      refine sr rfl rfl rfl ((q_add rfl rfl rfl (by intro hc; omega))) ?_
      refine sr rfl rfl rfl ((q_move rfl rfl)) (sw_nil ?_)
      exact post_next (k + 1) (by exact .cons rfl (.cons rfl (.cons rfl (.cons rfl (.cons rfl (.cons rfl (.cons rfl (.cons rfl .nil)))))))) (fun _ h => h) (by omega) (by omega)
    · skip
      have hk' : k = n := by simp only [decide_eq_false_iff_not] at h2; omega
      subst hk'
      refine cw_exit (post_then_x (post_then_x (post_blk_eq (post_then (cw_seq (cw_seq (cw_region (sr rfl rfl rfl ((q_move rfl rfl)) (sr rfl rfl rfl ((q_nilCheck rfl rfl)) (sr rfl rfl rfl ((q_fieldAddr rfl rfl)) ?_))))))))))
      refine sr rfl rfl rfl ((q_loadC rfl rfl (by exact .head _) rfl)) ?_
      refine sr rfl rfl rfl ((q_len rfl (.cons rfl inferInstance (.nil)) (by exact fun w hw => rd_own hw (by exact .tail _ (.head _))))) ?_
      refine sr rfl rfl rfl ((q_move rfl rfl)) (sw_nil (post_then (cw_block ?_)))
      refine cw_loop (S := Nat) (fun i => [(0, [], .int .i64 k), (2, [], sp.v), (3, [], .int .i64 scale), (12, [], .int .i64 (sumTo prices k)), (55, [], y.1.ss.v), (56, [], .int .i64 y.1.ms.length), (57, [], .int .i64 i)]) (fun i => Cl w [] (CV.F y)) (fun i => i ≤ y.1.ms.length ∧ ∀ j, j < i → psum prices (nth y.1.ms j) k ≤ scale) (fun i => y.1.ms.length - i) 0 ⟨Nat.zero_le _, fun j hj => by omega⟩ ?_ (fun _ h => h) ?_
      · exact Le.cons rfl (Le.cons rfl (Le.cons rfl (Le.cons rfl (Le.cons rfl (Le.cons' rfl (by rw [hll]) (Le.cons rfl Le.nil))))))
      rintro i ⟨hi, hsum⟩
      refine cw_seq (cw_region (sr rfl rfl rfl ((q_lss rfl rfl rfl)) (sw_nil (post_then (cw_seq ?_)))))
      refine cw_cond rfl (fun h3 => ?_) (fun h3 => ?_)
      · skip
        have hi' : i < y.1.ms.length := by simp only [decide_eq_true_eq] at h3; omega
        have m1 := hok.lt i
        refine cw_skip (post_then (cw_seq (cw_block (cw_seq (cw_region ?_)))))
        refine sr rfl rfl rfl ((q_indexN rfl rfl rfl (by exact fun w hw => rd_own hw (by exact .tail _ (.head _))) (by intro hc; omega))) ?_
        refine sr rfl rfl rfl ((q_loadEl rfl rfl rfl (by exact fun w hw => rd_own hw (by exact .tail _ (.head _))) (by intro hc; omega))) ?_
        refine sr rfl rfl rfl ((q_assign rfl rfl)) (sw_nil (post_then (cw_seq (cw_region (sr rfl rfl rfl ((q_assign rfl rfl)) (sw_nil (post_then (cw_seq (cw_seq (cw_region (sr rfl rfl rfl ((q_move rfl rfl)) (sr rfl rfl rfl ((q_move rfl rfl)) (sw_nil (post_then (cw_block ?_)))))))))))))))
        refine cw_loop (S := Nat) (fun x => [(0, [], .int .i64 k), (2, [], sp.v), (3, [], .int .i64 scale), (12, [], .int .i64 (sumTo prices k)), (16, [], (nth y.1.ls i).v), (17, [], .int .i64 (psum prices (nth y.1.ms i) x)), (55, [], y.1.ss.v), (56, [], .int .i64 y.1.ms.length), (57, [], .int .i64 i), (61, [], .int .i64 k), (62, [], .int .i64 x)]) (fun x => Cl w [] (CV.F y)) (fun x => x ≤ k) (fun x => k - x) 0 (Nat.zero_le _) (by exact .cons rfl (.cons rfl (.cons rfl (.cons rfl (.cons rfl (.cons rfl (.cons rfl (.cons rfl (.cons rfl (.cons rfl (.cons rfl .nil))))))))))) (fun _ h => h) ?_
        intro x hx
        have hb1 := psum_bd hpb (nth y.1.ms i) x
        have hb2 := hpb x
        refine cw_seq (cw_region (sr rfl rfl rfl ((q_lss rfl rfl rfl)) (sw_nil (post_then (cw_seq ?_)))))
        refine cw_cond rfl (fun h4 => ?_) (fun h4 => ?_)
        · skip
          have hx' : x < k := by simp only [decide_eq_true_eq] at h4; omega
          have hrow : ∀ {w1 : World}, Cl w [] (CV.F y) w1 → Stb w1 [] (RdL (nth y.1.ls i).v [UW.mk (nth y.1.ms i)]) := fun hw => by
            have := (hrd hw).here.mm i hi'
            rw [ws_pos (by rw [e1]; omega)] at this
            exact rd_stb this
          refine cw_skip (post_then (cw_seq (cw_block (cw_seq (cw_region (sr rfl rfl rfl ((q_move rfl rfl)) (sr rfl rfl rfl ((q_assign rfl rfl)) (sw_nil (post_then (cw_seq (cw_region (sr rfl rfl rfl ((q_move rfl rfl)) (sr rfl rfl rfl ((q_move rfl rfl)) ?_)))))))))))))
          refine sw_step rfl rfl rfl (q_call (CanCall.mk Tryz.call83) rfl (.cons rfl inferInstance (.cons rfl inferInstance (.nil))) (fun _ w hw => callq hw (has_spec _ (nth y.1.ms i) x (by omega) m1 w (hrow hw)))) ?_
          refine sw_nil (post_then ?_)
          refine cw_cut (S := Unit) (fun _ => [(0, [], .int .i64 k), (2, [], sp.v), (3, [], .int .i64 scale), (12, [], .int .i64 (sumTo prices k)), (16, [], (nth y.1.ls i).v), (17, [], .int .i64 (psum prices (nth y.1.ms i) (x + 1))), (55, [], y.1.ss.v), (56, [], .int .i64 y.1.ms.length), (57, [], .int .i64 i), (61, [], .int .i64 k), (62, [], .int .i64 x)]) (fun _ => Cl w [] (CV.F y)) (fun _ => True) ?_ ?_
          · refine cw_cond rfl (fun h5 => ?_) (fun h5 => ?_)
            · skip
              have e5 : psum prices (nth y.1.ms i) (x + 1) = psum prices (nth y.1.ms i) x + nth prices x := by rw [psum, if_pos h5]
              refine cw_region (sr rfl rfl rfl ((q_move rfl rfl)) (sr rfl rfl rfl ((q_move rfl rfl)) (sr rfl rfl rfl ((q_move rfl rfl)) ?_)))
              refine sr rfl rfl rfl ((q_indexN rfl rfl rfl (by exact fun w hw => Stb.cl (by assumption) hw) (by intro hc; omega))) ?_
              refine sr rfl rfl rfl ((q_loadEl rfl rfl rfl (by exact fun w hw => Stb.cl (by assumption) hw) (by intro hc; omega))) ?_
              refine sr rfl rfl rfl ((q_add rfl rfl rfl (by intro hc; omega))) ?_
              refine sr rfl rfl rfl ((q_assign rfl rfl)) (sw_nil ?_)
              refine post_meet () ?_ (fun _ h => h) trivial
              rw [e5]
              exact (by exact .cons rfl (.cons rfl (.cons rfl (.cons rfl (.cons rfl (.cons rfl (.cons rfl (.cons rfl (.cons rfl (.cons rfl (.cons rfl .nil)))))))))))
            · skip
              have e5 : psum prices (nth y.1.ms i) (x + 1) = psum prices (nth y.1.ms i) x := by rw [psum, if_neg (by rw [h5]; decide), Int.add_zero]
              refine cw_skip ?_
              refine post_meet () ?_ (fun _ h => h) trivial
              rw [e5]
              exact (by exact .cons rfl (.cons rfl (.cons rfl (.cons rfl (.cons rfl (.cons rfl (.cons rfl (.cons rfl (.cons rfl (.cons rfl (.cons rfl .nil)))))))))))
          · intro _ _
            refine post_blk (post_then (cw_region ?_))
            refine sr rfl rfl rfl ((q_add rfl rfl rfl (by intro hc; omega))) ?_
            refine sr rfl rfl rfl ((q_move rfl rfl)) (sw_nil ?_)
            exact post_next (x + 1) (by exact .cons rfl (.cons rfl (.cons rfl (.cons rfl (.cons rfl (.cons rfl (.cons rfl (.cons rfl (.cons rfl (.cons rfl (.cons rfl .nil))))))))))) (fun _ h => h) (by omega) (by omega)
        · skip
          have hx' : x = k := by simp only [decide_eq_false_iff_not] at h4; omega
          subst hx'
          refine cw_exit (post_then_x (post_then_x (post_blk_eq (post_then (cw_seq (cw_region (sr rfl rfl rfl ((q_move rfl rfl)) (sr rfl rfl rfl ((q_move rfl rfl)) (sr rfl rfl rfl ((q_gtr rfl rfl rfl)) (sw_nil (post_then ?_)))))))))))
          refine cw_cond rfl (fun h5 => ?_) (fun h5 => ?_)
          · skip
            have h6 : provB x (msOf ls) prices scale = false := by
              have : ((msOf ls).all fun m => decide (psum prices m x ≤ scale)) = false := List.all_eq_false.2 ⟨nth y.1.ms i, by rw [← e2]; exact nth_mem hi', by simp only [decide_eq_true_eq] at h5 ⊢; omega⟩
              rw [provB, this, Bool.and_false]
            refine cw_seq (cw_region (sr rfl rfl rfl ((q_assign rfl rfl)) (sr rfl rfl rfl ((q_assign rfl rfl)) (sw_nil (post_then (cw_ret (post_blk_r (post_then_r (post_then_r (post_blk_r (post_then_r (post_ret2 rfl (resOk_tmp rfl) (resOk_tmp rfl) ?_))))))))))))
            exact fun w' hw => ⟨by rw [provV, h6]; rfl, (fun w h => Cl.sel (by exact .nil _) w h) _ hw⟩
          · skip
            refine cw_skip (post_blk (post_then (cw_region ?_)))
            refine sr rfl rfl rfl ((q_add rfl rfl rfl (by intro hc; omega))) ?_
            refine sr rfl rfl rfl ((q_move rfl rfl)) (sw_nil ?_)
            refine post_next (i + 1) (by exact .cons rfl (.cons rfl (.cons rfl (.cons rfl (.cons rfl (.cons rfl (.cons rfl .nil))))))) (fun _ h => h) ⟨by omega, fun j hj => ?_⟩ (by omega)
            by_cases e : j = i
            · subst e; simp only [decide_eq_false_iff_not] at h5; omega
            · exact hsum j (by omega)
      · skip
        have hi' : i = y.1.ms.length := by simp only [decide_eq_false_iff_not] at h3; omega
        subst hi'
        have h6 : provB k (msOf ls) prices scale = true := by
          rw [provB, h1, Bool.true_and, List.all_eq_true]
          intro m hm2
          rw [← e2] at hm2
          obtain ⟨j, hj, rfl⟩ := List.getElem_of_mem hm2
          have := hsum j hj
          rw [nth_get hj] at this
          simpa using this
        refine cw_exit (post_then_x (post_then_x (post_blk_eq (post_then (cw_seq (cw_region (sr rfl rfl rfl ((q_move rfl rfl)) (sr rfl rfl rfl ((q_move rfl rfl)) ?_))))))))
        refine sr rfl rfl rfl ((q_add rfl rfl rfl (by intro hc; omega))) ?_
        refine sr rfl rfl rfl ((q_sub rfl rfl rfl (by intro hc; omega))) ?_
        refine sr rfl rfl rfl ((q_move rfl rfl)) ?_
        refine sr rfl rfl rfl ((q_quo rfl rfl rfl (by intro hc; omega))) ?_
        refine sr rfl rfl rfl ((q_assign rfl rfl)) (sr rfl rfl rfl ((q_assign rfl rfl)) (sw_nil (post_then (cw_ret (post_ret2 rfl (resOk_tmp rfl) (resOk_tmp rfl) ?_)))))
        exact fun w' hw => ⟨by rw [provV, h6]; rfl, (fun w h => Cl.sel (by exact .nil _) w h) _ hw⟩
end Go.Proofs.YtomjbfeafodfbaaGreat

set_option autoImplicit false
set_option maxRecDepth 100000
namespace Go.Proofs.YtomjbfeafodfbaaGreat
open Go.Sx
open Enc (enc val)
theorem ne_at {α : Type} [Inhabited α] [DecidableEq α] {a b : List α} {k : Nat} (hk : k < a.length) (h : nth a k ≠ nth b k) : decide (a = b) = false := by
  simp only [decide_eq_false_iff_not]
  rintro rfl
  exact h rfl
theorem eq_all {α : Type} [Inhabited α] [DecidableEq α] {a b : List α} (hl : a.length = b.length) (h : ∀ j, j < a.length → nth a j = nth b j) : decide (a = b) = true := by
  simp only [decide_eq_true_eq]
  apply List.ext_getElem hl
  intro i h1 h2
  have := h i h1
  rwa [nth_get h1, nth_get h2] at this
theorem ne_len {α : Type} [DecidableEq α] {a b : List α} (hl : a.length ≠ b.length) : decide (a = b) = false := by
  simp only [decide_eq_false_iff_not]
  rintro rfl
  exact hl rfl
theorem same_spec (sa sb : Value) (a b : List Int) (w : World) (ha : Stb w [] (RdL sa a)) (hb : Stb w [] (RdL sb b)) : Calls Tryz.prog 23 #[sa, sb] w fun e w' => e = .returned (.bool (decide (a = b))) ∧ Cl w [] [] w' := by
  have hL := rd_len ha.here
  refine calls_cw (vs := [_, _]) Tryz.func23 rfl Tryz.ntmps23 rfl (Cl.start0 w) (cw_seq (cw_region (sr rfl rfl rfl ((q_assign rfl rfl)) (sw_nil (post_then (cw_seq (cw_seq (cw_region (sr rfl rfl rfl ((q_move rfl rfl)) ?_)))))))))
  refine sr rfl rfl rfl ((q_len rfl (.cons rfl inferInstance (.nil)) (by exact fun w hw => Stb.cl (by assumption) hw))) ?_
  refine sr rfl rfl rfl ((q_move rfl rfl)) ?_
  refine sr rfl rfl rfl ((q_len rfl (.cons rfl inferInstance (.nil)) (by exact fun w hw => Stb.cl (by assumption) hw))) ?_
  refine sr rfl rfl rfl ((q_neq rfl rfl rfl)) (sw_nil (post_then ?_))
  refine cw_cond rfl (fun h => ?_) (fun h => ?_)
  · skip
    refine cw_seq (cw_region (sr rfl rfl rfl ((q_assign rfl rfl)) (sw_nil (post_then (cw_ret (post_then_r (post_ret1 rfl (resOk_tmp rfl) ?_)))))))
    exact fun w' hw => ⟨by rw [ne_len]; simp at h; omega, hw⟩
  · skip
    have hl : a.length = b.length := by simp at h; omega
    refine cw_skip (post_then (cw_seq (cw_seq (cw_region (sr rfl rfl rfl ((q_assign rfl rfl)) (sw_nil (post_then (cw_block ?_))))))))
    refine cw_loop (S := Nat) (fun k => [(0, [], sa), (1, [], sb), (5, [], .int .i64 k)]) (fun _ => Cl w [] []) (fun k => k ≤ a.length ∧ ∀ j, j < k → nth a j = nth b j) (fun k => a.length - k) 0 ⟨Nat.zero_le _, fun j hj => by omega⟩ (by exact .cons rfl (.cons rfl (.cons rfl .nil))) (fun _ h => h) ?_
    rintro k ⟨hk, he⟩
    refine cw_seq (cw_seq (cw_region (sr rfl rfl rfl ((q_move rfl rfl)) (sr rfl rfl rfl ((q_move rfl rfl)) ?_))))
    refine sr rfl rfl rfl ((q_len rfl (.cons rfl inferInstance (.nil)) (by exact fun w hw => Stb.cl (by assumption) hw))) ?_
    refine sr rfl rfl rfl ((q_lss rfl rfl rfl)) (sw_nil (post_then ?_))
    refine cw_cond rfl (fun h2 => ?_) (fun h2 => ?_)
    · skip
      have hk' : k < a.length := by simp only [decide_eq_true_eq] at h2; omega
      refine cw_skip (post_then (cw_seq (cw_block (cw_seq ?_))))
      refine cw_region_q mixed_Tryz (by kernel_rfl) ?_
      refine qr rfl rfl rfl ((q_move rfl rfl)) (qr rfl rfl rfl ((q_move rfl rfl)) ?_)
      refine qr rfl rfl rfl ((q_indexN rfl rfl rfl (by exact fun w hw => Stb.cl (by assumption) hw) (by intro hc; omega))) ?_
      refine qr rfl rfl rfl ((q_loadEl rfl rfl rfl (by exact fun w hw => Stb.cl (by assumption) hw) (by intro hc; omega))) ?_
      refine qr rfl rfl rfl ((q_move rfl rfl)) (qr rfl rfl rfl ((q_move rfl rfl)) ?_)
      refine qr rfl rfl rfl ((q_indexN rfl rfl rfl (by exact fun w hw => Stb.cl (by assumption) hw) (by intro hc; omega))) ?_
      refine qr rfl rfl rfl ((q_loadEl rfl rfl rfl (by exact fun w hw => Stb.cl (by assumption) hw) (by intro hc; omega))) ?_
      refine qr rfl rfl rfl ((q_neq rfl rfl rfl)) (qw_end (post_then ?_))
      refine cw_cond rfl (fun h3 => ?_) (fun h3 => ?_)
      · skip
        refine cw_seq (cw_region (sr rfl rfl rfl ((q_assign rfl rfl)) (sw_nil (post_then (cw_ret (post_blk_r (post_then_r (post_then_r (post_blk_r (post_then_r (post_ret1 rfl (resOk_tmp rfl) ?_)))))))))))
        exact fun w' hw => ⟨by rw [ne_at hk' (by simpa using h3)], hw⟩
      · skip
        refine cw_skip (post_blk (post_then (cw_region (sr rfl rfl rfl ((q_move rfl rfl)) ?_))))
        refine sr rfl rfl rfl ((q_add rfl rfl rfl (by intro hc; omega))) ?_
        refine sr rfl rfl rfl ((q_assign rfl rfl)) (sw_nil ?_)
        refine post_next (k + 1) (by exact .cons rfl (.cons rfl (.cons rfl .nil))) (fun _ h => h) ⟨by omega, fun j hj => ?_⟩ (by omega)
        by_cases e : j = k
        · subst e; simpa using h3
        · exact he j (by omega)
    · skip
      have hk' : k = a.length := by simp only [decide_eq_false_iff_not] at h2; omega
      subst hk'
      refine cw_exit (post_then_x (post_then_x (post_blk_eq (post_then (cw_seq (cw_region (sr rfl rfl rfl ((q_assign rfl rfl)) (sw_nil (post_then (cw_ret (post_ret1 rfl (resOk_tmp rfl) ?_)))))))))))
      exact fun w' hw => ⟨by rw [eq_all hl he], hw⟩
theorem sameLists_spec (sa sb : Value) (va vb : List SlV) (a b : List (List Int)) (w : World) (ha : Stb w [] (fun w' => Mt w' sa va a)) (hb : Stb w [] (fun w' => Mt w' sb vb b)) : Calls Tryz.prog 24 #[sa, sb] w fun e w' => e = .returned (.bool (decide (a = b))) ∧ Cl w [] [] w' := by
  have ha1 := stb_map ha fun _ h => h.l
  have hb1 := stb_map hb fun _ h => h.l
  have hL := rd_len ha1.here
  have na := ha.here.n
  have nb := hb.here.n
  refine calls_cw (vs := [_, _]) Tryz.func24 rfl Tryz.ntmps24 rfl (Cl.start0 w) (cw_seq (cw_region (sr rfl rfl rfl ((q_assign rfl rfl)) (sw_nil (post_then (cw_seq (cw_seq (cw_region (sr rfl rfl rfl ((q_move rfl rfl)) ?_)))))))))
  refine sr rfl rfl rfl ((q_len rfl (.cons rfl inferInstance (.nil)) (by exact fun w hw => Stb.cl (by assumption) hw))) ?_
  refine sr rfl rfl rfl ((q_move rfl rfl)) ?_
  refine sr rfl rfl rfl ((q_len rfl (.cons rfl inferInstance (.nil)) (by exact fun w hw => Stb.cl (by assumption) hw))) ?_
  refine sr rfl rfl rfl ((q_neq rfl rfl rfl)) (sw_nil (post_then ?_))
  refine cw_cond rfl (fun h => ?_) (fun h => ?_)
  · skip
    refine cw_seq (cw_region (sr rfl rfl rfl ((q_assign rfl rfl)) (sw_nil (post_then (cw_ret (post_then_r (post_ret1 rfl (resOk_tmp rfl) ?_)))))))
    exact fun w' hw => ⟨by rw [ne_len]; simp at h; omega, hw⟩
  · skip
    have hl : a.length = b.length := by simp at h; omega
    refine cw_skip (post_then (cw_seq (cw_seq (cw_region (sr rfl rfl rfl ((q_assign rfl rfl)) (sw_nil (post_then (cw_block ?_))))))))
    refine cw_loop (S := Nat) (fun k => [(0, [], sa), (1, [], sb), (5, [], .int .i64 k)]) (fun _ => Cl w [] []) (fun k => k ≤ a.length ∧ ∀ j, j < k → nth a j = nth b j) (fun k => a.length - k) 0 ⟨Nat.zero_le _, fun j hj => by omega⟩ (by exact .cons rfl (.cons rfl (.cons rfl .nil))) (fun _ h => h) ?_
    rintro k ⟨hk, he⟩
    refine cw_seq (cw_seq (cw_region (sr rfl rfl rfl ((q_move rfl rfl)) (sr rfl rfl rfl ((q_move rfl rfl)) ?_))))
    refine sr rfl rfl rfl ((q_len rfl (.cons rfl inferInstance (.nil)) (by exact fun w hw => Stb.cl (by assumption) hw))) ?_
    refine sr rfl rfl rfl ((q_lss rfl rfl rfl)) (sw_nil (post_then ?_))
    refine cw_cond rfl (fun h2 => ?_) (fun h2 => ?_)
    · skip
      have hk' : k < a.length := by simp only [decide_eq_true_eq] at h2; omega
      have hra := stb_map ha fun _ h => h.r k hk'
      have hrb := stb_map hb fun _ h => h.r k (by omega)
      refine cw_skip (post_then (cw_seq (cw_block (cw_seq ?_))))
      refine cw_region_q mixed_Tryz (by kernel_rfl) ?_
      refine qr rfl rfl rfl ((q_move rfl rfl)) (qr rfl rfl rfl ((q_move rfl rfl)) ?_)
      refine qr rfl rfl rfl ((q_indexN rfl rfl rfl (by exact fun w hw => Stb.cl (by assumption) hw) (by intro hc; omega))) ?_
      refine qr rfl rfl rfl ((q_loadEl rfl rfl rfl (by exact fun w hw => Stb.cl (by assumption) hw) (by intro hc; omega))) ?_
      refine qr rfl rfl rfl ((q_move rfl rfl)) (qr rfl rfl rfl ((q_move rfl rfl)) ?_)
      refine qr rfl rfl rfl ((q_indexN rfl rfl rfl (by exact fun w hw => Stb.cl (by assumption) hw) (by intro hc; omega))) ?_
      refine qr rfl rfl rfl ((q_loadEl rfl rfl rfl (by exact fun w hw => Stb.cl (by assumption) hw) (by intro hc; omega))) ?_
      refine qw_step rfl rfl rfl (q_call (CanCall.mk Tryz.call23) rfl (.cons rfl inferInstance (.cons rfl inferInstance (.nil))) (fun _ w hw => callq hw (same_spec _ _ (nth a k) (nth b k) w (stb_arg hw hra) (stb_arg hw hrb)))) (qr rfl rfl rfl ((q_not rfl rfl)) (qw_end (post_then ?_)))
      refine cw_cond rfl (fun h3 => ?_) (fun h3 => ?_)
      · skip
        refine cw_seq (cw_region (sr rfl rfl rfl ((q_assign rfl rfl)) (sw_nil (post_then (cw_ret (post_blk_r (post_then_r (post_then_r (post_blk_r (post_then_r (post_ret1 rfl (resOk_tmp rfl) ?_)))))))))))
        exact fun w' hw => ⟨by rw [ne_at hk' (by simpa using h3)], hw⟩
      · skip
        refine cw_skip (post_blk (post_then (cw_region (sr rfl rfl rfl ((q_move rfl rfl)) ?_))))
        refine sr rfl rfl rfl ((q_add rfl rfl rfl (by intro hc; omega))) ?_
        refine sr rfl rfl rfl ((q_assign rfl rfl)) (sw_nil ?_)
        refine post_next (k + 1) (by exact .cons rfl (.cons rfl (.cons rfl .nil))) (fun _ h => h) ⟨by omega, fun j hj => ?_⟩ (by omega)
        by_cases e : j = k
        · subst e; simpa using h3
        · exact he j (by omega)
    · skip
      have hk' : k = a.length := by simp only [decide_eq_false_iff_not] at h2; omega
      subst hk'
      refine cw_exit (post_then_x (post_then_x (post_blk_eq (post_then (cw_seq (cw_region (sr rfl rfl rfl ((q_assign rfl rfl)) (sw_nil (post_then (cw_ret (post_ret1 rfl (resOk_tmp rfl) ?_)))))))))))
      exact fun w' hw => ⟨by rw [eq_all hl he], hw⟩
theorem refSets_spec (n : Int) (hn : 0 ≤ n ∧ n ≤ 1000) (sv : SlV) (vs : List SlV) (ls : List (List Int)) (w : World) (hm : Stb w [] (fun w' => Mt w' sv.v vs ls)) : Calls Tryz.prog 79 #[.int .i64 n, sv.v] w fun e w' => e = .returned (.bool (ls.all (setB n))) ∧ Cl w [] [] w' := by
  have h1 := stb_map hm fun _ h => h.l
  have hL := rd_len h1.here
  have n1 := hm.here.n
  refine calls_cw (vs := [_, _]) Tryz.func79 rfl Tryz.ntmps79 rfl (Cl.start0 w) (cw_seq (cw_region (sr rfl rfl rfl ((q_assign rfl rfl)) (sw_nil (post_then (cw_seq (cw_seq (cw_region (sr rfl rfl rfl ((q_assign rfl rfl)) (sw_nil (post_then (cw_block ?_))))))))))))
  refine cw_loop (S := Nat) (fun k => [(0, [], .int .i64 n), (1, [], sv.v), (5, [], .int .i64 k)]) (fun _ => Cl w [] []) (fun k => k ≤ ls.length ∧ ∀ j, j < k → setB n (nth ls j) = true) (fun k => ls.length - k) 0 ⟨Nat.zero_le _, fun j hj => by omega⟩ (by exact .cons rfl (.cons rfl (.cons rfl .nil))) (fun _ h => h) ?_
  rintro k ⟨hk, he⟩
  refine cw_seq (cw_seq (cw_region (sr rfl rfl rfl ((q_move rfl rfl)) (sr rfl rfl rfl ((q_move rfl rfl)) ?_))))
  refine sr rfl rfl rfl ((q_len rfl (.cons rfl inferInstance (.nil)) (by exact fun w hw => Stb.cl (by assumption) hw))) ?_
  refine sr rfl rfl rfl ((q_lss rfl rfl rfl)) (sw_nil (post_then ?_))
  refine cw_cond rfl (fun h => ?_) (fun h => ?_)
  · skip
    have hk' : k < ls.length := by simp only [decide_eq_true_eq] at h; omega
    have hr := stb_map hm fun _ h => h.r k hk'
    have hrl := rd_len hr.here
    refine cw_skip (post_then (cw_seq (cw_block (cw_seq (cw_region (sr rfl rfl rfl ((q_assign rfl rfl)) (sw_nil (post_then (cw_block ?_)))))))))
    refine cw_loop (S := Nat) (fun j => [(0, [], .int .i64 n), (1, [], sv.v), (5, [], .int .i64 k), (6, [], .int .i64 j)]) (fun _ => Cl w [] []) (fun j => j ≤ (nth ls k).length ∧ ∀ i, i < j → inB (nth (nth ls k) i) 0 (n - 1) = true) (fun j => (nth ls k).length - j) 0 ⟨Nat.zero_le _, fun j hj => by omega⟩ (by exact .cons rfl (.cons rfl (.cons rfl (.cons rfl .nil)))) (fun _ h => h) ?_
    rintro j ⟨hj, hi⟩
    refine cw_seq (cw_seq (cw_region (sr rfl rfl rfl ((q_move rfl rfl)) (sr rfl rfl rfl ((q_move rfl rfl)) (sr rfl rfl rfl ((q_move rfl rfl)) ?_)))))
    refine sr rfl rfl rfl ((q_indexN rfl rfl rfl (by exact fun w hw => Stb.cl (by assumption) hw) (by intro hc; omega))) ?_
    refine sr rfl rfl rfl ((q_loadEl rfl rfl rfl (by exact fun w hw => Stb.cl (by assumption) hw) (by intro hc; omega))) ?_
    refine sr rfl rfl rfl ((q_len rfl (.cons rfl inferInstance (.nil)) (by exact fun w hw => Stb.cl (by assumption) hw))) ?_
    refine sr rfl rfl rfl ((q_lss rfl rfl rfl)) (sw_nil (post_then ?_))
    refine cw_cond rfl (fun h2 => ?_) (fun h2 => ?_)
    · skip
      have hj' : j < (nth ls k).length := by simp only [decide_eq_true_eq] at h2; omega
      refine cw_skip (post_then (cw_seq (cw_block (cw_seq (cw_region (sr rfl rfl rfl ((q_move rfl rfl)) (sr rfl rfl rfl ((q_move rfl rfl)) ?_)))))))
      refine sr rfl rfl rfl ((q_indexN rfl rfl rfl (by exact fun w hw => Stb.cl (by assumption) hw) (by intro hc; omega))) ?_
      refine sr rfl rfl rfl ((q_loadEl rfl rfl rfl (by exact fun w hw => Stb.cl (by assumption) hw) (by intro hc; omega))) ?_
      refine sr rfl rfl rfl ((q_move rfl rfl)) ?_
      refine sr rfl rfl rfl ((q_indexN rfl rfl rfl (by exact fun w hw => Stb.cl (by assumption) hw) (by intro hc; omega))) ?_
      refine sr rfl rfl rfl ((q_loadEl rfl rfl rfl (by exact fun w hw => Stb.cl (by assumption) hw) (by intro hc; omega))) ?_
      refine sr rfl rfl rfl ((q_move rfl rfl)) ?_
      refine sr rfl rfl rfl ((q_sub rfl rfl rfl (by intro hc; omega))) ?_
      refine sw_step rfl rfl rfl (q_call (CanCall.mk Tryz.call84) rfl (.cons rfl inferInstance (.cons rfl inferInstance (.cons rfl inferInstance (.nil)))) (fun _ w hw => callq hw (refIn_spec _ _ _ w))) (sr rfl rfl rfl ((q_not rfl rfl)) (sw_nil (post_then ?_)))
      refine cw_cond rfl (fun h3 => ?_) (fun h3 => ?_)
      · skip
        have h4 : ls.all (setB n) = false := List.all_eq_false.2 ⟨nth ls k, nth_mem hk', by
          have : setB n (nth ls k) = false := List.all_eq_false.2 ⟨nth (nth ls k) j, nth_mem hj', by simpa using h3⟩
          simp [this]⟩
        refine cw_seq (cw_region (sr rfl rfl rfl ((q_assign rfl rfl)) (sw_nil (post_then (cw_ret (post_blk_r (post_then_r (post_then_r (post_blk_r (post_blk_r (post_then_r (post_then_r (post_blk_r (post_then_r (post_ret1 rfl (resOk_tmp rfl) ?_)))))))))))))))
        exact fun w' hw => ⟨by rw [h4], hw⟩
      · skip
        refine cw_skip (post_blk (post_then (cw_region (sr rfl rfl rfl ((q_move rfl rfl)) ?_))))
        refine sr rfl rfl rfl ((q_add rfl rfl rfl (by intro hc; omega))) ?_
        refine sr rfl rfl rfl ((q_assign rfl rfl)) (sw_nil ?_)
        refine post_next (j + 1) (by exact .cons rfl (.cons rfl (.cons rfl (.cons rfl .nil)))) (fun _ h => h) ⟨by omega, fun i h5 => ?_⟩ (by omega)
        by_cases e : i = j
        · subst e; simpa using h3
        · exact hi i (by omega)
    · skip
      have hj' : j = (nth ls k).length := by simp only [decide_eq_false_iff_not] at h2; omega
      subst hj'
      refine cw_exit (post_then_x (post_then_x (post_blk_eq (post_blk (post_then (cw_region (sr rfl rfl rfl ((q_move rfl rfl)) ?_)))))))
      refine sr rfl rfl rfl ((q_add rfl rfl rfl (by intro hc; omega))) ?_
      refine sr rfl rfl rfl ((q_assign rfl rfl)) (sw_nil ?_)
      refine post_next (k + 1) (by exact .cons rfl (.cons rfl (.cons rfl .nil))) (fun _ h => h) ⟨by omega, fun i h5 => ?_⟩ (by omega)
      by_cases e : i = k
      · subst e
        refine List.all_eq_true.2 fun x hx => ?_
        obtain ⟨q, hq, rfl⟩ := List.getElem_of_mem hx
        have := hi q hq
        rwa [nth_get hq] at this
      · exact he i (by omega)
  · skip
    have hk' : k = ls.length := by simp only [decide_eq_false_iff_not] at h; omega
    subst hk'
    have h4 : ls.all (setB n) = true := List.all_eq_true.2 fun x hx => by
      obtain ⟨q, hq, rfl⟩ := List.getElem_of_mem hx
      have := he q hq
      rwa [nth_get hq] at this
    refine cw_exit (post_then_x (post_then_x (post_blk_eq (post_then (cw_seq (cw_region (sr rfl rfl rfl ((q_assign rfl rfl)) (sw_nil (post_then (cw_ret (post_ret1 rfl (resOk_tmp rfl) ?_)))))))))))
    exact fun w' hw => ⟨by rw [h4], hw⟩
theorem fresh_spec (sc sv : Value) (n g : Nat) (hn : n ≤ 30) (s : List Int) (hs : setB n s = true) (w : World) (hc : Stb w [] (RdL sc (cvL n g))) (hr : Stb w [] (RdL sv s)) : Calls Tryz.prog 80 #[sc, sv] w fun e w' => e = .returned (.int .i64 (fr g (mask s))) ∧ Cl w [] [] w' := by
  have hL := rd_len hr.here
  have hsb := (mask_bits hs).2
  have hcl := cvL_len n g
  refine calls_cw (vs := [_, _]) Tryz.func80 rfl Tryz.ntmps80 rfl (Cl.start0 w) (cw_c (C' := Cl w [] [ownL 4 (SlV.v ⟨none, 0, 0⟩) ([] : List Bool)]) (fun w' hw => hw.addNil (α := Bool) 4) (cw_seq (cw_region (sr rfl rfl rfl ((q_assign rfl rfl)) (sw_nil (post_then (cw_seq (cw_region (sr rfl rfl rfl ((q_move rfl rfl)) ?_)))))))))
  refine sw_x rfl rfl rfl (e_append (i := 0) rfl (.cons rfl inferInstance (.cons rfl inferInstance (.nil))) rfl rfl (by exact fun w hw => Stb.cl (by assumption) hw) (by simp only [List.length_set, List.length_append, List.length_cons, List.length_nil, List.length_replicate, List.length_take, List.length_drop, List.length_map]; omega) rfl) (fun s9 => ?_)
  refine sr rfl rfl rfl ((q_assign rfl rfl)) (sw_nil (post_then (cw_seq (cw_region (sr rfl rfl rfl ((q_assign rfl rfl)) (sw_nil (post_then (cw_seq (cw_seq (cw_region (sr rfl rfl rfl ((q_assign rfl rfl)) (sw_nil (post_then (cw_block ?_))))))))))))))
  refine cw_loop (S := Nat) (fun k => [(1, [], sv), (5, [], s9.v), (6, [], .int .i64 (fr g (maskTo s k))), (7, [], .int .i64 k)]) (fun k => Cl w [] [ownL 4 s9.v (cvL n (g ||| maskTo s k))]) (fun k => k ≤ s.length) (fun k => s.length - k) 0 (Nat.zero_le _) ?_ ?_ ?_
  · have e0 : fr g (maskTo s 0) = 0 := by rw [fr_zero]; intro i _ h; simp [maskTo] at h
    rw [e0]
    exact (by exact .cons rfl (.cons rfl (.cons rfl (.cons rfl .nil))))
  · intro w' hw
    have e0 : g ||| maskTo s 0 = g := by simp [maskTo]
    rw [e0]
    exact hw
  intro k hk
  have hfl := fr_le g (maskTo s k)
  refine cw_seq (cw_seq (cw_region (sr rfl rfl rfl ((q_move rfl rfl)) (sr rfl rfl rfl ((q_move rfl rfl)) ?_))))
  refine sr rfl rfl rfl ((q_len rfl (.cons rfl inferInstance (.nil)) (by exact fun w hw => Stb.cl (by assumption) hw))) ?_
  refine sr rfl rfl rfl ((q_lss rfl rfl rfl)) (sw_nil (post_then ?_))
  refine cw_cond rfl (fun h => ?_) (fun h => ?_)
  · skip
    have hk' : k < s.length := by simp only [decide_eq_true_eq] at h; omega
    have hel := hsb _ (nth_mem hk')
    have hcl2 := cvL_len n (g ||| maskTo s k)
    have hput := fr_put (g := g) (m := maskTo s k) (x := (nth s k).toNat) (by omega)
    refine cw_skip (post_then (cw_seq (cw_block (cw_seq (cw_region (sr rfl rfl rfl ((q_move rfl rfl)) (sr rfl rfl rfl ((q_move rfl rfl)) (sr rfl rfl rfl ((q_move rfl rfl)) ?_))))))))
    refine sr rfl rfl rfl ((q_indexN rfl rfl rfl (by exact fun w hw => Stb.cl (by assumption) hw) (by intro hc; omega))) ?_
    refine sr rfl rfl rfl ((q_loadEl rfl rfl rfl (by exact fun w hw => Stb.cl (by assumption) hw) (by intro hc; omega))) ?_
    refine sr rfl rfl rfl ((q_index rfl rfl rfl (by exact fun w hw => rd_own hw (by exact .head _)) (by intro hc; omega))) ?_
    refine sr rfl rfl rfl ((q_loadEl rfl rfl rfl (by exact fun w hw => rd_own hw (by exact .head _)) (by intro hc; omega))) ?_
    refine sr rfl rfl rfl ((q_not rfl rfl)) (sw_nil (post_then ?_))
    refine cw_cut (S := Unit) (fun _ => [(1, [], sv), (5, [], s9.v), (6, [], .int .i64 (fr g (maskTo s (k + 1)))), (7, [], .int .i64 k)]) (fun _ => Cl w [] [ownL 4 s9.v (cvL n (g ||| maskTo s (k + 1)))]) (fun _ => True) ?_ ?_
    · have hb := cvL_nth (n := n) (i := (nth s k).toNat) (by omega) (g ||| maskTo s k)
      rw [hb]
      have ea : g ||| maskTo s (k + 1) = g ||| maskTo s k ||| 2 ^ (nth s k).toNat := by rw [maskTo, Nat.or_assoc]
      refine cw_cond rfl (fun h2 => ?_) (fun h2 => ?_)
      · skip
        have h3 : (g ||| maskTo s k).testBit (nth s k).toNat = false := by rw [Bool.not_eq_true'] at h2; exact h2
        have e5 : ((fr g (maskTo s (k + 1)) : Nat) : Int) = (fr g (maskTo s k) : Int) + 1 := by rw [maskTo, hput, if_neg (by rw [h3]; decide)]; omega
        refine cw_seq (cw_region (sr rfl rfl rfl ((q_move rfl rfl)) (sr rfl rfl rfl ((q_move rfl rfl)) (sr rfl rfl rfl ((q_move rfl rfl)) ?_))))
        refine sr rfl rfl rfl ((q_indexN rfl rfl rfl (by exact fun w hw => Stb.cl (by assumption) hw) (by intro hc; omega))) ?_
        refine sr rfl rfl rfl ((q_loadEl rfl rfl rfl (by exact fun w hw => Stb.cl (by assumption) hw) (by intro hc; omega))) ?_
        refine sr rfl rfl rfl ((q_index rfl rfl rfl (by exact fun w hw => rd_own hw (by exact .head _)) (by intro hc; omega))) ?_
        refine sw_eff0 rfl rfl (e_storeEl1 (i := 0) rfl rfl rfl rfl rfl (by omega)) ?_
        refine sw_nil (post_then (cw_region (sr rfl rfl rfl ((q_move rfl rfl)) ?_)))
        refine sr rfl rfl rfl ((q_add rfl rfl rfl (by intro hc; omega))) ?_
        refine sr rfl rfl rfl ((q_assign rfl rfl)) (sw_nil ?_)
        refine post_meet () ?_ (fun w3 hw3 => ?_) trivial
        · rw [e5]
          exact (by exact .cons rfl (.cons rfl (.cons rfl (.cons rfl .nil))))
        · rw [ea, ← cvL_set (by omega)]
          exact hw3
      · skip
        have h3 : (g ||| maskTo s k).testBit (nth s k).toNat = true := by rw [Bool.not_eq_false'] at h2; exact h2
        have e5 : fr g (maskTo s (k + 1)) = fr g (maskTo s k) := by rw [maskTo, hput, if_pos h3, Nat.add_zero]
        refine cw_skip ?_
        refine post_meet () ?_ (fun w3 hw3 => ?_) trivial
        · rw [e5]
          exact (by exact .cons rfl (.cons rfl (.cons rfl (.cons rfl .nil))))
        · rw [ea, cvL_same h3]
          exact hw3
    · intro _ _
      refine post_blk (post_then (cw_region (sr rfl rfl rfl ((q_move rfl rfl)) ?_)))
      refine sr rfl rfl rfl ((q_add rfl rfl rfl (by intro hc; omega))) ?_
      refine sr rfl rfl rfl ((q_assign rfl rfl)) (sw_nil ?_)
      exact post_next (k + 1) (by exact .cons rfl (.cons rfl (.cons rfl (.cons rfl .nil)))) (fun _ h => h) (by omega) (by omega)
  · skip
    have hk' : k = s.length := by simp only [decide_eq_false_iff_not] at h; omega
    subst hk'
    refine cw_exit (post_then_x (post_then_x (post_blk_eq (post_then (cw_seq (cw_region (sr rfl rfl rfl ((q_move rfl rfl)) (sr rfl rfl rfl ((q_assign rfl rfl)) (sw_nil (post_then (cw_ret (post_ret1 rfl (resOk_tmp rfl) ?_))))))))))))
    exact fun w' hw => ⟨rfl, (fun w h => Cl.sel (by exact .nil _) w h) _ hw⟩
end Go.Proofs.YtomjbfeafodfbaaGreat

set_option autoImplicit false
set_option maxRecDepth 100000
namespace Go.Proofs.YtomjbfeafodfbaaGreat
open Go.Sx
open Enc (enc val)
structure RG where
  k : Nat
  so : SlV
structure RX where
  j : Nat
  pr : List Int
theorem msOf_ok {n : Nat} {ls : List (List Int)} (hs : ∀ s ∈ ls, setB n s = true) : MsOk n (msOf ls) := fun m hm => by
  obtain ⟨s, h1, rfl⟩ := List.mem_map.1 hm
  exact (mask_bits (h1 |> hs s)).1
theorem msOf_nth {ls : List (List Int)} {i : Nat} (h : i < ls.length) : nth (msOf ls) i = mask (nth ls i) := by
  rw [nth_get (by simpa [msOf] using h), nth_get h]; simp [msOf]
structure GEnd (n : Nat) (ms : List Nat) (k : Nat) : Prop where
  ok : GOk n ms k
  full : fr (giter n ms k).g (fullN n) = 0
def priceL (sh : List Int) : List Int := sh.map fun k => 27720 / k
theorem priceL_nth {sh : List Int} {j : Nat} (h : j < sh.length) : nth (priceL sh) j = 27720 / nth sh j := by
  rw [nth_get (by simpa [priceL] using h), nth_get h]; simp [priceL]
theorem refGreedy_no (n : Nat) (hn : n ≤ 30) (sv : SlV) (vs : List SlV) (ls : List (List Int)) (h8 : ls.length ≤ 8) (hs : ∀ s ∈ ls, setB n s = true) (w : World) (hm : Stb w [] (fun w' => Mt w' sv.v vs ls)) (hP : possN n (msOf ls) = false) :
    Calls Tryz.prog 37 #[.int .i64 n, sv.v] w fun e w' => e = .returned (.tuple #[.slice none 0 0, .slice none 0 0, .bool false]) ∧ Cl w [] [] w' := by
  have h1 := stb_map hm fun _ h => h.l
  have n1 := hm.here.n
  have hmo := msOf_ok hs
  have hml : (msOf ls).length = ls.length := by simp [msOf]
  refine calls_cw (vs := [_, _]) Tryz.func37 rfl Tryz.ntmps37 rfl (Cl.start0 w) (cw_seq (cw_region (sr rfl rfl rfl ((q_assign rfl rfl)) (sr rfl rfl rfl ((q_assign rfl rfl)) (sr rfl rfl rfl ((q_assign rfl rfl)) (sw_nil (post_then (cw_seq (cw_region (sr rfl rfl rfl ((q_move rfl rfl)) ?_))))))))))
  refine sw_x rfl rfl rfl (e_make (α := Bool) (zero := false) rfl rfl rfl rfl rfl (by omega) (by omega) (by decide)) (fun s18 => ?_)
  refine sr rfl rfl rfl ((q_assign rfl rfl)) (sw_nil (post_then (cw_seq (cw_region (sr rfl rfl rfl ((q_move rfl rfl)) ?_)))))
  refine sw_x rfl rfl rfl (e_make (α := Int) (zero := 0) rfl rfl rfl rfl rfl (by omega) (by omega) (by decide)) (fun s20 => ?_)
  rw [Int.toNat_natCast, cvL_zero]
  refine sr rfl rfl rfl ((q_assign rfl rfl)) (sw_nil (post_then (cw_seq (cw_region (sr rfl rfl rfl ((q_assign rfl rfl)) (sw_nil (post_then (cw_seq (cw_region (sr rfl rfl rfl ((q_move rfl rfl)) (sr rfl rfl rfl ((q_assign rfl rfl)) (sw_nil (post_then (cw_seq (cw_block (cw_c (C' := Cl w [] [ownL 3 (SlV.v ⟨none, 0, 0⟩) ([] : List Int), ownL 4 s18.v (cvL n 0), ownL 3 s20.v (List.replicate n (0 : Int))]) (fun w' hw => (hw.perm (.swap _ _ _)).addNil (α := Int) 3) ?_))))))))))))))))
  refine cw_loop (S := RG) (fun y => [(1, [], sv.v), (7, [], s18.v), (8, [], s20.v), (9, [], y.so.v), (10, [], .int .i64 (fr (giter n (msOf ls) y.k).g (fullN n)))]) (fun y => Cl w [] [ownL 3 y.so.v (giter n (msOf ls) y.k).out, ownL 4 s18.v (cvL n (giter n (msOf ls) y.k).g), ownL 3 s20.v (priceL (giter n (msOf ls) y.k).sh)]) (fun y => GOk n (msOf ls) y.k) (fun y => fr (giter n (msOf ls) y.k).g (fullN n)) ⟨0, ⟨none, 0, 0⟩⟩ (fun j hj => by simp only at hj; omega) ?_ ?_ ?_
  · have e0 : fr (giter n (msOf ls) 0).g (fullN n) = n := fr_full (by omega)
    simp only [e0]
    exact (by exact .cons rfl (.cons rfl (.cons rfl (.cons rfl (.cons rfl .nil)))))
  · intro w' hw
    have e0 : priceL (giter n (msOf ls) 0).sh = List.replicate n 0 := by simp [priceL, giter]
    rw [e0]
    exact hw
  rintro ⟨k, so⟩ hG
  dsimp only at hG ⊢
  have hgf := fr_le (giter n (msOf ls) k).g (fullN n)
  have hsh := giter_sh n (msOf ls) k
  have hol := giter_out n (msOf ls) k
  have hkn := giter_bd (by omega) hmo hG
  generalize hst : giter n (msOf ls) k = st at *
  obtain ⟨g, out, sh⟩ := st
  dsimp only at hgf hsh hol ⊢
  have hcl := cvL_len n g
  have hprl : (priceL sh).length = n := by simpa [priceL] using hsh
  refine cw_seq (cw_seq (cw_region (sr rfl rfl rfl ((q_move rfl rfl)) (sr rfl rfl rfl ((q_gtr rfl rfl rfl)) (sw_nil (post_then ?_))))))
  refine cw_cond rfl (fun h => ?_) (fun h => ?_)
  · skip
    have h0 : fr g (fullN n) ≠ 0 := by simp only [decide_eq_true_eq] at h; omega
    refine cw_skip (post_then (cw_block (cw_seq (cw_region (sr rfl rfl rfl ((q_assign rfl rfl)) (sr rfl rfl rfl ((q_assign rfl rfl)) (sw_nil (post_then (cw_seq (cw_seq (cw_region (sr rfl rfl rfl ((q_assign rfl rfl)) (sw_nil (post_then (cw_block ?_)))))))))))))))
    refine cw_loop (S := Nat) (fun j => [(1, [], sv.v), (7, [], s18.v), (8, [], s20.v), (9, [], so.v), (10, [], .int .i64 (fr g (fullN n))), (11, [], .int .i64 (bestTo (msOf ls) g j).1), (12, [], .int .i64 (bestTo (msOf ls) g j).2), (13, [], .int .i64 j)]) (fun _ => Cl w [] [ownL 3 so.v out, ownL 4 s18.v (cvL n g), ownL 3 s20.v (priceL sh)]) (fun j => j ≤ ls.length) (fun j => ls.length - j) 0 (Nat.zero_le _) (by exact .cons rfl (.cons rfl (.cons rfl (.cons rfl (.cons rfl (.cons rfl (.cons rfl (.cons rfl .nil)))))))) (fun _ h => h) ?_
    intro j hj
    refine cw_seq (cw_seq (cw_region (sr rfl rfl rfl ((q_move rfl rfl)) (sr rfl rfl rfl ((q_move rfl rfl)) ?_))))
    refine sr rfl rfl rfl ((q_len rfl (.cons rfl inferInstance (.nil)) (by exact fun w hw => Stb.cl (by assumption) hw))) ?_
    refine sr rfl rfl rfl ((q_lss rfl rfl rfl)) (sw_nil (post_then ?_))
    refine cw_cond rfl (fun h2 => ?_) (fun h2 => ?_)
    · skip
      have hj' : j < ls.length := by simp only [decide_eq_true_eq] at h2; omega
      have hrow := stb_map hm fun _ h => h.r j hj'
      have hsb := hs _ (nth_mem hj')
      have ems := msOf_nth hj'
      refine cw_skip (post_then (cw_seq (cw_block (cw_seq (cw_region (sr rfl rfl rfl ((q_move rfl rfl)) (sr rfl rfl rfl ((q_move rfl rfl)) (sr rfl rfl rfl ((q_move rfl rfl)) ?_))))))))
      refine sr rfl rfl rfl ((q_indexN rfl rfl rfl (by exact fun w hw => Stb.cl (by assumption) hw) (by intro hc; omega))) ?_
      refine sr rfl rfl rfl ((q_loadEl rfl rfl rfl (by exact fun w hw => Stb.cl (by assumption) hw) (by intro hc; omega))) ?_
      refine sw_step rfl rfl rfl (q_call (CanCall.mk Tryz.call80) rfl (.cons rfl inferInstance (.cons rfl inferInstance (.nil))) (fun _ w hw => callq hw (fresh_spec _ _ n g hn (nth ls j) hsb w (by exact stb_own hw (by exact .tail _ (.head _))) (stb_arg hw hrow)))) ?_
      refine sr rfl rfl rfl ((q_assign rfl rfl)) (sw_nil (post_then (cw_seq (cw_region (sr rfl rfl rfl ((q_move rfl rfl)) (sr rfl rfl rfl ((q_move rfl rfl)) (sr rfl rfl rfl ((q_gtr rfl rfl rfl)) (sw_nil (post_then ?_)))))))))
      refine cw_cut (S := Unit) (fun _ => [(1, [], sv.v), (7, [], s18.v), (8, [], s20.v), (9, [], so.v), (10, [], .int .i64 (fr g (fullN n))), (11, [], .int .i64 (bestTo (msOf ls) g (j + 1)).1), (12, [], .int .i64 (bestTo (msOf ls) g (j + 1)).2), (13, [], .int .i64 j)]) (fun _ => Cl w [] [ownL 3 so.v out, ownL 4 s18.v (cvL n g), ownL 3 s20.v (priceL sh)]) (fun _ => True) ?_ ?_
      · refine cw_cond rfl (fun h3 => ?_) (fun h3 => ?_)
        · skip
          have h4 : bestTo (msOf ls) g (j + 1) = ((j : Int), fr g (mask (nth ls j))) := by
            rw [bestTo, ems, if_pos (by simp only [decide_eq_true_eq] at h3; omega)]
          refine cw_region (sr rfl rfl rfl ((q_move rfl rfl)) (sr rfl rfl rfl ((q_move rfl rfl)) (sr rfl rfl rfl ((q_assign rfl rfl)) (sr rfl rfl rfl ((q_assign rfl rfl)) (sw_nil ?_)))))
          refine post_meet () ?_ (fun _ h => h) trivial
          rw [h4]
          exact (by exact .cons rfl (.cons rfl (.cons rfl (.cons rfl (.cons rfl (.cons rfl (.cons rfl (.cons rfl .nil))))))))
        · skip
          have h4 : bestTo (msOf ls) g (j + 1) = bestTo (msOf ls) g j := by
            rw [bestTo, ems, if_neg (by simp only [decide_eq_false_iff_not] at h3; omega)]
          refine cw_skip ?_
          refine post_meet () ?_ (fun _ h => h) trivial
          rw [h4]
          exact (by exact .cons rfl (.cons rfl (.cons rfl (.cons rfl (.cons rfl (.cons rfl (.cons rfl (.cons rfl .nil))))))))
      · intro _ _
        refine post_blk (post_then (cw_region (sr rfl rfl rfl ((q_move rfl rfl)) ?_)))
        refine sr rfl rfl rfl ((q_add rfl rfl rfl (by intro hc; omega))) ?_
        refine sr rfl rfl rfl ((q_assign rfl rfl)) (sw_nil ?_)
        exact post_next (j + 1) (by exact .cons rfl (.cons rfl (.cons rfl (.cons rfl (.cons rfl (.cons rfl (.cons rfl (.cons rfl .nil)))))))) (fun _ h => h) (by omega) (by omega)
    · skip
      have hj' : j = ls.length := by simp only [decide_eq_false_iff_not] at h2; omega
      subst hj'
      have hbest := bestTo_spec (msOf ls) g (msOf ls).length
      rw [hml] at hbest
      refine cw_exit (post_then_x (post_then_x (post_blk_eq (post_then (cw_seq (cw_seq (cw_region (sr rfl rfl rfl ((q_move rfl rfl)) (sr rfl rfl rfl ((q_lss rfl rfl rfl)) (sw_nil (post_then ?_)))))))))))
      refine cw_cond rfl (fun h3 => ?_) (fun h3 => ?_)
      · skip
        simp only [decide_eq_true_eq] at h3
        have hno : bestTo (msOf ls) g ls.length = (-1, 0) ∧ ∀ j, j < ls.length → fr g (nth (msOf ls) j) = 0 := by
          rcases hbest with hb | ⟨i, _, hb, _⟩
          · exact hb
          · rw [hb] at h3; simp only at h3; omega
        have hPf : possN n (msOf ls) = false := by
          cases hp : possN n (msOf ls)
          · rfl
          · obtain ⟨i, i1, i2, i3⟩ := best_pos (by omega) hp h0
            rw [best, hml, hno.1] at i2
            simp only [Prod.mk.injEq] at i2
            omega
        refine cw_seq (cw_region (sr rfl rfl rfl ((q_assign rfl rfl)) (sr rfl rfl rfl ((q_assign rfl rfl)) (sr rfl rfl rfl ((q_assign rfl rfl)) (sw_nil (post_then (cw_ret (post_then_r (post_blk_r (post_then_r (post_blk_r (post_then_r (post_ret3 rfl (resOk_tmp rfl) (resOk_tmp rfl) (resOk_tmp rfl) ?_)))))))))))))
        exact fun w' hw => ⟨rfl, (fun w h => Cl.sel (by exact .nil _) w h) _ hw⟩
      · skip
        simp only [decide_eq_false_iff_not] at h3
        obtain ⟨i, hi, hb, hpos⟩ : ∃ i, i < ls.length ∧ bestTo (msOf ls) g ls.length = ((i : Int), fr g (nth (msOf ls) i)) ∧ 0 < fr g (nth (msOf ls) i) := by
          rcases hbest with hb | ⟨i, b1, b2, b3, _⟩
          · rw [hb.1] at h3; simp at h3
          · exact ⟨i, b1, b2, b3⟩
        rw [hb]
        dsimp only
        have ems := msOf_nth hi
        have hfa := fr_after (g := g) (n := n) (hmo _ (nth_mem (i := i) (by omega)))
        have hrow := stb_map hm fun _ h => h.r i hi
        have hrl := rd_len hrow.here
        have hsb := mask_bits (hs _ (nth_mem hi))
        rw [ems] at hpos hfa ⊢
        have hf1 := fr_le g (mask (nth ls i))
        refine cw_skip (post_then (cw_seq (cw_region (sr rfl rfl rfl ((q_move rfl rfl)) (sr rfl rfl rfl ((q_move rfl rfl)) ?_)))))
        refine sw_x rfl rfl rfl (e_build1 (α := Int) rfl rfl rfl rfl) (fun s45 => ?_)
        refine sw_x rfl rfl rfl (e_append (i := 1) rfl (.cons rfl inferInstance (.cons rfl inferInstance (.nil))) rfl rfl (by exact fun w hw => rd_own hw (by exact .head _)) (by simp only [List.length_set, List.length_append, List.length_cons, List.length_nil, List.length_replicate, List.length_take, List.length_drop, List.length_map]; omega) rfl) (fun s46 => ?_)
        refine sr rfl rfl rfl ((q_assign rfl rfl)) (sw_nil (post_then (cw_seq (cw_region (sr rfl rfl rfl ((q_move rfl rfl)) (sr rfl rfl rfl ((q_move rfl rfl)) ?_))))))
        refine sr rfl rfl rfl ((q_sub rfl rfl rfl (by intro hc; omega))) ?_
        refine sr rfl rfl rfl ((q_assign rfl rfl)) (sw_nil (post_then (cw_seq (cw_region (sr rfl rfl rfl ((q_assign rfl rfl)) (sw_nil (post_then (cw_block ?_))))))))
        refine cw_loop (S := RX) (fun y => [(1, [], sv.v), (7, [], s18.v), (8, [], s20.v), (9, [], s46.v), (10, [], .int .i64 (fr (g ||| mask (nth ls i)) (fullN n))), (11, [], .int .i64 i), (12, [], .int .i64 (fr g (mask (nth ls i)))), (15, [], .int .i64 y.j)]) (fun y => Cl w [] [ownL 3 s46.v (out ++ [(i : Int)]), ownL 4 s18.v (cvL n (g ||| maskTo (nth ls i) y.j)), ownL 3 s20.v y.pr]) (fun y => y.j ≤ (nth ls i).length ∧ y.pr.length = n ∧ ∀ x, x < n → nth y.pr x = if (maskTo (nth ls i) y.j).testBit x = true ∧ g.testBit x = false then 27720 / (fr g (mask (nth ls i)) : Int) else nth (priceL sh) x) (fun y => (nth ls i).length - y.j) ⟨0, priceL sh⟩ ⟨Nat.zero_le _, hprl, fun x hx => by simp [maskTo]⟩ ?_ ?_ ?_
        · exact Le.cons rfl (Le.cons rfl (Le.cons rfl (Le.cons rfl (Le.cons' rfl (by rw [← hfa]; congr 1; omega) (Le.cons rfl (Le.cons rfl (Le.cons rfl Le.nil)))))))
        · intro w' hw
          have e0 : g ||| maskTo (nth ls i) 0 = g := by simp [maskTo]
          rw [e0]
          exact (fun w h => Cl.sel (by exact .take 1 rfl (.take 1 rfl (.take 1 rfl (.nil _)))) w h) _ hw
        rintro ⟨q, pr⟩ ⟨hq, hpl, hpv⟩
        dsimp only at hq hpl hpv ⊢
        refine cw_seq (cw_seq (cw_region (sr rfl rfl rfl ((q_move rfl rfl)) (sr rfl rfl rfl ((q_move rfl rfl)) (sr rfl rfl rfl ((q_move rfl rfl)) ?_)))))
        refine sr rfl rfl rfl ((q_indexN rfl rfl rfl (by exact fun w hw => Stb.cl (by assumption) hw) (by intro hc; omega))) ?_
        refine sr rfl rfl rfl ((q_loadEl rfl rfl rfl (by exact fun w hw => Stb.cl (by assumption) hw) (by intro hc; omega))) ?_
        refine sr rfl rfl rfl ((q_len rfl (.cons rfl inferInstance (.nil)) (by exact fun w hw => Stb.cl (by assumption) hw))) ?_
        refine sr rfl rfl rfl ((q_lss rfl rfl rfl)) (sw_nil (post_then ?_))
        refine cw_cond rfl (fun h4 => ?_) (fun h4 => ?_)
        · skip
          have hq' : q < (nth ls i).length := by simp only [decide_eq_true_eq] at h4; omega
          have hel := hsb.2 _ (nth_mem hq')
          have hcl2 := cvL_len n (g ||| maskTo (nth ls i) q)
          refine cw_skip (post_then (cw_seq (cw_block (cw_seq (cw_region (sr rfl rfl rfl ((q_move rfl rfl)) (sr rfl rfl rfl ((q_move rfl rfl)) ?_)))))))
          refine sr rfl rfl rfl ((q_indexN rfl rfl rfl (by exact fun w hw => Stb.cl (by assumption) hw) (by intro hc; omega))) ?_
          refine sr rfl rfl rfl ((q_loadEl rfl rfl rfl (by exact fun w hw => Stb.cl (by assumption) hw) (by intro hc; omega))) ?_
          refine sr rfl rfl rfl ((q_move rfl rfl)) ?_
          refine sr rfl rfl rfl ((q_indexN rfl rfl rfl (by exact fun w hw => Stb.cl (by assumption) hw) (by intro hc; omega))) ?_
          refine sr rfl rfl rfl ((q_loadEl rfl rfl rfl (by exact fun w hw => Stb.cl (by assumption) hw) (by intro hc; omega))) ?_
          refine sr rfl rfl rfl ((q_assign rfl rfl)) (sw_nil (post_then (cw_seq (cw_region (sr rfl rfl rfl ((q_move rfl rfl)) (sr rfl rfl rfl ((q_move rfl rfl)) ?_))))))
          refine sr rfl rfl rfl ((q_index rfl rfl rfl (by exact fun w hw => rd_own hw (by exact .tail _ (.head _))) (by intro hc; omega))) ?_
          refine sr rfl rfl rfl ((q_loadEl rfl rfl rfl (by exact fun w hw => rd_own hw (by exact .tail _ (.head _))) (by intro hc; omega))) ?_
          refine sr rfl rfl rfl ((q_not rfl rfl)) (sw_nil (post_then ?_))
          refine cw_cut (S := List Int) (fun _ => [(1, [], sv.v), (7, [], s18.v), (8, [], s20.v), (9, [], s46.v), (10, [], .int .i64 (fr (g ||| mask (nth ls i)) (fullN n))), (11, [], .int .i64 i), (12, [], .int .i64 (fr g (mask (nth ls i)))), (15, [], .int .i64 q)]) (fun pr => Cl w [] [ownL 3 s46.v (out ++ [(i : Int)]), ownL 4 s18.v (cvL n (g ||| maskTo (nth ls i) (q + 1))), ownL 3 s20.v pr]) (fun pr => pr.length = n ∧ ∀ x, x < n → nth pr x = if (maskTo (nth ls i) (q + 1)).testBit x = true ∧ g.testBit x = false then 27720 / (fr g (mask (nth ls i)) : Int) else nth (priceL sh) x) ?_ ?_
          · have hbit := cvL_nth (n := n) (i := (nth (nth ls i) q).toNat) (by omega) (g ||| maskTo (nth ls i) q)
            rw [hbit]
            have ea : g ||| maskTo (nth ls i) (q + 1) = g ||| maskTo (nth ls i) q ||| 2 ^ (nth (nth ls i) q).toNat := by rw [maskTo, Nat.or_assoc]
            refine cw_cond rfl (fun h5 => ?_) (fun h5 => ?_)
            · skip
              have h6 : (g ||| maskTo (nth ls i) q).testBit (nth (nth ls i) q).toNat = false := by rw [Bool.not_eq_true'] at h5; exact h5
              rw [Nat.testBit_or, Bool.or_eq_false_iff] at h6
              refine cw_seq (cw_region (sr rfl rfl rfl ((q_move rfl rfl)) (sr rfl rfl rfl ((q_move rfl rfl)) ?_)))
              refine sr rfl rfl rfl ((q_index rfl rfl rfl (by exact fun w hw => rd_own hw (by exact .tail _ (.head _))) (by intro hc; omega))) ?_
              refine sw_eff0 rfl rfl (e_storeEl1 (i := 1) rfl rfl rfl rfl rfl (by omega)) ?_
              refine sw_nil (post_then (cw_region (sr rfl rfl rfl ((q_move rfl rfl)) (sr rfl rfl rfl ((q_move rfl rfl)) (sr rfl rfl rfl ((q_move rfl rfl)) ?_)))))
              refine sr rfl rfl rfl ((q_quo rfl rfl rfl (by intro hc; omega))) ?_
              refine sr rfl rfl rfl ((q_index rfl rfl rfl (by exact fun w hw => rd_own hw (by exact .tail _ (.tail _ (.head _)))) (by intro hc; omega))) ?_
              refine sw_eff0 rfl rfl (e_storeEl1 (i := 2) rfl rfl rfl rfl rfl (by omega)) ?_
              refine sw_nil ?_
              refine post_meet (pr.set (nth (nth ls i) q).toNat (27720 / (fr g (mask (nth ls i)) : Int))) (by exact .cons rfl (.cons rfl (.cons rfl (.cons rfl (.cons rfl (.cons rfl (.cons rfl (.cons rfl .nil)))))))) (fun w3 hw3 => ?_) ⟨by simp [hpl], fun x hx => ?_⟩
              · rw [ea, ← cvL_set (by omega)]
                exact hw3
              · rw [nth_setP _ _ _ _ (by omega)]
                rw [maskTo, Nat.testBit_or, Nat.testBit_two_pow]
                by_cases e : x = (nth (nth ls i) q).toNat
                · rw [if_pos e, if_pos ⟨by rw [e]; simp, by rw [e]; exact h6.1⟩]
                · rw [if_neg e, hpv x hx]
                  have e2 : ¬ (nth (nth ls i) q).toNat = x := fun h => e h.symm
                  simp [e2]
            · skip
              have h6 : (g ||| maskTo (nth ls i) q).testBit (nth (nth ls i) q).toNat = true := by rw [Bool.not_eq_false'] at h5; exact h5
              refine cw_skip ?_
              refine post_meet pr (by exact .cons rfl (.cons rfl (.cons rfl (.cons rfl (.cons rfl (.cons rfl (.cons rfl (.cons rfl .nil)))))))) (fun w3 hw3 => ?_) ⟨hpl, fun x hx => ?_⟩
              · rw [ea, cvL_same h6]
                exact hw3
              · rw [hpv x hx, maskTo, Nat.testBit_or, Nat.testBit_two_pow]
                rw [Nat.testBit_or, Bool.or_eq_true] at h6
                by_cases e2 : (nth (nth ls i) q).toNat = x
                · subst e2
                  rcases h6 with h6 | h6 <;> simp [h6]
                · simp [e2]
          · rintro pr2 ⟨hpl2, hpv2⟩
            refine post_blk (post_then (cw_region (sr rfl rfl rfl ((q_move rfl rfl)) ?_)))
            refine sr rfl rfl rfl ((q_add rfl rfl rfl (by intro hc; omega))) ?_
            refine sr rfl rfl rfl ((q_assign rfl rfl)) (sw_nil ?_)
            exact post_next ⟨q + 1, pr2⟩ (by exact .cons rfl (.cons rfl (.cons rfl (.cons rfl (.cons rfl (.cons rfl (.cons rfl (.cons rfl .nil)))))))) (fun _ h => h) ⟨by simp only; omega, hpl2, hpv2⟩ (by simp only; omega)
        · skip
          have hq' : q = (nth ls i).length := by simp only [decide_eq_false_iff_not] at h4; omega
          subst hq'
          refine cw_exit (post_then_x (post_then_x (post_blk_eq (post_blk ?_))))
          have hst2 : giter n (msOf ls) (k + 1) = ⟨g ||| mask (nth ls i), out ++ [(i : Int)], shUp n g (mask (nth ls i)) (fr g (mask (nth ls i))) sh n⟩ := by
            rw [giter, hst]
            simp only [gstep, best, hml, hb, Int.toNat_natCast, ems]
          have hpe : pr = priceL (shUp n g (mask (nth ls i)) (fr g (mask (nth ls i))) sh n) := by
            have hl2 := shUp_len n g (mask (nth ls i)) (fr g (mask (nth ls i))) sh n
            apply List.ext_getElem
            · simp only [priceL, List.length_map]; omega
            · intro x x1 x2
              have h7 := hpv x (by omega)
              have h8 := priceL_nth (sh := shUp n g (mask (nth ls i)) (fr g (mask (nth ls i))) sh n) (j := x) (by omega)
              rw [nth_get x2] at h8
              rw [nth_get x1] at h7
              rw [h7, h8, shUp_nth n g (mask (nth ls i)) _ sh (by omega) n (Nat.le_refl _)]
              rw [priceL_nth (by omega)]
              have hx : x < n := by omega
              simp only [hx, true_and]
              have em : mask (nth ls i) = maskTo (nth ls i) (nth ls i).length := rfl
              rw [← em]
              split <;> rfl
          refine post_next ⟨k + 1, s46⟩ ?_ (fun w3 hw3 => ?_) ?_ ?_
          · simp only [hst2]
            exact (by exact .cons rfl (.cons rfl (.cons rfl (.cons rfl (.cons rfl .nil)))))
          · simp only [hst2]
            rw [← hpe]
            exact hw3
          · intro j hj
            by_cases e : j = k
            · subst e; rw [hst]; exact ⟨h0, i, by omega, by rw [best, hml]; exact hb, by rw [ems]; exact hpos⟩
            · exact hG j (by simp only at hj; omega)
          · simp only [hst2, hst]
            omega
  · skip
    have h0 : fr g (fullN n) = 0 := by simp only [decide_eq_false_iff_not] at h; omega
    have hend : GEnd n (msOf ls) k := ⟨hG, by rw [hst]; exact h0⟩
    have hPt : possN n (msOf ls) = true := poss_of_done (by omega) hend.ok hend.full
    rw [hP] at hPt
    cases hPt
theorem refGreedy_yes (n : Nat) (hn : n ≤ 30) (sv : SlV) (vs : List SlV) (ls : List (List Int)) (h8 : ls.length ≤ 8) (hs : ∀ s ∈ ls, setB n s = true) (w : World) (hm : Stb w [] (fun w' => Mt w' sv.v vs ls)) (hP : possN n (msOf ls) = true) :
    Calls Tryz.prog 37 #[.int .i64 n, sv.v] w fun e w' => ∃ y : (SlV × SlV) × Nat, e = .returned (.tuple #[y.1.1.v, y.1.2.v, .bool true]) ∧ GEnd n (msOf ls) y.2 ∧ Cl w [] [ownL 3 y.1.1.v (giter n (msOf ls) y.2).out, ownL 3 y.1.2.v (priceL (giter n (msOf ls) y.2).sh)] w' := by
  have h1 := stb_map hm fun _ h => h.l
  have n1 := hm.here.n
  have hmo := msOf_ok hs
  have hml : (msOf ls).length = ls.length := by simp [msOf]
  refine calls_cw (vs := [_, _]) Tryz.func37 rfl Tryz.ntmps37 rfl (Cl.start0 w) (cw_seq (cw_region (sr rfl rfl rfl ((q_assign rfl rfl)) (sr rfl rfl rfl ((q_assign rfl rfl)) (sr rfl rfl rfl ((q_assign rfl rfl)) (sw_nil (post_then (cw_seq (cw_region (sr rfl rfl rfl ((q_move rfl rfl)) ?_))))))))))
  refine sw_x rfl rfl rfl (e_make (α := Bool) (zero := false) rfl rfl rfl rfl rfl (by omega) (by omega) (by decide)) (fun s18 => ?_)
  refine sr rfl rfl rfl ((q_assign rfl rfl)) (sw_nil (post_then (cw_seq (cw_region (sr rfl rfl rfl ((q_move rfl rfl)) ?_)))))
  refine sw_x rfl rfl rfl (e_make (α := Int) (zero := 0) rfl rfl rfl rfl rfl (by omega) (by omega) (by decide)) (fun s20 => ?_)
  rw [Int.toNat_natCast, cvL_zero]
  refine sr rfl rfl rfl ((q_assign rfl rfl)) (sw_nil (post_then (cw_seq (cw_region (sr rfl rfl rfl ((q_assign rfl rfl)) (sw_nil (post_then (cw_seq (cw_region (sr rfl rfl rfl ((q_move rfl rfl)) (sr rfl rfl rfl ((q_assign rfl rfl)) (sw_nil (post_then (cw_seq (cw_block (cw_c (C' := Cl w [] [ownL 3 (SlV.v ⟨none, 0, 0⟩) ([] : List Int), ownL 4 s18.v (cvL n 0), ownL 3 s20.v (List.replicate n (0 : Int))]) (fun w' hw => (hw.perm (.swap _ _ _)).addNil (α := Int) 3) ?_))))))))))))))))
  refine cw_loop (S := RG) (fun y => [(1, [], sv.v), (7, [], s18.v), (8, [], s20.v), (9, [], y.so.v), (10, [], .int .i64 (fr (giter n (msOf ls) y.k).g (fullN n)))]) (fun y => Cl w [] [ownL 3 y.so.v (giter n (msOf ls) y.k).out, ownL 4 s18.v (cvL n (giter n (msOf ls) y.k).g), ownL 3 s20.v (priceL (giter n (msOf ls) y.k).sh)]) (fun y => GOk n (msOf ls) y.k) (fun y => fr (giter n (msOf ls) y.k).g (fullN n)) ⟨0, ⟨none, 0, 0⟩⟩ (fun j hj => by simp only at hj; omega) ?_ ?_ ?_
  · have e0 : fr (giter n (msOf ls) 0).g (fullN n) = n := fr_full (by omega)
    simp only [e0]
    exact (by exact .cons rfl (.cons rfl (.cons rfl (.cons rfl (.cons rfl .nil)))))
  · intro w' hw
    have e0 : priceL (giter n (msOf ls) 0).sh = List.replicate n 0 := by simp [priceL, giter]
    rw [e0]
    exact hw
  rintro ⟨k, so⟩ hG
  dsimp only at hG ⊢
  have hgf := fr_le (giter n (msOf ls) k).g (fullN n)
  have hsh := giter_sh n (msOf ls) k
  have hol := giter_out n (msOf ls) k
  have hkn := giter_bd (by omega) hmo hG
  generalize hst : giter n (msOf ls) k = st at *
  obtain ⟨g, out, sh⟩ := st
  dsimp only at hgf hsh hol ⊢
  have hcl := cvL_len n g
  have hprl : (priceL sh).length = n := by simpa [priceL] using hsh
  refine cw_seq (cw_seq (cw_region (sr rfl rfl rfl ((q_move rfl rfl)) (sr rfl rfl rfl ((q_gtr rfl rfl rfl)) (sw_nil (post_then ?_))))))
  refine cw_cond rfl (fun h => ?_) (fun h => ?_)
  · skip
    have h0 : fr g (fullN n) ≠ 0 := by simp only [decide_eq_true_eq] at h; omega
    refine cw_skip (post_then (cw_block (cw_seq (cw_region (sr rfl rfl rfl ((q_assign rfl rfl)) (sr rfl rfl rfl ((q_assign rfl rfl)) (sw_nil (post_then (cw_seq (cw_seq (cw_region (sr rfl rfl rfl ((q_assign rfl rfl)) (sw_nil (post_then (cw_block ?_)))))))))))))))
    refine cw_loop (S := Nat) (fun j => [(1, [], sv.v), (7, [], s18.v), (8, [], s20.v), (9, [], so.v), (10, [], .int .i64 (fr g (fullN n))), (11, [], .int .i64 (bestTo (msOf ls) g j).1), (12, [], .int .i64 (bestTo (msOf ls) g j).2), (13, [], .int .i64 j)]) (fun _ => Cl w [] [ownL 3 so.v out, ownL 4 s18.v (cvL n g), ownL 3 s20.v (priceL sh)]) (fun j => j ≤ ls.length) (fun j => ls.length - j) 0 (Nat.zero_le _) (by exact .cons rfl (.cons rfl (.cons rfl (.cons rfl (.cons rfl (.cons rfl (.cons rfl (.cons rfl .nil)))))))) (fun _ h => h) ?_
    intro j hj
    refine cw_seq (cw_seq (cw_region (sr rfl rfl rfl ((q_move rfl rfl)) (sr rfl rfl rfl ((q_move rfl rfl)) ?_))))
    refine sr rfl rfl rfl ((q_len rfl (.cons rfl inferInstance (.nil)) (by exact fun w hw => Stb.cl (by assumption) hw))) ?_
    refine sr rfl rfl rfl ((q_lss rfl rfl rfl)) (sw_nil (post_then ?_))
    refine cw_cond rfl (fun h2 => ?_) (fun h2 => ?_)
    · skip
      have hj' : j < ls.length := by simp only [decide_eq_true_eq] at h2; omega
      have hrow := stb_map hm fun _ h => h.r j hj'
      have hsb := hs _ (nth_mem hj')
      have ems := msOf_nth hj'
      refine cw_skip (post_then (cw_seq (cw_block (cw_seq (cw_region (sr rfl rfl rfl ((q_move rfl rfl)) (sr rfl rfl rfl ((q_move rfl rfl)) (sr rfl rfl rfl ((q_move rfl rfl)) ?_))))))))
      refine sr rfl rfl rfl ((q_indexN rfl rfl rfl (by exact fun w hw => Stb.cl (by assumption) hw) (by intro hc; omega))) ?_
      refine sr rfl rfl rfl ((q_loadEl rfl rfl rfl (by exact fun w hw => Stb.cl (by assumption) hw) (by intro hc; omega))) ?_
      refine sw_step rfl rfl rfl (q_call (CanCall.mk Tryz.call80) rfl (.cons rfl inferInstance (.cons rfl inferInstance (.nil))) (fun _ w hw => callq hw (fresh_spec _ _ n g hn (nth ls j) hsb w (by exact stb_own hw (by exact .tail _ (.head _))) (stb_arg hw hrow)))) ?_
      refine sr rfl rfl rfl ((q_assign rfl rfl)) (sw_nil (post_then (cw_seq (cw_region (sr rfl rfl rfl ((q_move rfl rfl)) (sr rfl rfl rfl ((q_move rfl rfl)) (sr rfl rfl rfl ((q_gtr rfl rfl rfl)) (sw_nil (post_then ?_)))))))))
      refine cw_cut (S := Unit) (fun _ => [(1, [], sv.v), (7, [], s18.v), (8, [], s20.v), (9, [], so.v), (10, [], .int .i64 (fr g (fullN n))), (11, [], .int .i64 (bestTo (msOf ls) g (j + 1)).1), (12, [], .int .i64 (bestTo (msOf ls) g (j + 1)).2), (13, [], .int .i64 j)]) (fun _ => Cl w [] [ownL 3 so.v out, ownL 4 s18.v (cvL n g), ownL 3 s20.v (priceL sh)]) (fun _ => True) ?_ ?_
      · refine cw_cond rfl (fun h3 => ?_) (fun h3 => ?_)
        · skip
          have h4 : bestTo (msOf ls) g (j + 1) = ((j : Int), fr g (mask (nth ls j))) := by
            rw [bestTo, ems, if_pos (by simp only [decide_eq_true_eq] at h3; omega)]
          refine cw_region (sr rfl rfl rfl ((q_move rfl rfl)) (sr rfl rfl rfl ((q_move rfl rfl)) (sr rfl rfl rfl ((q_assign rfl rfl)) (sr rfl rfl rfl ((q_assign rfl rfl)) (sw_nil ?_)))))
          refine post_meet () ?_ (fun _ h => h) trivial
          rw [h4]
          exact (by exact .cons rfl (.cons rfl (.cons rfl (.cons rfl (.cons rfl (.cons rfl (.cons rfl (.cons rfl .nil))))))))
        · skip
          have h4 : bestTo (msOf ls) g (j + 1) = bestTo (msOf ls) g j := by
            rw [bestTo, ems, if_neg (by simp only [decide_eq_false_iff_not] at h3; omega)]
          refine cw_skip ?_
          refine post_meet () ?_ (fun _ h => h) trivial
          rw [h4]
          exact (by exact .cons rfl (.cons rfl (.cons rfl (.cons rfl (.cons rfl (.cons rfl (.cons rfl (.cons rfl .nil))))))))
      · intro _ _
        refine post_blk (post_then (cw_region (sr rfl rfl rfl ((q_move rfl rfl)) ?_)))
        refine sr rfl rfl rfl ((q_add rfl rfl rfl (by intro hc; omega))) ?_
        refine sr rfl rfl rfl ((q_assign rfl rfl)) (sw_nil ?_)
        exact post_next (j + 1) (by exact .cons rfl (.cons rfl (.cons rfl (.cons rfl (.cons rfl (.cons rfl (.cons rfl (.cons rfl .nil)))))))) (fun _ h => h) (by omega) (by omega)
    · skip
      have hj' : j = ls.length := by simp only [decide_eq_false_iff_not] at h2; omega
      subst hj'
      have hbest := bestTo_spec (msOf ls) g (msOf ls).length
      rw [hml] at hbest
      refine cw_exit (post_then_x (post_then_x (post_blk_eq (post_then (cw_seq (cw_seq (cw_region (sr rfl rfl rfl ((q_move rfl rfl)) (sr rfl rfl rfl ((q_lss rfl rfl rfl)) (sw_nil (post_then ?_)))))))))))
      refine cw_cond rfl (fun h3 => ?_) (fun h3 => ?_)
      · skip
        simp only [decide_eq_true_eq] at h3
        have hno : bestTo (msOf ls) g ls.length = (-1, 0) ∧ ∀ j, j < ls.length → fr g (nth (msOf ls) j) = 0 := by
          rcases hbest with hb | ⟨i, _, hb, _⟩
          · exact hb
          · rw [hb] at h3; simp only at h3; omega
        have hPf : possN n (msOf ls) = false := by
          cases hp : possN n (msOf ls)
          · rfl
          · obtain ⟨i, i1, i2, i3⟩ := best_pos (by omega) hp h0
            rw [best, hml, hno.1] at i2
            simp only [Prod.mk.injEq] at i2
            omega
        rw [hP] at hPf
        cases hPf
      · skip
        simp only [decide_eq_false_iff_not] at h3
        obtain ⟨i, hi, hb, hpos⟩ : ∃ i, i < ls.length ∧ bestTo (msOf ls) g ls.length = ((i : Int), fr g (nth (msOf ls) i)) ∧ 0 < fr g (nth (msOf ls) i) := by
          rcases hbest with hb | ⟨i, b1, b2, b3, _⟩
          · rw [hb.1] at h3; simp at h3
          · exact ⟨i, b1, b2, b3⟩
        rw [hb]
        dsimp only
        have ems := msOf_nth hi
        have hfa := fr_after (g := g) (n := n) (hmo _ (nth_mem (i := i) (by omega)))
        have hrow := stb_map hm fun _ h => h.r i hi
        have hrl := rd_len hrow.here
        have hsb := mask_bits (hs _ (nth_mem hi))
        rw [ems] at hpos hfa ⊢
        have hf1 := fr_le g (mask (nth ls i))
        refine cw_skip (post_then (cw_seq (cw_region (sr rfl rfl rfl ((q_move rfl rfl)) (sr rfl rfl rfl ((q_move rfl rfl)) ?_)))))
        refine sw_x rfl rfl rfl (e_build1 (α := Int) rfl rfl rfl rfl) (fun s45 => ?_)
        refine sw_x rfl rfl rfl (e_append (i := 1) rfl (.cons rfl inferInstance (.cons rfl inferInstance (.nil))) rfl rfl (by exact fun w hw => rd_own hw (by exact .head _)) (by simp only [List.length_set, List.length_append, List.length_cons, List.length_nil, List.length_replicate, List.length_take, List.length_drop, List.length_map]; omega) rfl) (fun s46 => ?_)
        refine sr rfl rfl rfl ((q_assign rfl rfl)) (sw_nil (post_then (cw_seq (cw_region (sr rfl rfl rfl ((q_move rfl rfl)) (sr rfl rfl rfl ((q_move rfl rfl)) ?_))))))
        refine sr rfl rfl rfl ((q_sub rfl rfl rfl (by intro hc; omega))) ?_
        refine sr rfl rfl rfl ((q_assign rfl rfl)) (sw_nil (post_then (cw_seq (cw_region (sr rfl rfl rfl ((q_assign rfl rfl)) (sw_nil (post_then (cw_block ?_))))))))
        refine cw_loop (S := RX) (fun y => [(1, [], sv.v), (7, [], s18.v), (8, [], s20.v), (9, [], s46.v), (10, [], .int .i64 (fr (g ||| mask (nth ls i)) (fullN n))), (11, [], .int .i64 i), (12, [], .int .i64 (fr g (mask (nth ls i)))), (15, [], .int .i64 y.j)]) (fun y => Cl w [] [ownL 3 s46.v (out ++ [(i : Int)]), ownL 4 s18.v (cvL n (g ||| maskTo (nth ls i) y.j)), ownL 3 s20.v y.pr]) (fun y => y.j ≤ (nth ls i).length ∧ y.pr.length = n ∧ ∀ x, x < n → nth y.pr x = if (maskTo (nth ls i) y.j).testBit x = true ∧ g.testBit x = false then 27720 / (fr g (mask (nth ls i)) : Int) else nth (priceL sh) x) (fun y => (nth ls i).length - y.j) ⟨0, priceL sh⟩ ⟨Nat.zero_le _, hprl, fun x hx => by simp [maskTo]⟩ ?_ ?_ ?_
        · exact Le.cons rfl (Le.cons rfl (Le.cons rfl (Le.cons rfl (Le.cons' rfl (by rw [← hfa]; congr 1; omega) (Le.cons rfl (Le.cons rfl (Le.cons rfl Le.nil)))))))
        · intro w' hw
          have e0 : g ||| maskTo (nth ls i) 0 = g := by simp [maskTo]
          rw [e0]
          exact (fun w h => Cl.sel (by exact .take 1 rfl (.take 1 rfl (.take 1 rfl (.nil _)))) w h) _ hw
        rintro ⟨q, pr⟩ ⟨hq, hpl, hpv⟩
        dsimp only at hq hpl hpv ⊢
        refine cw_seq (cw_seq (cw_region (sr rfl rfl rfl ((q_move rfl rfl)) (sr rfl rfl rfl ((q_move rfl rfl)) (sr rfl rfl rfl ((q_move rfl rfl)) ?_)))))
        refine sr rfl rfl rfl ((q_indexN rfl rfl rfl (by exact fun w hw => Stb.cl (by assumption) hw) (by intro hc; omega))) ?_
        refine sr rfl rfl rfl ((q_loadEl rfl rfl rfl (by exact fun w hw => Stb.cl (by assumption) hw) (by intro hc; omega))) ?_
        refine sr rfl rfl rfl ((q_len rfl (.cons rfl inferInstance (.nil)) (by exact fun w hw => Stb.cl (by assumption) hw))) ?_
        refine sr rfl rfl rfl ((q_lss rfl rfl rfl)) (sw_nil (post_then ?_))
        refine cw_cond rfl (fun h4 => ?_) (fun h4 => ?_)
        · skip
          have hq' : q < (nth ls i).length := by simp only [decide_eq_true_eq] at h4; omega
          have hel := hsb.2 _ (nth_mem hq')
          have hcl2 := cvL_len n (g ||| maskTo (nth ls i) q)
          refine cw_skip (post_then (cw_seq (cw_block (cw_seq (cw_region (sr rfl rfl rfl ((q_move rfl rfl)) (sr rfl rfl rfl ((q_move rfl rfl)) ?_)))))))
          refine sr rfl rfl rfl ((q_indexN rfl rfl rfl (by exact fun w hw => Stb.cl (by assumption) hw) (by intro hc; omega))) ?_
          refine sr rfl rfl rfl ((q_loadEl rfl rfl rfl (by exact fun w hw => Stb.cl (by assumption) hw) (by intro hc; omega))) ?_
          refine sr rfl rfl rfl ((q_move rfl rfl)) ?_
          refine sr rfl rfl rfl ((q_indexN rfl rfl rfl (by exact fun w hw => Stb.cl (by assumption) hw) (by intro hc; omega))) ?_
          refine sr rfl rfl rfl ((q_loadEl rfl rfl rfl (by exact fun w hw => Stb.cl (by assumption) hw) (by intro hc; omega))) ?_
          refine sr rfl rfl rfl ((q_assign rfl rfl)) (sw_nil (post_then (cw_seq (cw_region (sr rfl rfl rfl ((q_move rfl rfl)) (sr rfl rfl rfl ((q_move rfl rfl)) ?_))))))
          refine sr rfl rfl rfl ((q_index rfl rfl rfl (by exact fun w hw => rd_own hw (by exact .tail _ (.head _))) (by intro hc; omega))) ?_
          refine sr rfl rfl rfl ((q_loadEl rfl rfl rfl (by exact fun w hw => rd_own hw (by exact .tail _ (.head _))) (by intro hc; omega))) ?_
          refine sr rfl rfl rfl ((q_not rfl rfl)) (sw_nil (post_then ?_))
          refine cw_cut (S := List Int) (fun _ => [(1, [], sv.v), (7, [], s18.v), (8, [], s20.v), (9, [], s46.v), (10, [], .int .i64 (fr (g ||| mask (nth ls i)) (fullN n))), (11, [], .int .i64 i), (12, [], .int .i64 (fr g (mask (nth ls i)))), (15, [], .int .i64 q)]) (fun pr => Cl w [] [ownL 3 s46.v (out ++ [(i : Int)]), ownL 4 s18.v (cvL n (g ||| maskTo (nth ls i) (q + 1))), ownL 3 s20.v pr]) (fun pr => pr.length = n ∧ ∀ x, x < n → nth pr x = if (maskTo (nth ls i) (q + 1)).testBit x = true ∧ g.testBit x = false then 27720 / (fr g (mask (nth ls i)) : Int) else nth (priceL sh) x) ?_ ?_
          · have hbit := cvL_nth (n := n) (i := (nth (nth ls i) q).toNat) (by omega) (g ||| maskTo (nth ls i) q)
            rw [hbit]
            have ea : g ||| maskTo (nth ls i) (q + 1) = g ||| maskTo (nth ls i) q ||| 2 ^ (nth (nth ls i) q).toNat := by rw [maskTo, Nat.or_assoc]
            refine cw_cond rfl (fun h5 => ?_) (fun h5 => ?_)
            · skip
              have h6 : (g ||| maskTo (nth ls i) q).testBit (nth (nth ls i) q).toNat = false := by rw [Bool.not_eq_true'] at h5; exact h5
              rw [Nat.testBit_or, Bool.or_eq_false_iff] at h6
              refine cw_seq (cw_region (sr rfl rfl rfl ((q_move rfl rfl)) (sr rfl rfl rfl ((q_move rfl rfl)) ?_)))
              refine sr rfl rfl rfl ((q_index rfl rfl rfl (by exact fun w hw => rd_own hw (by exact .tail _ (.head _))) (by intro hc; omega))) ?_
              refine sw_eff0 rfl rfl (e_storeEl1 (i := 1) rfl rfl rfl rfl rfl (by omega)) ?_
              refine sw_nil (post_then (cw_region (sr rfl rfl rfl ((q_move rfl rfl)) (sr rfl rfl rfl ((q_move rfl rfl)) (sr rfl rfl rfl ((q_move rfl rfl)) ?_)))))
              refine sr rfl rfl rfl ((q_quo rfl rfl rfl (by intro hc; omega))) ?_
              refine sr rfl rfl rfl ((q_index rfl rfl rfl (by exact fun w hw => rd_own hw (by exact .tail _ (.tail _ (.head _)))) (by intro hc; omega))) ?_
              refine sw_eff0 rfl rfl (e_storeEl1 (i := 2) rfl rfl rfl rfl rfl (by omega)) ?_
              refine sw_nil ?_
              refine post_meet (pr.set (nth (nth ls i) q).toNat (27720 / (fr g (mask (nth ls i)) : Int))) (by exact .cons rfl (.cons rfl (.cons rfl (.cons rfl (.cons rfl (.cons rfl (.cons rfl (.cons rfl .nil)))))))) (fun w3 hw3 => ?_) ⟨by simp [hpl], fun x hx => ?_⟩
              · rw [ea, ← cvL_set (by omega)]
                exact hw3
              · rw [nth_setP _ _ _ _ (by omega)]
                rw [maskTo, Nat.testBit_or, Nat.testBit_two_pow]
                by_cases e : x = (nth (nth ls i) q).toNat
                · rw [if_pos e, if_pos ⟨by rw [e]; simp, by rw [e]; exact h6.1⟩]
                · rw [if_neg e, hpv x hx]
                  have e2 : ¬ (nth (nth ls i) q).toNat = x := fun h => e h.symm
                  simp [e2]
            · skip
              have h6 : (g ||| maskTo (nth ls i) q).testBit (nth (nth ls i) q).toNat = true := by rw [Bool.not_eq_false'] at h5; exact h5
              refine cw_skip ?_
              refine post_meet pr (by exact .cons rfl (.cons rfl (.cons rfl (.cons rfl (.cons rfl (.cons rfl (.cons rfl (.cons rfl .nil)))))))) (fun w3 hw3 => ?_) ⟨hpl, fun x hx => ?_⟩
              · rw [ea, cvL_same h6]
                exact hw3
              · rw [hpv x hx, maskTo, Nat.testBit_or, Nat.testBit_two_pow]
                rw [Nat.testBit_or, Bool.or_eq_true] at h6
                by_cases e2 : (nth (nth ls i) q).toNat = x
                · subst e2
                  rcases h6 with h6 | h6 <;> simp [h6]
                · simp [e2]
          · rintro pr2 ⟨hpl2, hpv2⟩
            refine post_blk (post_then (cw_region (sr rfl rfl rfl ((q_move rfl rfl)) ?_)))
            refine sr rfl rfl rfl ((q_add rfl rfl rfl (by intro hc; omega))) ?_
            refine sr rfl rfl rfl ((q_assign rfl rfl)) (sw_nil ?_)
            exact post_next ⟨q + 1, pr2⟩ (by exact .cons rfl (.cons rfl (.cons rfl (.cons rfl (.cons rfl (.cons rfl (.cons rfl (.cons rfl .nil)))))))) (fun _ h => h) ⟨by simp only; omega, hpl2, hpv2⟩ (by simp only; omega)
        · skip
          have hq' : q = (nth ls i).length := by simp only [decide_eq_false_iff_not] at h4; omega
          subst hq'
          refine cw_exit (post_then_x (post_then_x (post_blk_eq (post_blk ?_))))
          have hst2 : giter n (msOf ls) (k + 1) = ⟨g ||| mask (nth ls i), out ++ [(i : Int)], shUp n g (mask (nth ls i)) (fr g (mask (nth ls i))) sh n⟩ := by
            rw [giter, hst]
            simp only [gstep, best, hml, hb, Int.toNat_natCast, ems]
          have hpe : pr = priceL (shUp n g (mask (nth ls i)) (fr g (mask (nth ls i))) sh n) := by
            have hl2 := shUp_len n g (mask (nth ls i)) (fr g (mask (nth ls i))) sh n
            apply List.ext_getElem
            · simp only [priceL, List.length_map]; omega
            · intro x x1 x2
              have h7 := hpv x (by omega)
              have h8 := priceL_nth (sh := shUp n g (mask (nth ls i)) (fr g (mask (nth ls i))) sh n) (j := x) (by omega)
              rw [nth_get x2] at h8
              rw [nth_get x1] at h7
              rw [h7, h8, shUp_nth n g (mask (nth ls i)) _ sh (by omega) n (Nat.le_refl _)]
              rw [priceL_nth (by omega)]
              have hx : x < n := by omega
              simp only [hx, true_and]
              have em : mask (nth ls i) = maskTo (nth ls i) (nth ls i).length := rfl
              rw [← em]
              split <;> rfl
          refine post_next ⟨k + 1, s46⟩ ?_ (fun w3 hw3 => ?_) ?_ ?_
          · simp only [hst2]
            exact (by exact .cons rfl (.cons rfl (.cons rfl (.cons rfl (.cons rfl .nil)))))
          · simp only [hst2]
            rw [← hpe]
            exact hw3
          · intro j hj
            by_cases e : j = k
            · subst e; rw [hst]; exact ⟨h0, i, by omega, by rw [best, hml]; exact hb, by rw [ems]; exact hpos⟩
            · exact hG j (by simp only at hj; omega)
          · simp only [hst2, hst]
            omega
  · skip
    have h0 : fr g (fullN n) = 0 := by simp only [decide_eq_false_iff_not] at h; omega
    have hend : GEnd n (msOf ls) k := ⟨hG, by rw [hst]; exact h0⟩
    have hPt : possN n (msOf ls) = true := poss_of_done (by omega) hend.ok hend.full
    refine cw_exit (post_then_x (post_then_x (post_blk_eq (post_then (cw_seq (cw_region (sr rfl rfl rfl ((q_move rfl rfl)) (sr rfl rfl rfl ((q_move rfl rfl)) (sr rfl rfl rfl ((q_assign rfl rfl)) (sr rfl rfl rfl ((q_assign rfl rfl)) (sr rfl rfl rfl ((q_assign rfl rfl)) (sw_nil (post_then (cw_ret (post_ret3 rfl (resOk_tmp rfl) (resOk_tmp rfl) (resOk_tmp rfl) ?_)))))))))))))))
    refine fun w' hw => ⟨((so, s20), k), rfl, hend, ?_⟩
    simp only [hst]
    exact (fun w h => Cl.sel (by exact .take 0 rfl (.take 1 rfl (.nil _))) w h) _ hw
end Go.Proofs.YtomjbfeafodfbaaGreat

set_option autoImplicit false
set_option maxRecDepth 100000
namespace Go.Proofs.YtomjbfeafodfbaaGreat
open Go.Sx
open Enc (enc val)
theorem widest_spec (n : Nat) (hn : n ≤ 30) (sv : SlV) (vs : List SlV) (ls : List (List Int)) (hs : ∀ s ∈ ls, setB n s = true) (w : World) (hm : Stb w [] (fun w' => Mt w' sv.v vs ls)) : Calls Tryz.prog 36 #[.int .i64 n, sv.v] w fun e w' => e = .returned (.int .i64 (wid (msOf ls))) ∧ Cl w [] [] w' := by
  have h1 := stb_map hm fun _ h => h.l
  have hL := rd_len h1.here
  have n1 := hm.here.n
  have hml : (msOf ls).length = ls.length := by simp [msOf]
  refine calls_cw (vs := [_, _]) Tryz.func36 rfl Tryz.ntmps36 rfl (Cl.start0 w) (cw_seq (cw_region (sr rfl rfl rfl ((q_assign rfl rfl)) (sw_nil (post_then (cw_seq (cw_region (sr rfl rfl rfl ((q_assign rfl rfl)) (sw_nil (post_then (cw_seq (cw_seq (cw_region (sr rfl rfl rfl ((q_assign rfl rfl)) (sw_nil (post_then (cw_block ?_)))))))))))))))))
  refine cw_loop (S := Nat) (fun k => [(0, [], .int .i64 n), (1, [], sv.v), (5, [], .int .i64 (widTo (msOf ls) k)), (6, [], .int .i64 k)]) (fun _ => Cl w [] []) (fun k => k ≤ ls.length) (fun k => ls.length - k) 0 (Nat.zero_le _) (by exact .cons rfl (.cons rfl (.cons rfl (.cons rfl .nil)))) (fun _ h => h) ?_
  intro k hk
  refine cw_seq (cw_seq (cw_region (sr rfl rfl rfl ((q_move rfl rfl)) (sr rfl rfl rfl ((q_move rfl rfl)) ?_))))
  refine sr rfl rfl rfl ((q_len rfl (.cons rfl inferInstance (.nil)) (by exact fun w hw => Stb.cl (by assumption) hw))) ?_
  refine sr rfl rfl rfl ((q_lss rfl rfl rfl)) (sw_nil (post_then ?_))
  refine cw_cond rfl (fun h => ?_) (fun h => ?_)
  · skip
    have hk' : k < ls.length := by simp only [decide_eq_true_eq] at h; omega
    have hrow := stb_map hm fun _ h => h.r k hk'
    have hsb := hs _ (nth_mem hk')
    have ems := msOf_nth hk'
    refine cw_skip (post_then (cw_seq (cw_block (cw_region_a (Cl w [] []) [] mixed_Tryz ?_))))
    refine aw_pure 0 rfl (by kernel_rfl) (by kernel_rfl) (by kernel_rfl) (by kernel_rfl) (by kernel_rfl) rfl rfl rfl (q_move rfl rfl) ?_
    refine aw_pure 1 rfl (by kernel_rfl) (by kernel_rfl) (by kernel_rfl) (by kernel_rfl) (by kernel_rfl) rfl rfl rfl (q_move rfl rfl) ?_
    refine aw_pure 3 rfl (by kernel_rfl) (by kernel_rfl) (by kernel_rfl) (by kernel_rfl) (by kernel_rfl) rfl rfl rfl (q_move rfl rfl) ?_
    refine aw_pure 4 rfl (by kernel_rfl) (by kernel_rfl) (by kernel_rfl) (by kernel_rfl) (by kernel_rfl) rfl rfl rfl (q_move rfl rfl) ?_
    refine aw_take 5 (fun w h => Cl.sel (by exact .nil _) w h) rfl (by kernel_rfl) (by kernel_rfl) (by kernel_rfl) (by kernel_rfl) (by kernel_rfl) (by kernel_rfl) rfl rfl rfl (q_indexN rfl rfl rfl (by exact fun w hw => Stb.cl (by assumption) hw) (by intro hc; omega)) ?_
    refine aw_take 6 (fun w h => Cl.sel (by exact .nil _) w h) rfl (by kernel_rfl) (by kernel_rfl) (by kernel_rfl) (by kernel_rfl) (by kernel_rfl) (by kernel_rfl) rfl rfl rfl (q_loadEl rfl rfl rfl (by exact fun w hw => Stb.cl (by assumption) hw) (by intro hc; omega)) ?_
    refine aw_x 2 (by kernel_rfl) rfl rfl rfl rfl (e_make (α := Bool) (zero := false) rfl rfl rfl rfl rfl (by omega) (by omega) (by decide)) (by intro hb; exact fun _ => (fun w h => Cl.sel (by exact .nil _) w h)) (fun s15 => ?_)
    rw [Int.toNat_natCast, cvL_zero]
    refine aw_q 7 (by kernel_rfl) rfl rfl rfl rfl (q_call (CanCall.mk Tryz.call80) rfl (.cons rfl inferInstance (.cons rfl inferInstance (.nil))) (fun _ w hw => callq hw (fresh_spec _ _ n 0 hn (nth ls k) hsb w (by exact stb_own hw (by exact .head _)) (stb_arg hw hrow)))) (by intro hb; exact (fun w h => Cl.sel (by exact .nil _) w h)) ?_
    refine aw_pure 8 rfl (by kernel_rfl) (by kernel_rfl) (by kernel_rfl) (by kernel_rfl) (by kernel_rfl) rfl rfl rfl (q_max rfl (.cons rfl inferInstance (.cons rfl inferInstance (.nil)))) ?_
    refine aw_pure 9 rfl (by kernel_rfl) (by kernel_rfl) (by kernel_rfl) (by kernel_rfl) (by kernel_rfl) rfl rfl rfl (q_assign rfl rfl) ?_
    refine aw_end (by kernel_rfl) ?_
    refine post_blk (post_then (cw_region (sr rfl rfl rfl ((q_move rfl rfl)) ?_)))
    refine sr rfl rfl rfl ((q_add rfl rfl rfl (by intro hc; omega))) ?_
    refine sr rfl rfl rfl ((q_assign rfl rfl)) (sw_nil ?_)
    have ewk : ((widTo (msOf ls) (k + 1) : Nat) : Int) = max (widTo (msOf ls) k : Int) (fr 0 (mask (nth ls k)) : Int) := by simp only [widTo, ems]; omega
    refine post_next (k + 1) ?_ (fun _ h => h.tail) (by omega) (by omega)
    rw [ewk]
    exact (by exact .cons rfl (.cons rfl (.cons rfl (.cons rfl .nil))))
  · skip
    have hk' : k = ls.length := by simp only [decide_eq_false_iff_not] at h; omega
    subst hk'
    refine cw_exit (post_then_x (post_then_x (post_blk_eq (post_then (cw_seq (cw_region (sr rfl rfl rfl ((q_move rfl rfl)) (sr rfl rfl rfl ((q_assign rfl rfl)) (sw_nil (post_then (cw_ret (post_ret1 rfl (resOk_tmp rfl) ?_))))))))))))
    exact fun w' hw => ⟨by rw [wid, hml], hw⟩
theorem scale_spec (m : Nat) (hm : m ≤ 1000) (w : World) : Calls Tryz.prog 38 #[.int .i64 m] w fun e w' => e = .returned (.int .i64 (scaleTo m)) ∧ Cl w [] [] w' := by
  refine calls_cw (vs := [_]) Tryz.func38 rfl Tryz.ntmps38 rfl (Cl.start0 w) (cw_seq (cw_region (sr rfl rfl rfl ((q_assign rfl rfl)) (sw_nil (post_then (cw_seq (cw_region (sr rfl rfl rfl ((q_assign rfl rfl)) (sw_nil (post_then (cw_seq (cw_seq (cw_region (sr rfl rfl rfl ((q_assign rfl rfl)) (sw_nil (post_then (cw_block ?_)))))))))))))))))
  refine cw_loop (S := Nat) (fun k => [(0, [], .int .i64 m), (3, [], .int .i64 (scaleTo k)), (4, [], .int .i64 ((k : Int) + 1))]) (fun _ => Cl w [] []) (fun k => k ≤ m) (fun k => m - k) 0 (Nat.zero_le _) (by exact .cons rfl (.cons rfl (.cons rfl .nil))) (fun _ h => h) ?_
  intro k hk
  have hsb := scaleTo_bd k
  have hq1 : (0 : Int) ≤ 27720 / ((k : Int) + 1) := Int.ediv_nonneg (by decide) (by omega)
  have hq2 : (27720 : Int) / ((k : Int) + 1) ≤ 27720 := Int.ediv_le_self _ (by decide)
  refine cw_seq (cw_seq (cw_region (sr rfl rfl rfl ((q_move rfl rfl)) (sr rfl rfl rfl ((q_move rfl rfl)) (sr rfl rfl rfl ((q_leq rfl rfl rfl)) (sw_nil (post_then ?_)))))))
  refine cw_cond rfl (fun h => ?_) (fun h => ?_)
  · skip
    have hk' : k < m := by simp only [decide_eq_true_eq] at h; omega
    refine cw_skip (post_then (cw_seq (cw_block (cw_region (sr rfl rfl rfl ((q_move rfl rfl)) (sr rfl rfl rfl ((q_move rfl rfl)) ?_))))))
    refine sr rfl rfl rfl ((q_quo rfl rfl rfl (by intro hc; omega))) ?_
    refine sr rfl rfl rfl ((q_add rfl rfl rfl (by intro hc; omega))) ?_
    refine sr rfl rfl rfl ((q_assign rfl rfl)) (sw_nil (post_blk (post_then (cw_region (sr rfl rfl rfl ((q_move rfl rfl)) ?_)))))
    refine sr rfl rfl rfl ((q_add rfl rfl rfl (by intro hc; omega))) ?_
    refine sr rfl rfl rfl ((q_assign rfl rfl)) (sw_nil ?_)
    exact post_next (k + 1) (by exact .cons rfl (.cons rfl (.cons rfl .nil))) (fun _ h => h) (by omega) (by omega)
  · skip
    have hk' : k = m := by simp only [decide_eq_false_iff_not] at h; omega
    subst hk'
    refine cw_exit (post_then_x (post_then_x (post_blk_eq (post_then (cw_seq (cw_region (sr rfl rfl rfl ((q_move rfl rfl)) (sr rfl rfl rfl ((q_assign rfl rfl)) (sw_nil (post_then (cw_ret (post_ret1 rfl (resOk_tmp rfl) ?_))))))))))))
    exact fun w' hw => ⟨rfl, hw⟩
theorem refGreedy_any (n : Nat) (hn : n ≤ 30) (sv : SlV) (vs : List SlV) (ls : List (List Int)) (h8 : ls.length ≤ 8) (hs : ∀ s ∈ ls, setB n s = true) (w : World) (hm : Stb w [] (fun w' => Mt w' sv.v vs ls)) :
    Calls Tryz.prog 37 #[.int .i64 n, sv.v] w fun e w' => ∃ y : SlV × SlV, e = .returned (.tuple #[y.1.v, y.2.v, .bool (possN n (msOf ls))]) ∧ True ∧ Cl w [] [] w' := by
  cases hP : possN n (msOf ls) with
  | false => exact (refGreedy_no n hn sv vs ls h8 hs w hm hP).mono fun e w' ⟨he, hc⟩ => ⟨(⟨none, 0, 0⟩, ⟨none, 0, 0⟩), he, trivial, hc⟩
  | true => exact (refGreedy_yes n hn sv vs ls h8 hs w hm hP).mono fun e w' ⟨y, he, _, hc⟩ => ⟨y.1, he, trivial, hc.tail.tail⟩
theorem needed_spec (n : Int) (hn : n ≤ 30 ∨ 1000 < n) (sv : SlV) (vs : List SlV) (ls : List (List Int)) (h8 : ls.length ≤ 8 ∨ 1000 < ls.length) (w : World) (hm : Stb w [] (fun w' => Mt w' sv.v vs ls)) : Calls Tryz.prog 35 #[.int .i64 n, sv.v] w fun e w' => e = .returned (.int .i64 (greedyE n ls)) ∧ Cl w [] [] w' := by
  have h1 := stb_map hm fun _ h => h.l
  have n1 := hm.here.n
  refine calls_cw (vs := [_, _]) Tryz.func35 rfl Tryz.ntmps35 rfl (Cl.start0 w) (cw_seq (cw_region (sr rfl rfl rfl ((q_assign rfl rfl)) (sw_nil (post_then (cw_seq (cw_seq (cw_region (sr rfl rfl rfl ((q_move rfl rfl)) (sr rfl rfl rfl ((q_gtr rfl rfl rfl)) (sr rfl rfl rfl ((q_move rfl rfl)) (sr rfl rfl rfl ((q_move rfl rfl)) ?_))))))))))))
  refine sr rfl rfl rfl ((q_len rfl (.cons rfl inferInstance (.nil)) (by exact fun w hw => Stb.cl (by assumption) hw))) ?_
  refine sr rfl rfl rfl ((q_gtr rfl rfl rfl)) (sr rfl rfl rfl ((q_or2 rfl rfl rfl)) (sw_nil (post_then ?_)))
  refine cw_cond rfl (fun h => ?_) (fun h => ?_)
  · skip
    have h2 : 1000 < n ∨ (1000 : Int) < ls.length := by simp only [Bool.or_eq_true, decide_eq_true_eq] at h; omega
    have h3 : covE n ls 1000 = 4 := by rw [covE, if_pos h2]
    refine cw_seq (cw_region (sr rfl rfl rfl ((q_assign rfl rfl)) (sw_nil (post_then (cw_ret (post_then_r (post_ret1 rfl (resOk_tmp rfl) ?_)))))))
    exact fun w' hw => ⟨by rw [greedyE, h3]; rfl, (fun w h => Cl.sel (by exact .nil _) w h) _ hw⟩
  · skip
    have h2 : ¬ (1000 < n ∨ (1000 : Int) < ls.length) := by simp only [Bool.or_eq_false_iff, decide_eq_false_iff_not] at h; omega
    have e0 : covE n ls 1000 = if n < 0 ∨ ls.all (setB n) = false then 2 else 0 := by rw [covE, if_neg h2]
    refine cw_skip (post_then (cw_seq (cw_seq (cw_region (sr rfl rfl rfl ((q_move rfl rfl)) (sr rfl rfl rfl ((q_lss rfl rfl rfl)) (sr rfl rfl rfl ((q_move rfl rfl)) (sr rfl rfl rfl ((q_move rfl rfl)) (sr rfl rfl rfl ((q_move rfl rfl)) ?_)))))))))
    refine sw_step rfl rfl rfl (q_call (CanCall.mk Tryz.call79) rfl (.cons rfl inferInstance (.cons rfl inferInstance (.nil))) (fun _ w hw => callq hw (refSets_spec n (by simp [AllT] at *; omega) sv vs ls w (stb_arg hw hm)))) ?_
    refine sr rfl rfl rfl ((q_not rfl rfl)) (sr rfl rfl rfl ((q_or2 rfl rfl rfl)) (sw_nil (post_then ?_)))
    refine cw_cond rfl (fun h3 => ?_) (fun h3 => ?_)
    · skip
      have h4 : covE n ls 1000 = 2 := by
        rw [e0, if_pos]
        rw [Bool.or_eq_true, decide_eq_true_eq, Bool.not_eq_true'] at h3
        exact h3
      refine cw_seq (cw_region (sr rfl rfl rfl ((q_assign rfl rfl)) (sw_nil (post_then (cw_ret (post_then_r (post_ret1 rfl (resOk_tmp rfl) ?_)))))))
      exact fun w' hw => ⟨by rw [greedyE, h4]; rfl, (fun w h => Cl.sel (by exact .nil _) w h) _ hw⟩
    · skip
      rw [Bool.or_eq_false_iff, decide_eq_false_iff_not, Bool.not_eq_false'] at h3
      have h4 : covE n ls 1000 = 0 := by
        rw [e0, if_neg]
        rintro (h5 | h5)
        · exact h3.1 h5
        · rw [h3.2] at h5; cases h5
      obtain ⟨m, rfl⟩ : ∃ m : Nat, n = m := ⟨n.toNat, by omega⟩
      have h5 : greedyE m ls = if possN m (msOf ls) then 0 else 5 := by rw [greedyE, h4, if_neg (by simp)]; rfl
      refine cw_skip (post_then (cw_seq (cw_seq (cw_region (sr rfl rfl rfl ((q_move rfl rfl)) (sr rfl rfl rfl ((q_move rfl rfl)) ?_))))))
      refine sw_x rfl rfl rfl (e_call (CanCall.mk Tryz.call37) rfl (.cons rfl inferInstance (.cons rfl inferInstance (.nil))) (fun w hw => refGreedy_any m (by omega) sv vs ls (by omega) (fun s hs => List.all_eq_true.1 h3.2 s hs) w (stb_arg hw hm))) (fun x26 => ?_)
      refine sw_imp (fun hx26 => ?_)
      refine sr rfl rfl rfl ((q_move rfl rfl)) (sr rfl rfl rfl ((q_extract rfl rfl rfl)) (sr rfl rfl rfl ((q_extract rfl rfl rfl)) (sr rfl rfl rfl ((q_extract rfl rfl rfl)) (sr rfl rfl rfl ((q_assign rfl rfl)) (sr rfl rfl rfl ((q_assign rfl rfl)) (sr rfl rfl rfl ((q_assign rfl rfl)) (sw_nil (post_then (cw_seq (cw_region (sr rfl rfl rfl ((q_move rfl rfl)) (sr rfl rfl rfl ((q_not rfl rfl)) (sw_nil (post_then ?_))))))))))))))
      refine cw_cond rfl (fun h6 => ?_) (fun h6 => ?_)
      · skip
        refine cw_seq (cw_region (sr rfl rfl rfl ((q_assign rfl rfl)) (sw_nil (post_then (cw_ret (post_then_r (post_ret1 rfl (resOk_tmp rfl) ?_)))))))
        exact fun w' hw => ⟨by rw [h5]; rw [Bool.not_eq_true'] at h6; rw [h6]; rfl, (fun w h => Cl.sel (by exact .nil _) w h) _ hw⟩
      · skip
        refine cw_skip (post_then (cw_seq (cw_region (sr rfl rfl rfl ((q_assign rfl rfl)) (sw_nil (post_then (cw_ret (post_ret1 rfl (resOk_tmp rfl) ?_))))))))
        exact fun w' hw => ⟨by rw [h5]; rw [Bool.not_eq_false'] at h6; rw [h6]; rfl, (fun w h => Cl.sel (by exact .nil _) w h) _ hw⟩
def setsOk (n : Int) (ls : List (List Int)) (most : Int) : Bool := decide (((ls.length : Int) ≤ most ∨ 1000 < ls.length) ∧ ls.length ≤ 1100 ∧ (n ≤ 30 ∨ 1000 < n)) && ls.all fun s => decide (s.length ≤ 40)
theorem sets_spec (n : Int) (sv : SlV) (vs : List SlV) (ls : List (List Int)) (most : Int) (w : World) (hm : Stb w [] (fun w' => Mt w' sv.v vs ls)) : Calls Tryz.prog 33 #[.int .i64 n, sv.v, .int .i64 most] w fun e w' => e = .returned (.bool (setsOk n ls most)) ∧ Cl w [] [] w' := by
  have h1 := stb_map hm fun _ h => h.l
  have n1 := hm.here.n
  have hL := rd_len h1.here
  refine calls_cw (vs := [_, _, _]) Tryz.func33 rfl Tryz.ntmps33 rfl (Cl.start0 w) (cw_seq (cw_region (sr rfl rfl rfl ((q_assign rfl rfl)) (sw_nil (post_then (cw_seq (cw_seq (cw_region (sr rfl rfl rfl ((q_move rfl rfl)) ?_)))))))))
  refine sr rfl rfl rfl ((q_len rfl (.cons rfl inferInstance (.nil)) (by exact fun w hw => Stb.cl (by assumption) hw))) ?_
  refine sr rfl rfl rfl ((q_move rfl rfl)) (sr rfl rfl rfl ((q_gtr rfl rfl rfl)) (sr rfl rfl rfl ((q_move rfl rfl)) (sr rfl rfl rfl ((q_move rfl rfl)) ?_)))
  refine sr rfl rfl rfl ((q_len rfl (.cons rfl inferInstance (.nil)) (by exact fun w hw => Stb.cl (by assumption) hw))) ?_
  refine sr rfl rfl rfl ((q_leq rfl rfl rfl)) (sr rfl rfl rfl ((q_and2 rfl rfl rfl)) (sr rfl rfl rfl ((q_move rfl rfl)) (sr rfl rfl rfl ((q_move rfl rfl)) ?_)))
  refine sr rfl rfl rfl ((q_len rfl (.cons rfl inferInstance (.nil)) (by exact fun w hw => Stb.cl (by assumption) hw))) ?_
  refine sr rfl rfl rfl ((q_gtr rfl rfl rfl)) (sr rfl rfl rfl ((q_or2 rfl rfl rfl)) (sr rfl rfl rfl ((q_move rfl rfl)) (sr rfl rfl rfl ((q_move rfl rfl)) (sr rfl rfl rfl ((q_gtr rfl rfl rfl)) (sr rfl rfl rfl ((q_move rfl rfl)) (sr rfl rfl rfl ((q_move rfl rfl)) (sr rfl rfl rfl ((q_leq rfl rfl rfl)) (sr rfl rfl rfl ((q_and2 rfl rfl rfl)) (sr rfl rfl rfl ((q_or2 rfl rfl rfl)) (sw_nil (post_then ?_)))))))))))
  refine cw_cond rfl (fun h => ?_) (fun h => ?_)
  · skip
    have h2 : ¬ (((ls.length : Int) ≤ most ∨ 1000 < ls.length) ∧ ls.length ≤ 1100 ∧ (n ≤ 30 ∨ 1000 < n)) := by
      simp only [Bool.or_eq_true, Bool.and_eq_true, decide_eq_true_eq, n1] at h
      omega
    refine cw_seq (cw_region (sr rfl rfl rfl ((q_assign rfl rfl)) (sw_nil (post_then (cw_ret (post_then_r (post_ret1 rfl (resOk_tmp rfl) ?_)))))))
    exact fun w' hw => ⟨by rw [setsOk, decide_eq_false h2]; rfl, hw⟩
  · skip
    have h2 : (((ls.length : Int) ≤ most ∨ 1000 < ls.length) ∧ ls.length ≤ 1100 ∧ (n ≤ 30 ∨ 1000 < n)) := by
      simp only [Bool.or_eq_false_iff, Bool.and_eq_false_iff, decide_eq_false_iff_not, n1] at h
      omega
    refine cw_skip (post_then (cw_seq (cw_seq (cw_region (sr rfl rfl rfl ((q_assign rfl rfl)) (sw_nil (post_then (cw_block ?_))))))))
    refine cw_loop (S := Nat) (fun k => [(1, [], sv.v), (7, [], .int .i64 k)]) (fun _ => Cl w [] []) (fun k => k ≤ ls.length ∧ ∀ j, j < k → (nth ls j).length ≤ 40) (fun k => ls.length - k) 0 ⟨Nat.zero_le _, fun j hj => by omega⟩ (by exact .cons rfl (.cons rfl .nil)) (fun _ h => h) ?_
    rintro k ⟨hk, he⟩
    refine cw_seq (cw_seq (cw_region (sr rfl rfl rfl ((q_move rfl rfl)) (sr rfl rfl rfl ((q_move rfl rfl)) ?_))))
    refine sr rfl rfl rfl ((q_len rfl (.cons rfl inferInstance (.nil)) (by exact fun w hw => Stb.cl (by assumption) hw))) ?_
    refine sr rfl rfl rfl ((q_lss rfl rfl rfl)) (sw_nil (post_then ?_))
    refine cw_cond rfl (fun h3 => ?_) (fun h3 => ?_)
    · skip
      have hk' : k < ls.length := by simp only [decide_eq_true_eq] at h3; omega
      have hr := stb_map hm fun _ h => h.r k hk'
      refine cw_skip (post_then (cw_seq (cw_block (cw_seq (cw_region (sr rfl rfl rfl ((q_move rfl rfl)) (sr rfl rfl rfl ((q_move rfl rfl)) ?_)))))))
      refine sr rfl rfl rfl ((q_indexN rfl rfl rfl (by exact fun w hw => Stb.cl (by assumption) hw) (by intro hc; omega))) ?_
      refine sr rfl rfl rfl ((q_loadEl rfl rfl rfl (by exact fun w hw => Stb.cl (by assumption) hw) (by intro hc; omega))) ?_
      refine sr rfl rfl rfl ((q_len rfl (.cons rfl inferInstance (.nil)) (by exact fun w hw => Stb.cl (by assumption) hw))) ?_
      refine sr rfl rfl rfl ((q_gtr rfl rfl rfl)) (sw_nil (post_then ?_))
      refine cw_cond rfl (fun h4 => ?_) (fun h4 => ?_)
      · skip
        have h5 : (ls.all fun s => decide (s.length ≤ 40)) = false := List.all_eq_false.2 ⟨nth ls k, nth_mem hk', by simp only [decide_eq_true_eq] at h4 ⊢; omega⟩
        refine cw_seq (cw_region (sr rfl rfl rfl ((q_assign rfl rfl)) (sw_nil (post_then (cw_ret (post_blk_r (post_then_r (post_then_r (post_blk_r (post_then_r (post_ret1 rfl (resOk_tmp rfl) ?_)))))))))))
        exact fun w' hw => ⟨by rw [setsOk, h5, Bool.and_false], hw⟩
      · skip
        refine cw_skip (post_blk (post_then (cw_region (sr rfl rfl rfl ((q_move rfl rfl)) ?_))))
        refine sr rfl rfl rfl ((q_add rfl rfl rfl (by intro hc; omega))) ?_
        refine sr rfl rfl rfl ((q_assign rfl rfl)) (sw_nil ?_)
        refine post_next (k + 1) (by exact .cons rfl (.cons rfl .nil)) (fun _ h => h) ⟨by omega, fun j hj => ?_⟩ (by omega)
        by_cases e : j = k
        · subst e; simp only [decide_eq_false_iff_not] at h4; omega
        · exact he j (by omega)
    · skip
      have hk' : k = ls.length := by simp only [decide_eq_false_iff_not] at h3; omega
      subst hk'
      have h5 : (ls.all fun s => decide (s.length ≤ 40)) = true := List.all_eq_true.2 fun s hs => by
        obtain ⟨q, hq, rfl⟩ := List.getElem_of_mem hs
        have := he q hq
        rw [nth_get hq] at this
        simpa using this
      refine cw_exit (post_then_x (post_then_x (post_blk_eq (post_then (cw_seq (cw_region (sr rfl rfl rfl ((q_assign rfl rfl)) (sw_nil (post_then (cw_ret (post_ret1 rfl (resOk_tmp rfl) ?_)))))))))))
      exact fun w' hw => ⟨by rw [setsOk, decide_eq_true h2, h5]; rfl, hw⟩
end Go.Proofs.YtomjbfeafodfbaaGreat
