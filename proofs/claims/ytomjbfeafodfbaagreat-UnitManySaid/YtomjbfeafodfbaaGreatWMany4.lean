import Derived.Test.YtomjbfeafodfbaaGreatWMany3

set_option autoImplicit false
set_option linter.unusedSimpArgs false
set_option linter.unusedVariables false
set_option maxRecDepth 100000
namespace Go.Proofs.YtomjbfeafodfbaaGreat
open Go.Sx
open Enc (enc val)
def setB (n : Int) (s : List Int) : Bool := s.all fun x => inB x 0 (n - 1)
def covE (n : Int) (ls : List (List Int)) (most : Int) : Int := if 1000 < n ∨ most < ls.length then 4 else if n < 0 ∨ ls.all (setB n) = false then 2 else 0
theorem elem_spec (b : Nat) (n : Int) (hn : 0 ≤ n ∧ n ≤ 1000) (xs : List Int) : PredL Tryz.prog 117 #[.pointer (some ⟨b, 0, none⟩)] (fun x : Int => !inB x 0 (n - 1)) (fun w => BlkAt b [.int .i64 n] 3 w) xs := fun x _ w hR => by
  have hb := blk_stb hR
  refine calls_cw (vs := [_, _]) Tryz.func117 rfl Tryz.ntmps117 rfl (Cl.start0 w) (cw_seq (cw_region (sr rfl rfl rfl ((q_assign rfl rfl)) (sw_nil (post_then (cw_seq (cw_region (sr rfl rfl rfl ((q_move rfl rfl)) ?_))))))))
  refine sr rfl rfl rfl ((q_loadS rfl rfl (fun w hw => Stb.cl (by assumption) hw) rfl)) ?_
  refine sr rfl rfl rfl ((q_sub rfl rfl rfl (by intro hc; omega))) ?_
  refine sw_step rfl rfl rfl (q_call (CanCall.mk Tryz.call70) rfl (.cons rfl inferInstance (.cons rfl inferInstance (.cons rfl inferInstance (.nil)))) (fun _ w hw => callq hw (within_spec _ _ _ w))) (sr rfl rfl rfl ((q_not rfl rfl)) (sr rfl rfl rfl ((q_assign rfl rfl)) (sw_nil (post_then (cw_ret (post_ret1 rfl (resOk_tmp rfl) ?_))))))
  exact fun w' hw => ⟨rfl, hw⟩
theorem row_spec (b : Nat) (n : Int) (hn : 0 ≤ n ∧ n ≤ 1000) (sv : SlV) (vs : List SlV) (ls : List (List Int)) (c : SlV → List Int) (hc : ∀ i, i < ls.length → c (nth vs i) = nth ls i) : PredL Tryz.prog 116 #[.pointer (some ⟨b, 0, none⟩)] (fun s => !setB n (c s)) (fun w => BlkAt b [.int .i64 n] 3 w ∧ Mt w sv.v vs ls) vs := fun s hs w ⟨hR1, hR2⟩ => by
  have hb := blk_stb hR1
  obtain ⟨i, hi, rfl⟩ := List.getElem_of_mem hs
  have hn2 := hR2.n
  have e : vs[i] = nth vs i := (nth_get hi).symm
  rw [e]
  dsimp only
  rw [hc i (by omega)]
  have h1 := rd_stb (hR2.r i (by omega))
  refine calls_cw (vs := [_, _]) Tryz.func116 rfl Tryz.ntmps116 rfl (Cl.start0 w) (cw_seq (cw_region (sr rfl rfl rfl ((q_assign rfl rfl)) (sw_nil (post_then (cw_seq (cw_region (sr rfl rfl rfl ((q_move rfl rfl)) (sr rfl rfl rfl ((q_func_l rfl (.cons rfl inferInstance (.nil)))) ?_)))))))))
  refine sw_step rfl rfl rfl (q_call (CanCall.mk Tryz.call81) rfl (.cons rfl inferInstance (.cons rfl inferInstance (.nil))) (fun _ w hw => callq hw (containsInt_spec _ _ _ _ _ _ w (by exact stb_arg hw (by assumption)) (stb_arg hw hb) (CanCall.mk Tryz.call117) (elem_spec b n hn _)))) ?_
  refine sr rfl rfl rfl ((q_assign rfl rfl)) (sw_nil (post_then (cw_ret (post_ret1 rfl (resOk_tmp rfl) ?_))))
  refine fun w' hw => ⟨?_, hw⟩
  simp only [setB]
  rw [List.not_all_eq_any_not]
theorem any_rows {n : Int} {vs : List SlV} {ls : List (List Int)} {c : SlV → List Int} (hl : vs.length = ls.length) (hc : ∀ i, i < ls.length → c (nth vs i) = nth ls i) : (vs.any fun s => !setB n (c s)) = !ls.all (setB n) := by
  rw [← List.not_all_eq_any_not]
  congr 1
  rw [Bool.eq_iff_iff, List.all_eq_true, List.all_eq_true]
  constructor
  · intro h5 l hl2
    obtain ⟨i, hi, rfl⟩ := List.getElem_of_mem hl2
    have h6 := h5 (nth vs i) (nth_mem (by omega))
    rw [hc i hi, nth_get hi] at h6
    exact h6
  · intro h5 s hs
    obtain ⟨i, hi, rfl⟩ := List.getElem_of_mem hs
    have h6 := h5 (nth ls i) (nth_mem (by omega))
    rw [← nth_get hi, hc i (by omega)]
    exact h6
theorem covering_neg (n : Int) (hn : -9223372036854775808 ≤ n) (sv : SlV) (vs : List SlV) (ls : List (List Int)) (most : Int) (w : World) (hm : Stb w [] (fun w' => Mt w' sv.v vs ls)) (hE : covE n ls most ≠ 0) (hn0 : n < 0) :
    Calls Tryz.prog 75 #[.int .i64 n, sv.v, .int .i64 most] w fun e w' => e = .returned (.tuple #[.pointer none, .int .i64 (covE n ls most)]) ∧ Cl w [] [] w' := by
  have h1 : Stb w [] (RdL sv.v vs) := stb_map hm fun _ h => h.l
  have n1 := hm.here.n
  obtain ⟨c, hc⟩ := content hm.here
  refine calls_cw (vs := [_, _, _]) Tryz.func75 rfl Tryz.ntmps75 rfl (Cl.start0 w) (cw_seq (cw_region ?_))
  refine sw_x rfl rfl rfl (e_box rfl rfl rfl) (fun b3 => ?_)
  refine sr rfl rfl rfl ((q_assign rfl rfl)) (sr rfl rfl rfl ((q_assign rfl rfl)) (sw_nil (post_then (cw_seq (cw_seq (cw_region ?_))))))
  refine sr rfl rfl rfl ((q_loadC rfl rfl (by exact .head _) rfl)) ?_
  refine sr rfl rfl rfl ((q_gtr rfl rfl rfl)) (sr rfl rfl rfl ((q_move rfl rfl)) (sr rfl rfl rfl ((q_move rfl rfl)) ?_))
  refine sr rfl rfl rfl ((q_len rfl (.cons rfl inferInstance (.nil)) (by exact fun w hw => Stb.cl (by assumption) hw))) ?_
  refine sr rfl rfl rfl ((q_move rfl rfl)) (sr rfl rfl rfl ((q_gtr rfl rfl rfl)) (sr rfl rfl rfl ((q_or2 rfl rfl rfl)) (sw_nil (post_then ?_))))
  refine cw_cond rfl (fun h => ?_) (fun h => ?_)
  · skip
    have h2 : 1000 < n ∨ most < ls.length := by simp only [Bool.or_eq_true, decide_eq_true_eq] at h; omega
    refine cw_seq (cw_region (sr rfl rfl rfl ((q_assign rfl rfl)) (sr rfl rfl rfl ((q_assign rfl rfl)) (sw_nil (post_then (cw_ret (post_then_r (post_ret2 rfl (resOk_tmp rfl) (resOk_tmp rfl) ?_))))))))
    exact fun w' hw => ⟨by rw [covE, if_pos h2], (fun w h => Cl.sel (by exact .nil _) w h) _ hw⟩
  · skip
    have h2 : ¬ (1000 < n ∨ most < ls.length) := by simp only [Bool.or_eq_false_iff, decide_eq_false_iff_not] at h; omega
    have e0 : covE n ls most = if n < 0 ∨ ls.all (setB n) = false then 2 else 0 := by rw [covE, if_neg h2]
    refine cw_skip (post_then (cw_seq (cw_seq (cw_region ?_))))
    refine sr rfl rfl rfl ((q_loadC rfl rfl (by exact .head _) rfl)) ?_
    refine sr rfl rfl rfl ((q_lss rfl rfl rfl)) (sr rfl rfl rfl ((q_move rfl rfl)) (sr rfl rfl rfl ((q_move rfl rfl)) (sr rfl rfl rfl ((q_func_l rfl (.cons rfl inferInstance (.nil)))) ?_)))
    refine sr rfl rfl rfl ((q_off (v := .bool false) (by simp [AllT, hn0]))) ?_
    refine sr rfl rfl rfl ((q_or2 rfl rfl rfl)) (sw_nil (post_then ?_))
    refine cw_cond rfl (fun h3 => ?_) (fun h3 => ?_)
    · skip
      refine cw_seq (cw_region (sr rfl rfl rfl ((q_assign rfl rfl)) (sr rfl rfl rfl ((q_assign rfl rfl)) (sw_nil (post_then (cw_ret (post_then_r (post_ret2 rfl (resOk_tmp rfl) (resOk_tmp rfl) ?_))))))))
      exact fun w' hw => ⟨by rw [e0, if_pos (.inl hn0)], (fun w h => Cl.sel (by exact .nil _) w h) _ hw⟩
    · skip
      simp [hn0] at h3
theorem covering_pos (n : Int) (hn : -9223372036854775808 ≤ n) (sv : SlV) (vs : List SlV) (ls : List (List Int)) (most : Int) (w : World) (hm : Stb w [] (fun w' => Mt w' sv.v vs ls)) (hE : covE n ls most ≠ 0) (hn0 : ¬ n < 0) :
    Calls Tryz.prog 75 #[.int .i64 n, sv.v, .int .i64 most] w fun e w' => e = .returned (.tuple #[.pointer none, .int .i64 (covE n ls most)]) ∧ Cl w [] [] w' := by
  have h1 : Stb w [] (RdL sv.v vs) := stb_map hm fun _ h => h.l
  have n1 := hm.here.n
  obtain ⟨c, hc⟩ := content hm.here
  refine calls_cw (vs := [_, _, _]) Tryz.func75 rfl Tryz.ntmps75 rfl (Cl.start0 w) (cw_seq (cw_region ?_))
  refine sw_x rfl rfl rfl (e_box rfl rfl rfl) (fun b3 => ?_)
  refine sr rfl rfl rfl ((q_assign rfl rfl)) (sr rfl rfl rfl ((q_assign rfl rfl)) (sw_nil (post_then (cw_seq (cw_seq (cw_region ?_))))))
  refine sr rfl rfl rfl ((q_loadC rfl rfl (by exact .head _) rfl)) ?_
  refine sr rfl rfl rfl ((q_gtr rfl rfl rfl)) (sr rfl rfl rfl ((q_move rfl rfl)) (sr rfl rfl rfl ((q_move rfl rfl)) ?_))
  refine sr rfl rfl rfl ((q_len rfl (.cons rfl inferInstance (.nil)) (by exact fun w hw => Stb.cl (by assumption) hw))) ?_
  refine sr rfl rfl rfl ((q_move rfl rfl)) (sr rfl rfl rfl ((q_gtr rfl rfl rfl)) (sr rfl rfl rfl ((q_or2 rfl rfl rfl)) (sw_nil (post_then ?_))))
  refine cw_cond rfl (fun h => ?_) (fun h => ?_)
  · skip
    have h2 : 1000 < n ∨ most < ls.length := by simp only [Bool.or_eq_true, decide_eq_true_eq] at h; omega
    refine cw_seq (cw_region (sr rfl rfl rfl ((q_assign rfl rfl)) (sr rfl rfl rfl ((q_assign rfl rfl)) (sw_nil (post_then (cw_ret (post_then_r (post_ret2 rfl (resOk_tmp rfl) (resOk_tmp rfl) ?_))))))))
    exact fun w' hw => ⟨by rw [covE, if_pos h2], (fun w h => Cl.sel (by exact .nil _) w h) _ hw⟩
  · skip
    have h2 : ¬ (1000 < n ∨ most < ls.length) := by simp only [Bool.or_eq_false_iff, decide_eq_false_iff_not] at h; omega
    have e0 : covE n ls most = if n < 0 ∨ ls.all (setB n) = false then 2 else 0 := by rw [covE, if_neg h2]
    have hn1 : 0 ≤ n ∧ n ≤ 1000 := by omega
    refine cw_skip (post_then (cw_seq (cw_seq (cw_region ?_))))
    refine sr rfl rfl rfl ((q_loadC rfl rfl (by exact .head _) rfl)) ?_
    refine sr rfl rfl rfl ((q_lss rfl rfl rfl)) (sr rfl rfl rfl ((q_move rfl rfl)) (sr rfl rfl rfl ((q_move rfl rfl)) (sr rfl rfl rfl ((q_func_l rfl (.cons rfl inferInstance (.nil)))) ?_)))
    refine sw_step rfl rfl rfl (q_call (CanCall.mk Tryz.call95) rfl (.cons rfl inferInstance (.cons rfl inferInstance (.nil))) (fun _ w1 hw => callq hw (containsRow_spec _ vs _ _ _ _ w1 (stb_arg hw h1) ⟨fun w' k => ⟨(blk_stb (blk_here hw (by exact .head _))).stb w' k, (stb_arg hw hm).stb w' k⟩⟩ (CanCall.mk Tryz.call116) (row_spec b3 n hn1 sv vs ls c hc)))) ?_
    refine sr rfl rfl rfl ((q_or2 rfl rfl rfl)) (sw_nil (post_then ?_))
    rw [any_rows n1 hc]
    refine cw_cond rfl (fun h3 => ?_) (fun h3 => ?_)
    · skip
      have h4 : n < 0 ∨ ls.all (setB n) = false := by
        right
        cases h5 : ls.all (setB n)
        · rfl
        · rw [h5] at h3; simp at h3; omega
      refine cw_seq (cw_region (sr rfl rfl rfl ((q_assign rfl rfl)) (sr rfl rfl rfl ((q_assign rfl rfl)) (sw_nil (post_then (cw_ret (post_then_r (post_ret2 rfl (resOk_tmp rfl) (resOk_tmp rfl) ?_))))))))
      exact fun w' hw => ⟨by rw [e0, if_pos h4], (fun w h => Cl.sel (by exact .nil _) w h) _ hw⟩
    · skip
      exfalso
      apply hE
      rw [e0, if_neg]
      rintro (h4 | h4)
      · omega
      · rw [h4] at h3; simp at h3
theorem covering_no (n : Int) (hn : -9223372036854775808 ≤ n) (sv : SlV) (vs : List SlV) (ls : List (List Int)) (most : Int) (w : World) (hm : Stb w [] (fun w' => Mt w' sv.v vs ls)) (hE : covE n ls most ≠ 0) :
    Calls Tryz.prog 75 #[.int .i64 n, sv.v, .int .i64 most] w fun e w' => e = .returned (.tuple #[.pointer none, .int .i64 (covE n ls most)]) ∧ Cl w [] [] w' := by
  by_cases h : n < 0
  · exact covering_neg n hn sv vs ls most w hm hE h
  · exact covering_pos n hn sv vs ls most w hm hE h
theorem empty_spec (b n : Nat) (hn : n ≤ 30) (w : World) (hb : Stb w [] (BlkAt b [.int .i64 n] 3)) : Calls Tryz.prog 118 #[.pointer (some ⟨b, 0, none⟩)] w fun e w' => ∃ r : SlV, e = .returned r.v ∧ True ∧ Cl w [] [ownL 156 r.v (ws n 0)] w' := by
  refine calls_cw (vs := [_]) Tryz.func118 rfl Tryz.ntmps118 rfl (Cl.start0 w) (cw_seq (cw_region (sr rfl rfl rfl ((q_assign rfl rfl)) (sw_nil (post_then (cw_seq (cw_region ?_)))))))
  refine sr rfl rfl rfl ((q_loadS rfl rfl (fun w hw => Stb.cl (by assumption) hw) rfl)) ?_
  refine sr rfl rfl rfl ((q_add rfl rfl rfl (by intro hc; omega))) ?_
  refine sr rfl rfl rfl ((q_quo rfl rfl rfl (by intro hc; omega))) ?_
  refine sw_x rfl rfl rfl (e_make (α := UW) (zero := ⟨0⟩) rfl rfl rfl rfl rfl (by omega) (by omega) (by decide)) (fun s5 => ?_)
  refine sr rfl rfl rfl ((q_assign rfl rfl)) (sw_nil (post_then (cw_ret (post_ret1 rfl (resOk_tmp rfl) ?_))))
  refine fun w' hw => ⟨s5, rfl, trivial, ?_⟩
  have e : List.replicate (((n : Int) + 63) / 64).toNat (⟨0⟩ : UW) = ws n 0 := by
    unfold ws
    by_cases h : n = 0
    · subst h; rfl
    · rw [if_neg h, show (((n : Int) + 63) / 64).toNat = 1 by omega]; rfl
  rw [e] at hw
  exact hw
def rowU (n : Nat) (g : SlV × Nat) : Asn := ownL 156 g.1.v (ws n g.2)
structure CGood (y : CV × List (SlV × Nat)) (n : Nat) (ls : List (List Int)) : Prop where
  n : y.1.n = n
  l : y.1.ls = y.2.map (·.1)
  m : y.1.ms = y.2.map (·.2)
  ms : y.1.ms = ls.map mask
def CV.F (y : CV × List (SlV × Nat)) : List Asn := blk y.1.bc [.int .i64 y.1.n, y.1.ss.v, y.1.sa.v] 117 :: ownL 115 y.1.ss.v y.1.ls :: ownL 156 y.1.sa.v (ws y.1.n (fullN y.1.n)) :: y.2.map (rowU y.1.n)
theorem cv_rd {y : CV × List (SlV × Nat)} {n : Nat} {ls : List (List Int)} (g : CGood y n ls) {w : World} {bs : List Nat} {F : List Asn} (h5 : ∀ G ∈ F, ∃ b2, Stb w bs fun w' => G.holds w' b2) (hF : ∀ A ∈ CV.F y, A ∈ F) : Stb w bs y.1.Rd := by
  obtain ⟨⟨bc, n', ss, l', sa, ms⟩, G⟩ := y
  obtain ⟨e1, e2, e3, e4⟩ := g
  dsimp only at e1 e2 e3 e4
  subst e1 e2 e3
  have f1 := lend_blk h5 (hF _ (.head _))
  have f2 := lend_own h5 (hF _ (.tail _ (.head _)))
  have f3 := lend_own h5 (hF _ (.tail _ (.tail _ (.head _))))
  refine ⟨fun w' k => ⟨f1.stb w' k, f2.stb w' k, by simp, fun i hi => ?_, f3.stb w' k⟩⟩
  dsimp only at hi ⊢
  rw [List.length_map] at hi
  have f4 : Stb w bs (RdL (nth G i).1.v (ws n' (nth G i).2)) := lend_own (e := 156) h5 (hF _ (.tail _ (.tail _ (.tail _ (List.mem_map_of_mem (f := rowU n') (nth_mem hi))))))
  have e5 : nth (G.map (·.1)) i = (nth G i).1 := by rw [nth_get (by simpa using hi), nth_get hi]; simp
  have e6 : nth (G.map (·.2)) i = (nth G i).2 := by rw [nth_get (by simpa using hi), nth_get hi]; simp
  rw [e5, e6]
  exact f4.stb w' k
theorem mask_bits {n : Nat} {s : List Int} (h : setB n s = true) : (∀ i, (mask s).testBit i = true → i < n) ∧ ∀ x ∈ s, 0 ≤ x ∧ x < n := by
  have h1 : ∀ x ∈ s, 0 ≤ x ∧ x < n := fun x hx => by
    have := List.all_eq_true.1 h x hx
    simp only [inB, Bool.and_eq_true, decide_eq_true_eq] at this
    omega
  refine ⟨fun i hi => ?_, h1⟩
  obtain ⟨j, hj, e⟩ := (maskTo_bit s i s.length).1 hi
  have := h1 _ (nth_mem hj)
  omega
theorem covE_ok {n : Int} {ls : List (List Int)} {most : Int} (h : covE n ls most = 0) : n ≤ 1000 ∧ ls.length ≤ most ∧ 0 ≤ n ∧ ∀ s ∈ ls, setB n s = true := by
  unfold covE at h
  split at h
  · cases h
  · split at h
    · cases h
    · rename_i h1 h2
      refine ⟨by omega, by omega, by omega, fun s hs => ?_⟩
      have : ¬ ls.all (setB n) = false := fun e => h2 (.inr e)
      rw [Bool.not_eq_false, List.all_eq_true] at this
      exact this s hs
theorem cgood_ok {y : CV × List (SlV × Nat)} {n : Nat} {ls : List (List Int)} {most : Int} (g : CGood y n ls) (hn : n ≤ 30) (hE : covE n ls most = 0) (hl : ls.length ≤ 1000) : y.1.Ok := by
  obtain ⟨h1, h2, h3, h4⟩ := covE_ok hE
  refine ⟨by rw [g.n]; exact hn, fun m hm => ?_, by rw [g.ms]; simpa using hl⟩
  rw [g.ms] at hm
  obtain ⟨s, hs, rfl⟩ := List.mem_map.1 hm
  rw [g.n]
  exact (mask_bits (h4 s hs)).1
structure CW1 where
  i : Nat
  ss : SlV
  G : List (SlV × Nat)
theorem covering_yes (n : Nat) (hn : n ≤ 30) (sv : SlV) (vs : List SlV) (ls : List (List Int)) (most : Int) (w : World) (hm : Stb w [] (fun w' => Mt w' sv.v vs ls)) (hl : ls.length ≤ 1000) (hE : covE n ls most = 0) :
    Calls Tryz.prog 75 #[.int .i64 n, sv.v, .int .i64 most] w fun e w' => ∃ y : CV × List (SlV × Nat), e = .returned (.tuple #[.pointer (some ⟨y.1.bc, 0, none⟩), .int .i64 0]) ∧ CGood y n ls ∧ Cl w [] (CV.F y) w' := by
  have h1 : Stb w [] (RdL sv.v vs) := stb_map hm fun _ h => h.l
  have n1 := hm.here.n
  obtain ⟨c, hc⟩ := content hm.here
  obtain ⟨q1, q2, q3, q4⟩ := covE_ok hE
  have hn1 : 0 ≤ (n : Int) ∧ (n : Int) ≤ 1000 := by omega
  refine calls_cw (vs := [_, _, _]) Tryz.func75 rfl Tryz.ntmps75 rfl (Cl.start0 w) (cw_seq (cw_region ?_))
  refine sw_x rfl rfl rfl (e_box rfl rfl rfl) (fun b3 => ?_)
  refine sr rfl rfl rfl ((q_assign rfl rfl)) (sr rfl rfl rfl ((q_assign rfl rfl)) (sw_nil (post_then (cw_seq (cw_seq (cw_region ?_))))))
  refine sr rfl rfl rfl ((q_loadC rfl rfl (by exact .head _) rfl)) ?_
  refine sr rfl rfl rfl ((q_gtr rfl rfl rfl)) (sr rfl rfl rfl ((q_move rfl rfl)) (sr rfl rfl rfl ((q_move rfl rfl)) ?_))
  refine sr rfl rfl rfl ((q_len rfl (.cons rfl inferInstance (.nil)) (by exact fun w hw => Stb.cl (by assumption) hw))) ?_
  refine sr rfl rfl rfl ((q_move rfl rfl)) (sr rfl rfl rfl ((q_gtr rfl rfl rfl)) (sr rfl rfl rfl ((q_or2 rfl rfl rfl)) (sw_nil (post_then ?_))))
  refine cw_cond rfl (fun h => ?_) (fun h => ?_)
  · skip
    exfalso
    simp only [Bool.or_eq_true, decide_eq_true_eq] at h; omega
  · skip
    clear h
    refine cw_skip (post_then (cw_seq (cw_seq (cw_region ?_))))
    refine sr rfl rfl rfl ((q_loadC rfl rfl (by exact .head _) rfl)) ?_
    refine sr rfl rfl rfl ((q_lss rfl rfl rfl)) (sr rfl rfl rfl ((q_move rfl rfl)) (sr rfl rfl rfl ((q_move rfl rfl)) (sr rfl rfl rfl ((q_func_l rfl (.cons rfl inferInstance (.nil)))) ?_)))
    refine sw_step rfl rfl rfl (q_call (CanCall.mk Tryz.call95) rfl (.cons rfl inferInstance (.cons rfl inferInstance (.nil))) (fun _ w1 hw => callq hw (containsRow_spec _ vs _ _ _ _ w1 (stb_arg hw h1) ⟨fun w' k => ⟨(blk_stb (blk_here hw (by exact .head _))).stb w' k, (stb_arg hw hm).stb w' k⟩⟩ (CanCall.mk Tryz.call116) (row_spec b3 n hn1 sv vs ls c hc)))) ?_
    refine sr rfl rfl rfl ((q_or2 rfl rfl rfl)) (sw_nil (post_then ?_))
    rw [any_rows n1 hc]
    refine cw_cond rfl (fun h3 => ?_) (fun h3 => ?_)
    · skip
      exfalso
      rw [List.all_eq_true.2 q4] at h3
      simp at h3; omega
    · skip
      clear h3
      refine cw_skip (post_then (cw_seq (cw_region (sr rfl rfl rfl ((q_func_l rfl (.cons rfl inferInstance (.nil)))) (sr rfl rfl rfl ((q_assign rfl rfl)) (sw_nil (post_then (cw_seq (cw_region_a (Cl w [] [blk b3 [.int .i64 n] 3]) [] mixed_Tryz ?_)))))))))
      refine aw_take 0 (fun w h => Cl.sel (by exact .take 0 rfl (.nil _)) w h) rfl (by kernel_rfl) (by kernel_rfl) (by kernel_rfl) (by kernel_rfl) (by kernel_rfl) (by kernel_rfl) rfl rfl rfl (q_loadC rfl rfl (by exact .head _) rfl) ?_
      refine aw_pure 1 rfl (by kernel_rfl) (by kernel_rfl) (by kernel_rfl) (by kernel_rfl) (by kernel_rfl) rfl rfl rfl (q_move rfl rfl) ?_
      refine aw_x 2 (by kernel_rfl) rfl rfl rfl rfl (e_callH (A := []) (F := [blk b3 [.int .i64 n] 3]) (CanCall.mk Tryz.call118) rfl rfl (.nil) (.refl _) (fun w bs k1 k2 k3 k4 k5 => by cases k1; exact empty_spec b3 n hn w (lend_blk k5 (.head _)))) (by intro hb; exact fun _ w h => (fun w h => Cl.sel (by exact .take 1 rfl (.nil _)) w h) w h.2) (fun s34 => ?_)
      refine aw_imp fun _ => ?_
      refine aw_pure 3 rfl (by kernel_rfl) (by kernel_rfl) (by kernel_rfl) (by kernel_rfl) (by kernel_rfl) rfl rfl rfl (q_build (cells := [.int .i64 n, .slice none 0 0, s34.v]) rfl (.cons rfl inferInstance (.cons rfl inferInstance (.nil))) (by rfl)) ?_
      refine aw_x 4 (by kernel_rfl) rfl rfl rfl rfl (e_box rfl rfl rfl) (by intro hb; exact fun _ => (fun w h => Cl.sel (by exact .take 2 rfl (.nil _)) w h)) (fun b36 => ?_)
      refine aw_pure 5 rfl (by kernel_rfl) (by kernel_rfl) (by kernel_rfl) (by kernel_rfl) (by kernel_rfl) rfl rfl rfl (q_assign rfl rfl) ?_
      refine aw_end (by kernel_rfl) ?_
      refine post_then (cw_seq (cw_seq (cw_region ?_)))
      refine sr rfl rfl rfl ((q_loadC rfl rfl (by exact .tail _ (.tail _ (.head _))) rfl)) ?_
      refine sr rfl rfl rfl ((q_move rfl rfl)) (sw_nil (post_then (cw_block ?_)))
      refine cw_loop (S := Nat) (fun x => [(1, [], sv.v), (8, [], .func (.func 118) #[] #[.pointer (some ⟨b3, 0, none⟩)]), (9, [], .pointer (some ⟨b36, 0, none⟩)), (37, [], .int .i64 n), (38, [], .int .i64 x)]) (fun x => Cl w [] [blk b3 [.int .i64 n] 3, blk b36 [.int .i64 n, .slice none 0 0, s34.v] 117, ownL 156 s34.v (ws n (fullN x))]) (fun x => x ≤ n) (fun x => n - x) 0 (Nat.zero_le _) (by exact .cons rfl (.cons rfl (.cons rfl (.cons rfl (.cons rfl .nil))))) (fun w h => Cl.sel (by exact .take 2 rfl (.take 0 rfl (.take 0 rfl (.nil _)))) w h) ?_
      intro x hx
      refine cw_seq (cw_region (sr rfl rfl rfl ((q_lss rfl rfl rfl)) (sw_nil (post_then (cw_seq ?_)))))
      refine cw_cond rfl (fun h => ?_) (fun h => ?_)
      · skip
        have hx' : x < n := by simp only [decide_eq_true_eq] at h; omega
        have hn0 : 0 < n := by omega
        have f1 : fullN x < 2 ^ 32 := Nat.lt_of_lt_of_le (Nat.sub_lt (Nat.two_pow_pos x) (by decide)) (Nat.pow_le_pow_right (by decide) (by omega))
        have f2 : 2 ^ x < 2 ^ 32 := two_lt (by omega)
        refine cw_c (C' := Cl w [] [blk b3 [.int .i64 n] 3, blk b36 [.int .i64 n, .slice none 0 0, s34.v] 117, ownL 156 s34.v [UW.mk (fullN x)]]) (fun w3 h => by rw [ws_pos hn0] at h; exact h) ?_
        refine cw_skip (post_then (cw_seq (cw_block (cw_seq (cw_region (sr rfl rfl rfl ((q_move rfl rfl)) (sr rfl rfl rfl ((q_assign rfl rfl)) (sw_nil (post_then (cw_region_a (Cl w [] [blk b36 [.int .i64 n, .slice none 0 0, s34.v] 117, ownL 156 s34.v [UW.mk (fullN x)]]) [13] mixed_Tryz ?_))))))))))
        refine aw_pure 0 rfl (by kernel_rfl) (by kernel_rfl) (by kernel_rfl) (by kernel_rfl) (by kernel_rfl) rfl rfl rfl (q_move rfl rfl) ?_
        refine aw_pure 1 rfl (by kernel_rfl) (by kernel_rfl) (by kernel_rfl) (by kernel_rfl) (by kernel_rfl) rfl rfl rfl (q_nilCheck rfl rfl) ?_
        refine aw_take 2 (fun w h => Cl.sel (by exact .take 1 rfl (.take 1 rfl (.nil _))) w h) rfl (by kernel_rfl) (by kernel_rfl) (by kernel_rfl) (by kernel_rfl) (by kernel_rfl) (by kernel_rfl) rfl rfl rfl (q_fieldAddr rfl rfl) ?_
        refine aw_take 3 (fun w h => Cl.sel (by exact .take 1 rfl (.take 1 rfl (.nil _))) w h) rfl (by kernel_rfl) (by kernel_rfl) (by kernel_rfl) (by kernel_rfl) (by kernel_rfl) (by kernel_rfl) rfl rfl rfl (q_loadC rfl rfl (by exact .head _) rfl) ?_
        refine aw_pure 4 rfl (by kernel_rfl) (by kernel_rfl) (by kernel_rfl) (by kernel_rfl) (by kernel_rfl) rfl rfl rfl (q_move rfl rfl) ?_
        refine aw_pure 5 rfl (by kernel_rfl) (by kernel_rfl) (by kernel_rfl) (by kernel_rfl) (by kernel_rfl) rfl rfl rfl (q_quo rfl rfl rfl (by intro hc; omega)) ?_
        refine aw_pure 8 rfl (by kernel_rfl) (by kernel_rfl) (by kernel_rfl) (by kernel_rfl) (by kernel_rfl) rfl rfl rfl (q_move rfl rfl) ?_
        refine aw_pure 9 rfl (by kernel_rfl) (by kernel_rfl) (by kernel_rfl) (by kernel_rfl) (by kernel_rfl) rfl rfl rfl (q_rem rfl rfl rfl (by intro hc; omega)) ?_
        rw [show ((x : Int) / 64) = ((0 : Nat) : Int) by omega, show ((x : Int) % 64) = (x : Int) by omega]
        refine aw_take 6 (fun w h => Cl.sel (by exact .take 1 rfl (.take 1 rfl (.nil _))) w h) rfl (by kernel_rfl) (by kernel_rfl) (by kernel_rfl) (by kernel_rfl) (by kernel_rfl) (by kernel_rfl) rfl rfl rfl (q_indexN rfl rfl rfl (by exact fun w hw => rd_own hw (by exact .tail _ (.head _))) (by intro hc; (simp only [List.length_set, List.length_append, List.length_cons, List.length_nil, List.length_replicate, List.length_take, List.length_drop, List.length_map]; omega))) ?_
        refine aw_take 7 (fun w h => Cl.sel (by exact .take 1 rfl (.take 1 rfl (.nil _))) w h) rfl (by kernel_rfl) (by kernel_rfl) (by kernel_rfl) (by kernel_rfl) (by kernel_rfl) (by kernel_rfl) rfl rfl rfl (q_loadEl rfl rfl rfl (by exact fun w hw => rd_own hw (by exact .tail _ (.head _))) (by intro hc; (simp only [List.length_set, List.length_append, List.length_cons, List.length_nil, List.length_replicate, List.length_take, List.length_drop, List.length_map]; omega))) ?_
        refine aw_pure 10 rfl (by kernel_rfl) (by kernel_rfl) (by kernel_rfl) (by kernel_rfl) (by kernel_rfl) rfl rfl rfl (q_shl1 (k := x) rfl rfl rfl (by omega)) ?_
        refine aw_pure 11 rfl (by kernel_rfl) (by kernel_rfl) (by kernel_rfl) (by kernel_rfl) (by kernel_rfl) rfl rfl rfl (q_orK (a := fullN x) (b := 2 ^ x) rfl rfl rfl (fun _ => by omega)) ?_
        refine aw_take 12 (fun w h => Cl.sel (by exact .take 1 rfl (.take 1 rfl (.nil _))) w h) rfl (by kernel_rfl) (by kernel_rfl) (by kernel_rfl) (by kernel_rfl) (by kernel_rfl) (by kernel_rfl) rfl rfl rfl (q_indexN rfl rfl rfl (by exact fun w hw => rd_own hw (by exact .tail _ (.head _))) (by intro hc; (simp only [List.length_set, List.length_append, List.length_cons, List.length_nil, List.length_replicate, List.length_take, List.length_drop, List.length_map]; omega))) ?_
        refine aw_one0 13 (by kernel_rfl) rfl rfl rfl (e_storeEl1 (i := 2) rfl rfl rfl rfl rfl (by (simp only [List.length_set, List.length_append, List.length_cons, List.length_nil, List.length_replicate, List.length_take, List.length_drop, List.length_map]; omega))) (by intro hb; (exact absurd hb (by decide))) ?_
        refine aw_end (by kernel_rfl) ?_
        refine post_blk (post_then (cw_region ?_))
        refine sr rfl rfl rfl ((q_add rfl rfl rfl (by intro hc; omega))) ?_
        refine sr rfl rfl rfl ((q_move rfl rfl)) (sw_nil ?_)
        refine post_next (x + 1) (by exact .cons rfl (.cons rfl (.cons rfl (.cons rfl (.cons rfl .nil))))) (fun w3 hw3 => ?_) (by omega) (by omega)
        rw [ws_pos hn0, ← fullN_succ]
        exact hw3
      · skip
        have hx' : x = n := by simp only [decide_eq_false_iff_not] at h; omega
        subst hx'
        refine cw_c (C' := Cl w [] [ownL 115 (SlV.v ⟨none, 0, 0⟩) ([] : List SlV), blk b3 [.int .i64 x] 3, blk b36 [.int .i64 x, .slice none 0 0, s34.v] 117, ownL 156 s34.v (ws x (fullN x))]) (fun w3 h => h.addNil (α := SlV) 115) (cw_exit (post_then_x (post_then_x (post_blk_eq (post_then (cw_seq (cw_seq (cw_region (sr rfl rfl rfl ((q_move rfl rfl)) ?_)))))))))
        refine sr rfl rfl rfl ((q_len rfl (.cons rfl inferInstance (.nil)) (by exact fun w hw => Stb.cl (by assumption) hw))) ?_
        refine sr rfl rfl rfl ((q_move rfl rfl)) (sw_nil (post_then (cw_block ?_)))
        refine cw_loop (S := CW1) (fun y => [(8, [], .func (.func 118) #[] #[.pointer (some ⟨b3, 0, none⟩)]), (9, [], .pointer (some ⟨b36, 0, none⟩)), (55, [], sv.v), (56, [], .int .i64 ls.length), (57, [], .int .i64 y.i)]) (fun y => Cl w [] (blk b3 [.int .i64 x] 3 :: blk b36 [.int .i64 x, y.ss.v, s34.v] 117 :: ownL 115 y.ss.v (y.G.map (·.1)) :: ownL 156 s34.v (ws x (fullN x)) :: y.G.map (rowU x))) (fun y => y.i ≤ ls.length ∧ y.G.map (·.2) = (ls.take y.i).map mask) (fun y => ls.length - y.i) ⟨0, ⟨none, 0, 0⟩, []⟩ ⟨Nat.zero_le _, rfl⟩ ?_ (fun w h => Cl.sel (by exact .take 1 rfl (.take 1 rfl (.take 0 rfl (.take 0 rfl (.nil _))))) w h) ?_
        · exact Le.cons rfl (Le.cons rfl (Le.cons rfl (Le.cons' rfl (by rw [n1]) (Le.cons rfl Le.nil))))
        rintro ⟨i, ss, G⟩ ⟨hi, hG⟩
        dsimp only at hi hG ⊢
        have hGl : G.length = i := by
          have := congrArg List.length hG
          simp only [List.length_map, List.length_take] at this
          omega
        refine cw_seq (cw_region (sr rfl rfl rfl ((q_lss rfl rfl rfl)) (sw_nil (post_then (cw_seq ?_)))))
        refine cw_cond rfl (fun h2 => ?_) (fun h2 => ?_)
        · skip
          have hi' : i < ls.length := by simp only [decide_eq_true_eq] at h2; omega
          have hrow := stb_map hm fun _ h => h.r i hi'
          have hsb := mask_bits (q4 _ (nth_mem hi'))
          have hrl := rd_len hrow.here
          refine cw_skip (post_then (cw_seq (cw_block (cw_seq (cw_region ?_)))))
          refine sr rfl rfl rfl ((q_indexN rfl rfl rfl (by exact fun w hw => Stb.cl (by assumption) hw) (by intro hc; omega))) ?_
          refine sr rfl rfl rfl ((q_loadEl rfl rfl rfl (by exact fun w hw => Stb.cl (by assumption) hw) (by intro hc; omega))) ?_
          refine sr rfl rfl rfl ((q_assign rfl rfl)) (sw_nil (post_then (cw_seq (cw_region (sr rfl rfl rfl ((q_move rfl rfl)) ?_)))))
          refine sw_x rfl rfl rfl (e_callH (A := []) (F := blk b3 [.int .i64 x] 3 :: blk b36 [.int .i64 x, ss.v, s34.v] 117 :: ownL 115 ss.v (G.map (·.1)) :: ownL 156 s34.v (ws x (fullN x)) :: G.map (rowU x)) (CanCall.mk Tryz.call118) rfl rfl (.nil) (.refl _) (fun w bs k1 k2 k3 k4 k5 => by cases k1; exact empty_spec b3 x hn w (lend_blk k5 (.head _)))) (fun s62 => ?_)
          refine sw_imp fun _ => (sr rfl rfl rfl ((q_assign rfl rfl)) (sw_nil (post_then (cw_seq (cw_seq (cw_region (sr rfl rfl rfl ((q_move rfl rfl)) ?_)))))))
          refine sr rfl rfl rfl ((q_len rfl (.cons rfl inferInstance (.nil)) (by exact fun w hw => Stb.cl (by assumption) hw))) ?_
          refine sr rfl rfl rfl ((q_move rfl rfl)) (sw_nil (post_then (cw_block ?_)))
          refine cw_loop (S := Nat) (fun j => [(8, [], .func (.func 118) #[] #[.pointer (some ⟨b3, 0, none⟩)]), (9, [], .pointer (some ⟨b36, 0, none⟩)), (13, [], s62.v), (55, [], sv.v), (56, [], .int .i64 ls.length), (57, [], .int .i64 i), (63, [], (nth vs i).v), (64, [], .int .i64 (nth ls i).length), (65, [], .int .i64 j)]) (fun j => Cl w [] (ownL 156 s62.v (ws x (maskTo (nth ls i) j)) :: blk b3 [.int .i64 x] 3 :: blk b36 [.int .i64 x, ss.v, s34.v] 117 :: ownL 115 ss.v (G.map (·.1)) :: ownL 156 s34.v (ws x (fullN x)) :: G.map (rowU x))) (fun j => j ≤ (nth ls i).length) (fun j => (nth ls i).length - j) 0 (Nat.zero_le _) (by exact .cons rfl (.cons rfl (.cons rfl (.cons rfl (.cons rfl (.cons rfl (.cons rfl (.cons rfl (.cons rfl .nil))))))))) (fun _ h => h) ?_
          intro j hj
          refine cw_seq (cw_region (sr rfl rfl rfl ((q_lss rfl rfl rfl)) (sw_nil (post_then (cw_seq ?_)))))
          refine cw_cond rfl (fun h3 => ?_) (fun h3 => ?_)
          · skip
            have hj' : j < (nth ls i).length := by simp only [decide_eq_true_eq] at h3; omega
            have hel := hsb.2 _ (nth_mem hj')
            have hn0 : 0 < x := by omega
            have f1 : maskTo (nth ls i) j < 2 ^ 32 := Nat.lt_of_lt_of_le (maskTo_lt hsb.2 j hj) (Nat.pow_le_pow_right (by decide) (by omega))
            have f2 : 2 ^ (nth (nth ls i) j).toNat < 2 ^ 32 := two_lt (by omega)
            refine cw_c (C' := Cl w [] (ownL 156 s62.v [UW.mk (maskTo (nth ls i) j)] :: blk b3 [.int .i64 x] 3 :: blk b36 [.int .i64 x, ss.v, s34.v] 117 :: ownL 115 ss.v (G.map (·.1)) :: ownL 156 s34.v (ws x (fullN x)) :: G.map (rowU x))) (fun w3 h => by rw [ws_pos hn0] at h; exact h) ?_
            refine cw_skip (post_then (cw_seq (cw_block (cw_seq (cw_region ?_)))))
            refine sr rfl rfl rfl ((q_indexN rfl rfl rfl (by exact fun w hw => Stb.cl (by assumption) hw) (by intro hc; omega))) ?_
            refine sr rfl rfl rfl ((q_loadEl rfl rfl rfl (by exact fun w hw => Stb.cl (by assumption) hw) (by intro hc; omega))) ?_
            refine sr rfl rfl rfl ((q_assign rfl rfl)) (sw_nil (post_then (cw_region_a (Cl w [] [ownL 156 s62.v [UW.mk (maskTo (nth ls i) j)]]) [10] mixed_Tryz ?_)))
            refine aw_pure 0 rfl (by kernel_rfl) (by kernel_rfl) (by kernel_rfl) (by kernel_rfl) (by kernel_rfl) rfl rfl rfl (q_move rfl rfl) ?_
            refine aw_pure 1 rfl (by kernel_rfl) (by kernel_rfl) (by kernel_rfl) (by kernel_rfl) (by kernel_rfl) rfl rfl rfl (q_move rfl rfl) ?_
            refine aw_pure 2 rfl (by kernel_rfl) (by kernel_rfl) (by kernel_rfl) (by kernel_rfl) (by kernel_rfl) rfl rfl rfl (q_quo rfl rfl rfl (by intro hc; omega)) ?_
            refine aw_pure 5 rfl (by kernel_rfl) (by kernel_rfl) (by kernel_rfl) (by kernel_rfl) (by kernel_rfl) rfl rfl rfl (q_move rfl rfl) ?_
            refine aw_pure 6 rfl (by kernel_rfl) (by kernel_rfl) (by kernel_rfl) (by kernel_rfl) (by kernel_rfl) rfl rfl rfl (q_rem rfl rfl rfl (by intro hc; omega)) ?_
            rw [show (nth (nth ls i) j / 64) = ((0 : Nat) : Int) by omega, show (nth (nth ls i) j % 64) = ((nth (nth ls i) j).toNat : Int) by omega]
            refine aw_take 3 (fun w h => Cl.sel (by exact .take 0 rfl (.nil _)) w h) rfl (by kernel_rfl) (by kernel_rfl) (by kernel_rfl) (by kernel_rfl) (by kernel_rfl) (by kernel_rfl) rfl rfl rfl (q_indexN rfl rfl rfl (by exact fun w hw => rd_own hw (by exact .head _)) (by intro hc; (simp only [List.length_set, List.length_append, List.length_cons, List.length_nil, List.length_replicate, List.length_take, List.length_drop, List.length_map]; omega))) ?_
            refine aw_take 4 (fun w h => Cl.sel (by exact .take 0 rfl (.nil _)) w h) rfl (by kernel_rfl) (by kernel_rfl) (by kernel_rfl) (by kernel_rfl) (by kernel_rfl) (by kernel_rfl) rfl rfl rfl (q_loadEl rfl rfl rfl (by exact fun w hw => rd_own hw (by exact .head _)) (by intro hc; (simp only [List.length_set, List.length_append, List.length_cons, List.length_nil, List.length_replicate, List.length_take, List.length_drop, List.length_map]; omega))) ?_
            refine aw_pure 7 rfl (by kernel_rfl) (by kernel_rfl) (by kernel_rfl) (by kernel_rfl) (by kernel_rfl) rfl rfl rfl (q_shl1 (k := (nth (nth ls i) j).toNat) rfl rfl rfl (by omega)) ?_
            refine aw_pure 8 rfl (by kernel_rfl) (by kernel_rfl) (by kernel_rfl) (by kernel_rfl) (by kernel_rfl) rfl rfl rfl (q_orK (a := maskTo (nth ls i) j) (b := 2 ^ (nth (nth ls i) j).toNat) rfl rfl rfl (fun _ => by omega)) ?_
            refine aw_take 9 (fun w h => Cl.sel (by exact .take 0 rfl (.nil _)) w h) rfl (by kernel_rfl) (by kernel_rfl) (by kernel_rfl) (by kernel_rfl) (by kernel_rfl) (by kernel_rfl) rfl rfl rfl (q_indexN rfl rfl rfl (by exact fun w hw => rd_own hw (by exact .head _)) (by intro hc; (simp only [List.length_set, List.length_append, List.length_cons, List.length_nil, List.length_replicate, List.length_take, List.length_drop, List.length_map]; omega))) ?_
            refine aw_one0 10 (by kernel_rfl) rfl rfl rfl (e_storeEl1 (i := 0) rfl rfl rfl rfl rfl (by (simp only [List.length_set, List.length_append, List.length_cons, List.length_nil, List.length_replicate, List.length_take, List.length_drop, List.length_map]; omega))) (by intro hb; (exact absurd hb (by decide))) ?_
            refine aw_end (by kernel_rfl) ?_
            refine post_blk (post_then (cw_region ?_))
            refine sr rfl rfl rfl ((q_add rfl rfl rfl (by intro hc; omega))) ?_
            refine sr rfl rfl rfl ((q_move rfl rfl)) (sw_nil ?_)
            refine post_next (j + 1) (by exact .cons rfl (.cons rfl (.cons rfl (.cons rfl (.cons rfl (.cons rfl (.cons rfl (.cons rfl (.cons rfl .nil))))))))) (fun w3 hw3 => ?_) (by omega) (by omega)
            rw [ws_pos hn0]
            exact hw3
          · skip
            have hj' : j = (nth ls i).length := by simp only [decide_eq_false_iff_not] at h3; omega
            subst hj'
            refine cw_exit (post_then_x (post_then_x (post_blk_eq (post_then (cw_region (sr rfl rfl rfl ((q_move rfl rfl)) (sr rfl rfl rfl ((q_move rfl rfl)) (sr rfl rfl rfl ((q_nilCheck rfl rfl)) (sr rfl rfl rfl ((q_fieldAddr rfl rfl)) ?_)))))))))
            refine sr rfl rfl rfl ((q_loadC rfl rfl (by exact .tail _ (.tail _ (.head _))) rfl)) ?_
            refine sr rfl rfl rfl ((q_move rfl rfl)) ?_
            refine sw_x rfl rfl rfl (e_build1 (α := SlV) rfl rfl rfl rfl) (fun s86 => ?_)
            refine sw_x rfl rfl rfl (e_append (i := 4) rfl (.cons rfl inferInstance (.cons rfl inferInstance (.nil))) rfl rfl (by exact fun w hw => rd_own hw (by exact .head _)) (by simp only [List.length_set, List.length_append, List.length_cons, List.length_nil, List.length_replicate, List.length_take, List.length_drop, List.length_map]; omega) rfl) (fun s87 => ?_)
            refine sr rfl rfl rfl ((q_nilCheck rfl rfl)) (sr rfl rfl rfl ((q_fieldAddr rfl rfl)) (sw_eff0 rfl rfl (e_store (i := 3) rfl rfl rfl rfl rfl rfl rfl rfl) (sw_nil (post_blk (post_then (cw_region ?_))))))
            refine sr rfl rfl rfl ((q_add rfl rfl rfl (by intro hc; omega))) ?_
            refine sr rfl rfl rfl ((q_move rfl rfl)) (sw_nil ?_)
            refine post_next ⟨i + 1, s87, G ++ [(s62, mask (nth ls i))]⟩ (by exact .cons rfl (.cons rfl (.cons rfl (.cons rfl (.cons rfl .nil))))) (fun w3 hw3 => ?_) ⟨by simp only; omega, ?_⟩ (by simp only; omega)
            · have h5 : Cl w [] (ownL 156 s62.v (ws x (mask (nth ls i))) :: blk b3 [.int .i64 x] 3 :: blk b36 [.int .i64 x, s87.v, s34.v] 117 :: ownL 115 s87.v (G.map (·.1) ++ [s62]) :: ownL 156 s34.v (ws x (fullN x)) :: G.map (rowU x)) w3 := hw3.tail
              simp only [List.map_append, List.map_cons, List.map_nil]
              exact h5.perm (List.perm_append_singleton _ (blk b3 [.int .i64 x] 3 :: blk b36 [.int .i64 x, s87.v, s34.v] 117 :: ownL 115 s87.v (G.map (·.1) ++ [s62]) :: ownL 156 s34.v (ws x (fullN x)) :: G.map (rowU x))).symm
            · simp only [List.map_append, List.map_cons, List.map_nil]
              rw [hG, List.take_succ_eq_append_getElem hi', List.map_append, ← nth_get hi']
              rfl
        · skip
          have hi' : i = ls.length := by simp only [decide_eq_false_iff_not] at h2; omega
          subst hi'
          refine cw_exit (post_then_x (post_then_x (post_blk_eq (post_then (cw_seq (cw_region (sr rfl rfl rfl ((q_move rfl rfl)) (sr rfl rfl rfl ((q_assign rfl rfl)) (sr rfl rfl rfl ((q_assign rfl rfl)) (sw_nil (post_then (cw_ret (post_ret2 rfl (resOk_tmp rfl) (resOk_tmp rfl) ?_)))))))))))))
          refine fun w' hw => ⟨((⟨b36, x, ss, G.map Prod.fst, s34, G.map Prod.snd⟩ : CV), G), rfl, ⟨rfl, rfl, rfl, ?_⟩, hw.tail⟩
          rw [hG, List.take_length]
end Go.Proofs.YtomjbfeafodfbaaGreat

set_option autoImplicit false
set_option maxRecDepth 100000
namespace Go.Proofs.YtomjbfeafodfbaaGreat
open Go.Sx
open Enc (enc val)
def msOf (ls : List (List Int)) : List Nat := ls.map mask
def greedyE (n : Int) (ls : List (List Int)) : Int := if covE n ls 1000 ≠ 0 then covE n ls 1000 else if possN n.toNat (msOf ls) then 0 else 5
theorem greedy_bad (n : Int) (hn : -9223372036854775808 ≤ n) (sv : SlV) (vs : List SlV) (ls : List (List Int)) (w : World) (hm : Stb w [] (fun w' => Mt w' sv.v vs ls)) (hE : covE n ls 1000 ≠ 0) :
    Calls Tryz.prog 42 #[.int .i64 n, sv.v] w fun e w' => e = .returned (.tuple #[.slice none 0 0, .int .i64 (covE n ls 1000)]) ∧ Cl w [] [] w' := by
  refine calls_cw (vs := [_, _]) Tryz.func42 rfl Tryz.ntmps42 rfl (Cl.start0 w) (cw_seq (cw_region (sr rfl rfl rfl ((q_assign rfl rfl)) (sr rfl rfl rfl ((q_assign rfl rfl)) (sw_nil (post_then (cw_seq (cw_region (sr rfl rfl rfl ((q_move rfl rfl)) (sr rfl rfl rfl ((q_move rfl rfl)) (sw_step rfl rfl rfl (q_call (CanCall.mk Tryz.call75) rfl (.cons rfl inferInstance (.cons rfl inferInstance (.cons rfl inferInstance (.nil)))) (fun _ w hw => callq hw (covering_no n hn sv vs ls 1000 w (stb_arg hw hm) hE))) (sr rfl rfl rfl ((q_move rfl rfl)) (sr rfl rfl rfl ((q_extract rfl rfl rfl)) (sr rfl rfl rfl ((q_extract rfl rfl rfl)) (sr rfl rfl rfl ((q_assign rfl rfl)) (sr rfl rfl rfl ((q_assign rfl rfl)) (sw_nil (post_then (cw_seq (cw_seq (cw_region (sr rfl rfl rfl ((q_move rfl rfl)) (sr rfl rfl rfl ((q_neq rfl rfl rfl)) (sw_nil (post_then ?_)))))))))))))))))))))))))
  refine cw_cond rfl (fun h => ?_) (fun h => ?_)
  · skip
    refine cw_seq (cw_region (sr rfl rfl rfl ((q_move rfl rfl)) (sr rfl rfl rfl ((q_assign rfl rfl)) (sr rfl rfl rfl ((q_assign rfl rfl)) (sw_nil (post_then (cw_ret (post_then_r (post_ret2 rfl (resOk_tmp rfl) (resOk_tmp rfl) ?_)))))))))
    exact fun w' hw => ⟨rfl, hw⟩
  · skip
    exfalso
    simp only [Bool.not_eq_false', decide_eq_true_eq] at h
    exact hE h
theorem greedy_none (n : Nat) (hn : n ≤ 30) (sv : SlV) (vs : List SlV) (ls : List (List Int)) (w : World) (hm : Stb w [] (fun w' => Mt w' sv.v vs ls)) (hE : covE n ls 1000 = 0) (hP : possN n (msOf ls) = false) :
    Calls Tryz.prog 42 #[.int .i64 n, sv.v] w fun e w' => e = .returned (.tuple #[.slice none 0 0, .int .i64 5]) ∧ Cl w [] [] w' := by
  have hl := (covE_ok hE).2.1
  refine calls_cw (vs := [_, _]) Tryz.func42 rfl Tryz.ntmps42 rfl (Cl.start0 w) (cw_seq (cw_region (sr rfl rfl rfl ((q_assign rfl rfl)) (sr rfl rfl rfl ((q_assign rfl rfl)) (sw_nil (post_then (cw_seq (cw_region (sr rfl rfl rfl ((q_move rfl rfl)) (sr rfl rfl rfl ((q_move rfl rfl)) ?_))))))))))
  refine sw_x rfl rfl rfl (e_call (CanCall.mk Tryz.call75) rfl (.cons rfl inferInstance (.cons rfl inferInstance (.cons rfl inferInstance (.nil)))) (fun w hw => covering_yes n hn sv vs ls 1000 w (stb_arg hw hm) (by omega) hE)) (fun y => ?_)
  refine sw_imp fun hg => ?_
  rw [List.append_nil]
  have hok := cgood_ok hg hn hE (by omega)
  have hpe : possN y.1.n y.1.ms = false := by rw [hg.n, hg.ms]; exact hP
  refine sr rfl rfl rfl ((q_move rfl rfl)) (sr rfl rfl rfl ((q_extract rfl rfl rfl)) (sr rfl rfl rfl ((q_extract rfl rfl rfl)) (sr rfl rfl rfl ((q_assign rfl rfl)) (sr rfl rfl rfl ((q_assign rfl rfl)) (sw_nil (post_then (cw_seq (cw_seq (cw_region (sr rfl rfl rfl ((q_move rfl rfl)) (sr rfl rfl rfl ((q_neq rfl rfl rfl)) (sw_nil (post_then ?_)))))))))))))
  refine cw_cond rfl (fun h => ?_) (fun h => ?_)
  · skip
    cases h
  · skip
    refine cw_skip (post_then (cw_seq (cw_seq (cw_region (sr rfl rfl rfl ((q_move rfl rfl)) (sw_step rfl rfl rfl (q_call (CanCall.mk Tryz.call77) rfl (.cons rfl inferInstance (.nil)) (fun _ w hw => callq hw (covers_spec y.1 hok w (cv_rd hg hw.split0.2.1 (fun A hA => hA))))) (sr rfl rfl rfl ((q_not rfl rfl)) (sw_nil (post_then ?_)))))))))
    refine cw_cond rfl (fun h2 => ?_) (fun h2 => ?_)
    · skip
      refine cw_seq (cw_region (sr rfl rfl rfl ((q_assign rfl rfl)) (sr rfl rfl rfl ((q_assign rfl rfl)) (sw_nil (post_then (cw_ret (post_then_r (post_ret2 rfl (resOk_tmp rfl) (resOk_tmp rfl) ?_))))))))
      exact fun w' hw => ⟨rfl, (fun w h => Cl.sel (by exact .nil _) w h) _ hw⟩
    · skip
      exfalso
      rw [hpe] at h2
      cases h2
theorem greedy_yes (n : Nat) (hn : n ≤ 30) (sv : SlV) (vs : List SlV) (ls : List (List Int)) (h8 : ls.length ≤ 8) (w : World) (hm : Stb w [] (fun w' => Mt w' sv.v vs ls)) (hE : covE n ls 1000 = 0) (hP : possN n (msOf ls) = true) :
    Calls Tryz.prog 42 #[.int .i64 n, sv.v] w fun e w' => ∃ y : SlV × (List Int × Nat), e = .returned (.tuple #[y.1.v, .int .i64 0]) ∧ GDone n (msOf ls) y.2.2 y.2.1 ∧ Cl w [] [ownL 3 y.1.v y.2.1] w' := by
  have hl := (covE_ok hE).2.1
  refine calls_cw (vs := [_, _]) Tryz.func42 rfl Tryz.ntmps42 rfl (Cl.start0 w) (cw_seq (cw_region (sr rfl rfl rfl ((q_assign rfl rfl)) (sr rfl rfl rfl ((q_assign rfl rfl)) (sw_nil (post_then (cw_seq (cw_region (sr rfl rfl rfl ((q_move rfl rfl)) (sr rfl rfl rfl ((q_move rfl rfl)) ?_))))))))))
  refine sw_x rfl rfl rfl (e_call (CanCall.mk Tryz.call75) rfl (.cons rfl inferInstance (.cons rfl inferInstance (.cons rfl inferInstance (.nil)))) (fun w hw => covering_yes n hn sv vs ls 1000 w (stb_arg hw hm) (by omega) hE)) (fun y => ?_)
  refine sw_imp fun hg => ?_
  rw [List.append_nil]
  have hok := cgood_ok hg hn hE (by omega)
  have e1 := hg.n
  have e2 : y.1.ms = msOf ls := hg.ms
  have hpe : possN y.1.n y.1.ms = true := by rw [e1, e2]; exact hP
  have h8' : y.1.ms.length ≤ 8 := by rw [e2]; simpa [msOf] using h8
  refine sr rfl rfl rfl ((q_move rfl rfl)) (sr rfl rfl rfl ((q_extract rfl rfl rfl)) (sr rfl rfl rfl ((q_extract rfl rfl rfl)) (sr rfl rfl rfl ((q_assign rfl rfl)) (sr rfl rfl rfl ((q_assign rfl rfl)) (sw_nil (post_then (cw_seq (cw_seq (cw_region (sr rfl rfl rfl ((q_move rfl rfl)) (sr rfl rfl rfl ((q_neq rfl rfl rfl)) (sw_nil (post_then ?_)))))))))))))
  refine cw_cond rfl (fun h => ?_) (fun h => ?_)
  · skip
    cases h
  · skip
    refine cw_skip (post_then (cw_seq (cw_seq (cw_region (sr rfl rfl rfl ((q_move rfl rfl)) (sw_step rfl rfl rfl (q_call (CanCall.mk Tryz.call77) rfl (.cons rfl inferInstance (.nil)) (fun _ w hw => callq hw (covers_spec y.1 hok w (cv_rd hg hw.split0.2.1 (fun A hA => hA))))) (sr rfl rfl rfl ((q_not rfl rfl)) (sw_nil (post_then ?_)))))))))
    refine cw_cond rfl (fun h2 => ?_) (fun h2 => ?_)
    · skip
      exfalso
      rw [hpe] at h2
      cases h2
    · skip
      refine cw_skip (post_then (cw_seq (cw_region (sr rfl rfl rfl ((q_move rfl rfl)) ?_))))
      refine sw_x rfl rfl rfl (e_call (CanCall.mk Tryz.call78) rfl (.cons rfl inferInstance (.nil)) (fun w hw => greedy_spec y.1 hok h8' hpe w (cv_rd hg hw.split0.2.1 (fun A hA => hA)))) (fun x24 => ?_)
      refine sw_imp (fun hx24 => ?_)
      refine sr rfl rfl rfl ((q_move rfl rfl)) (sr rfl rfl rfl ((q_extract rfl rfl rfl)) (sr rfl rfl rfl ((q_extract rfl rfl rfl)) (sr rfl rfl rfl ((q_assign rfl rfl)) (sr rfl rfl rfl ((q_assign rfl rfl)) (sw_nil (post_then (cw_seq (cw_region (sr rfl rfl rfl ((q_move rfl rfl)) (sr rfl rfl rfl ((q_assign rfl rfl)) (sr rfl rfl rfl ((q_assign rfl rfl)) (sw_nil (post_then (cw_ret (post_ret2 rfl (resOk_tmp rfl) (resOk_tmp rfl) ?_)))))))))))))))
      rw [e1, e2] at hx24
      exact fun w' hw => ⟨(x24.1.1, x24.2), rfl, hx24, (fun w h => Cl.sel (by exact .take 0 rfl (.nil _)) w h) _ hw⟩
end Go.Proofs.YtomjbfeafodfbaaGreat

set_option autoImplicit false
set_option maxRecDepth 100000
namespace Go.Proofs.YtomjbfeafodfbaaGreat
open Go.Sx
open Enc (enc val)
theorem price_bad (n : Int) (hn : -9223372036854775808 ≤ n) (sv : SlV) (vs : List SlV) (ls : List (List Int)) (w : World) (hm : Stb w [] (fun w' => Mt w' sv.v vs ls)) (hE : covE n ls 1000 ≠ 0) :
    Calls Tryz.prog 34 #[.int .i64 n, sv.v] w fun e w' => e = .returned (.tuple #[.slice none 0 0, .int .i64 0, .int .i64 (covE n ls 1000)]) ∧ Cl w [] [] w' := by
  refine calls_cw (vs := [_, _]) Tryz.func34 rfl Tryz.ntmps34 rfl (Cl.start0 w) (cw_seq (cw_region (sr rfl rfl rfl ((q_assign rfl rfl)) (sr rfl rfl rfl ((q_assign rfl rfl)) (sr rfl rfl rfl ((q_assign rfl rfl)) (sw_nil (post_then (cw_seq (cw_region (sr rfl rfl rfl ((q_move rfl rfl)) (sr rfl rfl rfl ((q_move rfl rfl)) (sw_step rfl rfl rfl (q_call (CanCall.mk Tryz.call75) rfl (.cons rfl inferInstance (.cons rfl inferInstance (.cons rfl inferInstance (.nil)))) (fun _ w hw => callq hw (covering_no n hn sv vs ls 1000 w (stb_arg hw hm) hE))) (sr rfl rfl rfl ((q_move rfl rfl)) (sr rfl rfl rfl ((q_extract rfl rfl rfl)) (sr rfl rfl rfl ((q_extract rfl rfl rfl)) (sr rfl rfl rfl ((q_assign rfl rfl)) (sr rfl rfl rfl ((q_assign rfl rfl)) (sw_nil (post_then (cw_seq (cw_seq (cw_region (sr rfl rfl rfl ((q_move rfl rfl)) (sr rfl rfl rfl ((q_neq rfl rfl rfl)) (sw_nil (post_then ?_))))))))))))))))))))))))))
  refine cw_cond rfl (fun h => ?_) (fun h => ?_)
  · skip
    refine cw_seq (cw_region (sr rfl rfl rfl ((q_move rfl rfl)) (sr rfl rfl rfl ((q_assign rfl rfl)) (sr rfl rfl rfl ((q_assign rfl rfl)) (sr rfl rfl rfl ((q_assign rfl rfl)) (sw_nil (post_then (cw_ret (post_then_r (post_ret3 rfl (resOk_tmp rfl) (resOk_tmp rfl) (resOk_tmp rfl) ?_))))))))))
    exact fun w' hw => ⟨rfl, hw⟩
  · skip
    exfalso
    simp only [Bool.not_eq_false', decide_eq_true_eq] at h
    exact hE h
theorem CV.Ok.none {c : CV} (h : c.Ok) (k : Nat) : c.n = 0 → nth c.ms k = 0 := fun e => by
  have := lt_of_bits (m := nth c.ms k) (n := 0) (by omega) (fun j hj => by have := msOk_nth h.m k j hj; omega)
  apply Nat.eq_of_testBit_eq
  intro i
  rw [Nat.zero_testBit]
  cases hb : (nth c.ms k).testBit i with
  | false => rfl
  | true => have := msOk_nth h.m k i hb; omega
theorem price_wide (n : Nat) (hn : n ≤ 30) (sv : SlV) (vs : List SlV) (ls : List (List Int)) (w : World) (hm : Stb w [] (fun w' => Mt w' sv.v vs ls)) (hE : covE n ls 1000 = 0) (h12 : 12 < wid (msOf ls)) :
    Calls Tryz.prog 34 #[.int .i64 n, sv.v] w fun e w' => e = .returned (.tuple #[.slice none 0 0, .int .i64 0, .int .i64 2]) ∧ Cl w [] [] w' := by
  have hl := (covE_ok hE).2.1
  refine calls_cw (vs := [_, _]) Tryz.func34 rfl Tryz.ntmps34 rfl (Cl.start0 w) (cw_seq (cw_region (sr rfl rfl rfl ((q_assign rfl rfl)) (sr rfl rfl rfl ((q_assign rfl rfl)) (sr rfl rfl rfl ((q_assign rfl rfl)) (sw_nil (post_then (cw_seq (cw_region (sr rfl rfl rfl ((q_move rfl rfl)) (sr rfl rfl rfl ((q_move rfl rfl)) ?_)))))))))))
  refine sw_x rfl rfl rfl (e_call (CanCall.mk Tryz.call75) rfl (.cons rfl inferInstance (.cons rfl inferInstance (.cons rfl inferInstance (.nil)))) (fun w hw => covering_yes n hn sv vs ls 1000 w (stb_arg hw hm) (by omega) hE)) (fun y => ?_)
  refine sw_imp fun hg => ?_
  rw [List.append_nil]
  have hok := cgood_ok hg hn hE (by omega)
  have e1 := hg.n
  have e2 : y.1.ms = msOf ls := hg.ms
  have hml : y.1.ms.length ≤ 1000 := hok.l
  have hrd : ∀ {w1 : World}, Cl w [] (CV.F y) w1 → Stb w1 [] y.1.Rd := fun hw => cv_rd hg hw.split0.2.1 (fun A hA => hA)
  refine sr rfl rfl rfl ((q_move rfl rfl)) (sr rfl rfl rfl ((q_extract rfl rfl rfl)) (sr rfl rfl rfl ((q_extract rfl rfl rfl)) (sr rfl rfl rfl ((q_assign rfl rfl)) (sr rfl rfl rfl ((q_assign rfl rfl)) (sw_nil (post_then (cw_seq (cw_seq (cw_region (sr rfl rfl rfl ((q_move rfl rfl)) (sr rfl rfl rfl ((q_neq rfl rfl rfl)) (sw_nil (post_then ?_)))))))))))))
  refine cw_cond rfl (fun h => ?_) (fun h => ?_)
  · skip
    cases h
  · skip
    clear h
    refine cw_c (C' := fun w1 => (y.1.ls.length = y.1.ms.length) ∧ Cl w [] (CV.F y) w1) (fun w1 hw => ⟨(hrd hw).here.ll, hw⟩) (cw_imp fun hll => (cw_skip (post_then (cw_seq (cw_region (sr rfl rfl rfl ((q_assign rfl rfl)) (sw_nil (post_then (cw_seq (cw_seq (cw_region (sr rfl rfl rfl ((q_move rfl rfl)) (sr rfl rfl rfl ((q_nilCheck rfl rfl)) (sr rfl rfl rfl ((q_fieldAddr rfl rfl)) ?_))))))))))))))
    refine sr rfl rfl rfl ((q_loadC rfl rfl (by exact .head _) rfl)) ?_
    refine sr rfl rfl rfl ((q_len rfl (.cons rfl inferInstance (.nil)) (by exact fun w hw => rd_own hw (by exact .tail _ (.head _))))) ?_
    refine sr rfl rfl rfl ((q_move rfl rfl)) (sw_nil (post_then (cw_block ?_)))
    refine cw_loop (S := Nat) (fun k => [(0, [], .int .i64 n), (7, [], .pointer (some ⟨y.1.bc, 0, none⟩)), (9, [], .int .i64 (widTo y.1.ms k)), (31, [], y.1.ss.v), (32, [], .int .i64 y.1.ms.length), (33, [], .int .i64 k)]) (fun k => Cl w [] (CV.F y)) (fun k => k ≤ y.1.ms.length) (fun k => y.1.ms.length - k) 0 (Nat.zero_le _) ?_ (fun _ h => h) ?_
    · exact Le.cons rfl (Le.cons rfl (Le.cons rfl (Le.cons rfl (Le.cons' rfl (by rw [hll]) (Le.cons rfl Le.nil)))))
    intro k hk
    refine cw_seq (cw_region (sr rfl rfl rfl ((q_lss rfl rfl rfl)) (sw_nil (post_then (cw_seq ?_)))))
    refine cw_cond rfl (fun h2 => ?_) (fun h2 => ?_)
    · skip
      have hk' : k < y.1.ms.length := by simp only [decide_eq_true_eq] at h2; omega
      have m1 := hok.lt k
      have m3 := hok.none k
      have hwl : (ws y.1.n (fullN y.1.n)).length ≤ 1 := by rw [ws_len]; split <;> omega
      refine cw_skip (post_then (cw_seq (cw_block (cw_seq (cw_region ?_)))))
      refine sr rfl rfl rfl ((q_indexN rfl rfl rfl (by exact fun w hw => rd_own hw (by exact .tail _ (.head _))) (by intro hc; omega))) ?_
      refine sr rfl rfl rfl ((q_loadEl rfl rfl rfl (by exact fun w hw => rd_own hw (by exact .tail _ (.head _))) (by intro hc; omega))) ?_
      refine sr rfl rfl rfl ((q_assign rfl rfl)) (sw_nil (post_then (cw_region (sr rfl rfl rfl ((q_move rfl rfl)) (sr rfl rfl rfl ((q_move rfl rfl)) (sr rfl rfl rfl ((q_move rfl rfl)) (sr rfl rfl rfl ((q_nilCheck rfl rfl)) (sr rfl rfl rfl ((q_fieldAddr rfl rfl)) ?_))))))))
      refine sr rfl rfl rfl ((q_loadC rfl rfl (by exact .head _) rfl)) ?_
      refine sr rfl rfl rfl ((q_len rfl (.cons rfl inferInstance (.nil)) (by exact fun w hw => rd_own hw (by exact .tail _ (.tail _ (.head _)))))) ?_
      refine sw_x rfl rfl rfl (e_make (α := UW) (zero := ⟨0⟩) rfl rfl rfl rfl rfl (by omega) (by omega) (by decide)) (fun s44 => ?_)
      rw [Int.toNat_natCast, ws_zero]
      refine sw_step rfl rfl rfl (q_call (CanCall.mk Tryz.call76) rfl (.cons rfl inferInstance (.cons rfl inferInstance (.nil))) (fun _ w1 hw => callq hw (without_spec _ _ y.1.n (nth y.1.ms k) 0 m1 (by omega) m3 w1 ((rd_stb ((hrd hw.tail).here.mm k hk'))) (by exact stb_own hw (by exact .head _))))) ?_
      refine sr rfl rfl rfl ((q_max rfl (.cons rfl inferInstance (.cons rfl inferInstance (.nil))))) (sr rfl rfl rfl ((q_assign rfl rfl)) (sw_nil (post_blk (post_then (cw_region ?_)))))
      refine sr rfl rfl rfl ((q_add rfl rfl rfl (by intro hc; omega))) ?_
      refine sr rfl rfl rfl ((q_move rfl rfl)) (sw_nil ?_)
      have ewk : ((widTo y.1.ms (k + 1) : Nat) : Int) = max (widTo y.1.ms k : Int) (fr 0 (nth y.1.ms k) : Int) := by simp only [widTo]; omega
      refine post_next (k + 1) ?_ (fun _ h => h.tail) (by omega) (by omega)
      rw [ewk]
      exact (by exact .cons rfl (.cons rfl (.cons rfl (.cons rfl (.cons rfl (.cons rfl .nil))))))
    · skip
      have hk' : k = y.1.ms.length := by simp only [decide_eq_false_iff_not] at h2; omega
      subst hk'
      have ew : widTo y.1.ms y.1.ms.length = wid (msOf ls) := by rw [e2]; rfl
      rw [ew]
      refine cw_exit (post_then_x (post_then_x (post_blk_eq (post_then (cw_seq (cw_seq (cw_region (sr rfl rfl rfl ((q_move rfl rfl)) (sr rfl rfl rfl ((q_gtr rfl rfl rfl)) (sw_nil (post_then ?_)))))))))))
      refine cw_cond rfl (fun h3 => ?_) (fun h3 => ?_)
      · skip
        refine cw_seq (cw_region (sr rfl rfl rfl ((q_assign rfl rfl)) (sr rfl rfl rfl ((q_assign rfl rfl)) (sr rfl rfl rfl ((q_assign rfl rfl)) (sw_nil (post_then (cw_ret (post_then_r (post_ret3 rfl (resOk_tmp rfl) (resOk_tmp rfl) (resOk_tmp rfl) ?_)))))))))
        exact fun w' hw => ⟨rfl, (fun w h => Cl.sel (by exact .nil _) w h) _ hw⟩
      · skip
        simp only [decide_eq_false_iff_not] at h3; omega
theorem price_none (n : Nat) (hn : n ≤ 30) (sv : SlV) (vs : List SlV) (ls : List (List Int)) (w : World) (hm : Stb w [] (fun w' => Mt w' sv.v vs ls)) (hE : covE n ls 1000 = 0) (h12 : wid (msOf ls) ≤ 12) (hP : possN n (msOf ls) = false) :
    Calls Tryz.prog 34 #[.int .i64 n, sv.v] w fun e w' => e = .returned (.tuple #[.slice none 0 0, .int .i64 0, .int .i64 5]) ∧ Cl w [] [] w' := by
  have hl := (covE_ok hE).2.1
  refine calls_cw (vs := [_, _]) Tryz.func34 rfl Tryz.ntmps34 rfl (Cl.start0 w) (cw_seq (cw_region (sr rfl rfl rfl ((q_assign rfl rfl)) (sr rfl rfl rfl ((q_assign rfl rfl)) (sr rfl rfl rfl ((q_assign rfl rfl)) (sw_nil (post_then (cw_seq (cw_region (sr rfl rfl rfl ((q_move rfl rfl)) (sr rfl rfl rfl ((q_move rfl rfl)) ?_)))))))))))
  refine sw_x rfl rfl rfl (e_call (CanCall.mk Tryz.call75) rfl (.cons rfl inferInstance (.cons rfl inferInstance (.cons rfl inferInstance (.nil)))) (fun w hw => covering_yes n hn sv vs ls 1000 w (stb_arg hw hm) (by omega) hE)) (fun y => ?_)
  refine sw_imp fun hg => ?_
  rw [List.append_nil]
  have hok := cgood_ok hg hn hE (by omega)
  have e1 := hg.n
  have e2 : y.1.ms = msOf ls := hg.ms
  have hml : y.1.ms.length ≤ 1000 := hok.l
  have hrd : ∀ {w1 : World}, Cl w [] (CV.F y) w1 → Stb w1 [] y.1.Rd := fun hw => cv_rd hg hw.split0.2.1 (fun A hA => hA)
  refine sr rfl rfl rfl ((q_move rfl rfl)) (sr rfl rfl rfl ((q_extract rfl rfl rfl)) (sr rfl rfl rfl ((q_extract rfl rfl rfl)) (sr rfl rfl rfl ((q_assign rfl rfl)) (sr rfl rfl rfl ((q_assign rfl rfl)) (sw_nil (post_then (cw_seq (cw_seq (cw_region (sr rfl rfl rfl ((q_move rfl rfl)) (sr rfl rfl rfl ((q_neq rfl rfl rfl)) (sw_nil (post_then ?_)))))))))))))
  refine cw_cond rfl (fun h => ?_) (fun h => ?_)
  · skip
    cases h
  · skip
    clear h
    refine cw_c (C' := fun w1 => (y.1.ls.length = y.1.ms.length) ∧ Cl w [] (CV.F y) w1) (fun w1 hw => ⟨(hrd hw).here.ll, hw⟩) (cw_imp fun hll => (cw_skip (post_then (cw_seq (cw_region (sr rfl rfl rfl ((q_assign rfl rfl)) (sw_nil (post_then (cw_seq (cw_seq (cw_region (sr rfl rfl rfl ((q_move rfl rfl)) (sr rfl rfl rfl ((q_nilCheck rfl rfl)) (sr rfl rfl rfl ((q_fieldAddr rfl rfl)) ?_))))))))))))))
    refine sr rfl rfl rfl ((q_loadC rfl rfl (by exact .head _) rfl)) ?_
    refine sr rfl rfl rfl ((q_len rfl (.cons rfl inferInstance (.nil)) (by exact fun w hw => rd_own hw (by exact .tail _ (.head _))))) ?_
    refine sr rfl rfl rfl ((q_move rfl rfl)) (sw_nil (post_then (cw_block ?_)))
    refine cw_loop (S := Nat) (fun k => [(0, [], .int .i64 n), (7, [], .pointer (some ⟨y.1.bc, 0, none⟩)), (9, [], .int .i64 (widTo y.1.ms k)), (31, [], y.1.ss.v), (32, [], .int .i64 y.1.ms.length), (33, [], .int .i64 k)]) (fun k => Cl w [] (CV.F y)) (fun k => k ≤ y.1.ms.length) (fun k => y.1.ms.length - k) 0 (Nat.zero_le _) ?_ (fun _ h => h) ?_
    · exact Le.cons rfl (Le.cons rfl (Le.cons rfl (Le.cons rfl (Le.cons' rfl (by rw [hll]) (Le.cons rfl Le.nil)))))
    intro k hk
    refine cw_seq (cw_region (sr rfl rfl rfl ((q_lss rfl rfl rfl)) (sw_nil (post_then (cw_seq ?_)))))
    refine cw_cond rfl (fun h2 => ?_) (fun h2 => ?_)
    · skip
      have hk' : k < y.1.ms.length := by simp only [decide_eq_true_eq] at h2; omega
      have m1 := hok.lt k
      have m3 := hok.none k
      have hwl : (ws y.1.n (fullN y.1.n)).length ≤ 1 := by rw [ws_len]; split <;> omega
      refine cw_skip (post_then (cw_seq (cw_block (cw_seq (cw_region ?_)))))
      refine sr rfl rfl rfl ((q_indexN rfl rfl rfl (by exact fun w hw => rd_own hw (by exact .tail _ (.head _))) (by intro hc; omega))) ?_
      refine sr rfl rfl rfl ((q_loadEl rfl rfl rfl (by exact fun w hw => rd_own hw (by exact .tail _ (.head _))) (by intro hc; omega))) ?_
      refine sr rfl rfl rfl ((q_assign rfl rfl)) (sw_nil (post_then (cw_region (sr rfl rfl rfl ((q_move rfl rfl)) (sr rfl rfl rfl ((q_move rfl rfl)) (sr rfl rfl rfl ((q_move rfl rfl)) (sr rfl rfl rfl ((q_nilCheck rfl rfl)) (sr rfl rfl rfl ((q_fieldAddr rfl rfl)) ?_))))))))
      refine sr rfl rfl rfl ((q_loadC rfl rfl (by exact .head _) rfl)) ?_
      refine sr rfl rfl rfl ((q_len rfl (.cons rfl inferInstance (.nil)) (by exact fun w hw => rd_own hw (by exact .tail _ (.tail _ (.head _)))))) ?_
      refine sw_x rfl rfl rfl (e_make (α := UW) (zero := ⟨0⟩) rfl rfl rfl rfl rfl (by omega) (by omega) (by decide)) (fun s44 => ?_)
      rw [Int.toNat_natCast, ws_zero]
      refine sw_step rfl rfl rfl (q_call (CanCall.mk Tryz.call76) rfl (.cons rfl inferInstance (.cons rfl inferInstance (.nil))) (fun _ w1 hw => callq hw (without_spec _ _ y.1.n (nth y.1.ms k) 0 m1 (by omega) m3 w1 ((rd_stb ((hrd hw.tail).here.mm k hk'))) (by exact stb_own hw (by exact .head _))))) ?_
      refine sr rfl rfl rfl ((q_max rfl (.cons rfl inferInstance (.cons rfl inferInstance (.nil))))) (sr rfl rfl rfl ((q_assign rfl rfl)) (sw_nil (post_blk (post_then (cw_region ?_)))))
      refine sr rfl rfl rfl ((q_add rfl rfl rfl (by intro hc; omega))) ?_
      refine sr rfl rfl rfl ((q_move rfl rfl)) (sw_nil ?_)
      have ewk : ((widTo y.1.ms (k + 1) : Nat) : Int) = max (widTo y.1.ms k : Int) (fr 0 (nth y.1.ms k) : Int) := by simp only [widTo]; omega
      refine post_next (k + 1) ?_ (fun _ h => h.tail) (by omega) (by omega)
      rw [ewk]
      exact (by exact .cons rfl (.cons rfl (.cons rfl (.cons rfl (.cons rfl (.cons rfl .nil))))))
    · skip
      have hk' : k = y.1.ms.length := by simp only [decide_eq_false_iff_not] at h2; omega
      subst hk'
      have ew : widTo y.1.ms y.1.ms.length = wid (msOf ls) := by rw [e2]; rfl
      rw [ew]
      refine cw_exit (post_then_x (post_then_x (post_blk_eq (post_then (cw_seq (cw_seq (cw_region (sr rfl rfl rfl ((q_move rfl rfl)) (sr rfl rfl rfl ((q_gtr rfl rfl rfl)) (sw_nil (post_then ?_)))))))))))
      refine cw_cond rfl (fun h3 => ?_) (fun h3 => ?_)
      · skip
        simp only [decide_eq_true_eq] at h3; omega
      · skip
        have hpe : possN y.1.n y.1.ms = false := by rw [e1, e2]; exact hP
        refine cw_skip (post_then (cw_seq (cw_seq (cw_region (sr rfl rfl rfl ((q_move rfl rfl)) (sw_step rfl rfl rfl (q_call (CanCall.mk Tryz.call77) rfl (.cons rfl inferInstance (.nil)) (fun _ w hw => callq hw (covers_spec y.1 hok w (hrd hw)))) (sr rfl rfl rfl ((q_not rfl rfl)) (sw_nil (post_then ?_)))))))))
        refine cw_cond rfl (fun h4 => ?_) (fun h4 => ?_)
        · skip
          refine cw_seq (cw_region (sr rfl rfl rfl ((q_assign rfl rfl)) (sr rfl rfl rfl ((q_assign rfl rfl)) (sr rfl rfl rfl ((q_assign rfl rfl)) (sw_nil (post_then (cw_ret (post_then_r (post_ret3 rfl (resOk_tmp rfl) (resOk_tmp rfl) (resOk_tmp rfl) ?_)))))))))
          exact fun w' hw => ⟨rfl, (fun w h => Cl.sel (by exact .nil _) w h) _ hw⟩
        · skip
          exfalso
          rw [hpe] at h4
          cases h4
theorem price_yes (n : Nat) (hn : n ≤ 30) (sv : SlV) (vs : List SlV) (ls : List (List Int)) (w : World) (hm : Stb w [] (fun w' => Mt w' sv.v vs ls)) (hE : covE n ls 1000 = 0) (h8 : ls.length ≤ 8) (h12 : wid (msOf ls) ≤ 12) (hP : possN n (msOf ls) = true) :
    Calls Tryz.prog 34 #[.int .i64 n, sv.v] w fun e w' => ∃ y : SlV × (List Int × (Nat × List Int)), e = .returned (.tuple #[y.1.v, .int .i64 (scaleTo (wid (msOf ls))), .int .i64 0]) ∧ (y.2.1 = (giter n (msOf ls) y.2.2.1).sh.map (fun k => 27720 / k) ∧ GDone n (msOf ls) y.2.2.1 y.2.2.2) ∧ Cl w [] [ownL 3 y.1.v y.2.1] w' := by
  have hl := (covE_ok hE).2.1
  refine calls_cw (vs := [_, _]) Tryz.func34 rfl Tryz.ntmps34 rfl (Cl.start0 w) (cw_seq (cw_region (sr rfl rfl rfl ((q_assign rfl rfl)) (sr rfl rfl rfl ((q_assign rfl rfl)) (sr rfl rfl rfl ((q_assign rfl rfl)) (sw_nil (post_then (cw_seq (cw_region (sr rfl rfl rfl ((q_move rfl rfl)) (sr rfl rfl rfl ((q_move rfl rfl)) ?_)))))))))))
  refine sw_x rfl rfl rfl (e_call (CanCall.mk Tryz.call75) rfl (.cons rfl inferInstance (.cons rfl inferInstance (.cons rfl inferInstance (.nil)))) (fun w hw => covering_yes n hn sv vs ls 1000 w (stb_arg hw hm) (by omega) hE)) (fun y => ?_)
  refine sw_imp fun hg => ?_
  rw [List.append_nil]
  have hok := cgood_ok hg hn hE (by omega)
  have e1 := hg.n
  have e2 : y.1.ms = msOf ls := hg.ms
  have hml : y.1.ms.length ≤ 1000 := hok.l
  have hrd : ∀ {w1 : World}, Cl w [] (CV.F y) w1 → Stb w1 [] y.1.Rd := fun hw => cv_rd hg hw.split0.2.1 (fun A hA => hA)
  refine sr rfl rfl rfl ((q_move rfl rfl)) (sr rfl rfl rfl ((q_extract rfl rfl rfl)) (sr rfl rfl rfl ((q_extract rfl rfl rfl)) (sr rfl rfl rfl ((q_assign rfl rfl)) (sr rfl rfl rfl ((q_assign rfl rfl)) (sw_nil (post_then (cw_seq (cw_seq (cw_region (sr rfl rfl rfl ((q_move rfl rfl)) (sr rfl rfl rfl ((q_neq rfl rfl rfl)) (sw_nil (post_then ?_)))))))))))))
  refine cw_cond rfl (fun h => ?_) (fun h => ?_)
  · skip
    cases h
  · skip
    clear h
    refine cw_c (C' := fun w1 => (y.1.ls.length = y.1.ms.length) ∧ Cl w [] (CV.F y) w1) (fun w1 hw => ⟨(hrd hw).here.ll, hw⟩) (cw_imp fun hll => (cw_skip (post_then (cw_seq (cw_region (sr rfl rfl rfl ((q_assign rfl rfl)) (sw_nil (post_then (cw_seq (cw_seq (cw_region (sr rfl rfl rfl ((q_move rfl rfl)) (sr rfl rfl rfl ((q_nilCheck rfl rfl)) (sr rfl rfl rfl ((q_fieldAddr rfl rfl)) ?_))))))))))))))
    refine sr rfl rfl rfl ((q_loadC rfl rfl (by exact .head _) rfl)) ?_
    refine sr rfl rfl rfl ((q_len rfl (.cons rfl inferInstance (.nil)) (by exact fun w hw => rd_own hw (by exact .tail _ (.head _))))) ?_
    refine sr rfl rfl rfl ((q_move rfl rfl)) (sw_nil (post_then (cw_block ?_)))
    refine cw_loop (S := Nat) (fun k => [(0, [], .int .i64 n), (7, [], .pointer (some ⟨y.1.bc, 0, none⟩)), (9, [], .int .i64 (widTo y.1.ms k)), (31, [], y.1.ss.v), (32, [], .int .i64 y.1.ms.length), (33, [], .int .i64 k)]) (fun k => Cl w [] (CV.F y)) (fun k => k ≤ y.1.ms.length) (fun k => y.1.ms.length - k) 0 (Nat.zero_le _) ?_ (fun _ h => h) ?_
    · exact Le.cons rfl (Le.cons rfl (Le.cons rfl (Le.cons rfl (Le.cons' rfl (by rw [hll]) (Le.cons rfl Le.nil)))))
    intro k hk
    refine cw_seq (cw_region (sr rfl rfl rfl ((q_lss rfl rfl rfl)) (sw_nil (post_then (cw_seq ?_)))))
    refine cw_cond rfl (fun h2 => ?_) (fun h2 => ?_)
    · skip
      have hk' : k < y.1.ms.length := by simp only [decide_eq_true_eq] at h2; omega
      have m1 := hok.lt k
      have m3 := hok.none k
      have hwl : (ws y.1.n (fullN y.1.n)).length ≤ 1 := by rw [ws_len]; split <;> omega
      refine cw_skip (post_then (cw_seq (cw_block (cw_seq (cw_region ?_)))))
      refine sr rfl rfl rfl ((q_indexN rfl rfl rfl (by exact fun w hw => rd_own hw (by exact .tail _ (.head _))) (by intro hc; omega))) ?_
      refine sr rfl rfl rfl ((q_loadEl rfl rfl rfl (by exact fun w hw => rd_own hw (by exact .tail _ (.head _))) (by intro hc; omega))) ?_
      refine sr rfl rfl rfl ((q_assign rfl rfl)) (sw_nil (post_then (cw_region (sr rfl rfl rfl ((q_move rfl rfl)) (sr rfl rfl rfl ((q_move rfl rfl)) (sr rfl rfl rfl ((q_move rfl rfl)) (sr rfl rfl rfl ((q_nilCheck rfl rfl)) (sr rfl rfl rfl ((q_fieldAddr rfl rfl)) ?_))))))))
      refine sr rfl rfl rfl ((q_loadC rfl rfl (by exact .head _) rfl)) ?_
      refine sr rfl rfl rfl ((q_len rfl (.cons rfl inferInstance (.nil)) (by exact fun w hw => rd_own hw (by exact .tail _ (.tail _ (.head _)))))) ?_
      refine sw_x rfl rfl rfl (e_make (α := UW) (zero := ⟨0⟩) rfl rfl rfl rfl rfl (by omega) (by omega) (by decide)) (fun s44 => ?_)
      rw [Int.toNat_natCast, ws_zero]
      refine sw_step rfl rfl rfl (q_call (CanCall.mk Tryz.call76) rfl (.cons rfl inferInstance (.cons rfl inferInstance (.nil))) (fun _ w1 hw => callq hw (without_spec _ _ y.1.n (nth y.1.ms k) 0 m1 (by omega) m3 w1 ((rd_stb ((hrd hw.tail).here.mm k hk'))) (by exact stb_own hw (by exact .head _))))) ?_
      refine sr rfl rfl rfl ((q_max rfl (.cons rfl inferInstance (.cons rfl inferInstance (.nil))))) (sr rfl rfl rfl ((q_assign rfl rfl)) (sw_nil (post_blk (post_then (cw_region ?_)))))
      refine sr rfl rfl rfl ((q_add rfl rfl rfl (by intro hc; omega))) ?_
      refine sr rfl rfl rfl ((q_move rfl rfl)) (sw_nil ?_)
      have ewk : ((widTo y.1.ms (k + 1) : Nat) : Int) = max (widTo y.1.ms k : Int) (fr 0 (nth y.1.ms k) : Int) := by simp only [widTo]; omega
      refine post_next (k + 1) ?_ (fun _ h => h.tail) (by omega) (by omega)
      rw [ewk]
      exact (by exact .cons rfl (.cons rfl (.cons rfl (.cons rfl (.cons rfl (.cons rfl .nil))))))
    · skip
      have hk' : k = y.1.ms.length := by simp only [decide_eq_false_iff_not] at h2; omega
      subst hk'
      have ew : widTo y.1.ms y.1.ms.length = wid (msOf ls) := by rw [e2]; rfl
      rw [ew]
      refine cw_exit (post_then_x (post_then_x (post_blk_eq (post_then (cw_seq (cw_seq (cw_region (sr rfl rfl rfl ((q_move rfl rfl)) (sr rfl rfl rfl ((q_gtr rfl rfl rfl)) (sw_nil (post_then ?_)))))))))))
      refine cw_cond rfl (fun h3 => ?_) (fun h3 => ?_)
      · skip
        simp only [decide_eq_true_eq] at h3; omega
      · skip
        have hpe : possN y.1.n y.1.ms = true := by rw [e1, e2]; exact hP
        have h8' : y.1.ms.length ≤ 8 := by rw [e2]; simpa [msOf] using h8
        refine cw_skip (post_then (cw_seq (cw_seq (cw_region (sr rfl rfl rfl ((q_move rfl rfl)) (sw_step rfl rfl rfl (q_call (CanCall.mk Tryz.call77) rfl (.cons rfl inferInstance (.nil)) (fun _ w hw => callq hw (covers_spec y.1 hok w (hrd hw)))) (sr rfl rfl rfl ((q_not rfl rfl)) (sw_nil (post_then ?_)))))))))
        refine cw_cond rfl (fun h4 => ?_) (fun h4 => ?_)
        · skip
          exfalso
          rw [hpe] at h4
          cases h4
        · skip
          refine cw_skip (post_then (cw_seq (cw_region (sr rfl rfl rfl ((q_move rfl rfl)) ?_))))
          refine sw_x rfl rfl rfl (e_call (CanCall.mk Tryz.call78) rfl (.cons rfl inferInstance (.nil)) (fun w hw => greedy_spec y.1 hok h8' hpe w (hrd hw))) (fun x55 => ?_)
          refine sw_imp (fun hx55 => ?_)
          refine sr rfl rfl rfl ((q_move rfl rfl)) (sr rfl rfl rfl ((q_extract rfl rfl rfl)) (sr rfl rfl rfl ((q_extract rfl rfl rfl)) (sr rfl rfl rfl ((q_assign rfl rfl)) (sr rfl rfl rfl ((q_assign rfl rfl)) (sw_nil (post_then (cw_seq (cw_region (sr rfl rfl rfl ((q_move rfl rfl)) ?_)))))))))
          rw [e1, e2] at hx55
          obtain ⟨⟨so, ss⟩, ⟨out, gk⟩⟩ := x55
          dsimp only at hx55 ⊢
          rw [e1, e2]
          have hshl := giter_sh n (msOf ls) gk
          have hshp : ∀ j, j < n → 1 ≤ nth (giter n (msOf ls) gk).sh j ∧ nth (giter n (msOf ls) gk).sh j ≤ 32 := fun j hj => giter_share hx55.ok j hj (fr_zero.1 hx55.full j (by omega) (by rw [fullN_bit]; simpa using hj))
          generalize hsh : (giter n (msOf ls) gk).sh = sh at *
          refine sw_x rfl rfl rfl (e_make (α := Int) (zero := 0) rfl rfl rfl rfl rfl (by omega) (by omega) (by decide)) (fun s59 => ?_)
          refine sr rfl rfl rfl ((q_assign rfl rfl)) (sr rfl rfl rfl ((q_assign rfl rfl)) (sw_nil (post_then (cw_seq (cw_seq (cw_region (sr rfl rfl rfl ((q_move rfl rfl)) ?_)))))))
          refine sr rfl rfl rfl ((q_len rfl (.cons rfl inferInstance (.nil)) (by exact fun w hw => rd_own hw (by exact .tail _ (.tail _ (.head _)))))) ?_
          refine sr rfl rfl rfl ((q_move rfl rfl)) (sw_nil (post_then (cw_block ?_)))
          refine cw_loop (S := Nat × List Int) (fun z => [(9, [], .int .i64 (wid (msOf ls))), (14, [], s59.v), (15, [], .int .i64 0), (60, [], ss.v), (61, [], .int .i64 n), (62, [], .int .i64 z.1)]) (fun z => Cl w [] (ownL 3 s59.v z.2 :: ownL 3 so.v out :: ownL 3 ss.v sh :: CV.F y)) (fun z => z.1 ≤ n ∧ z.2.length = n ∧ ∀ j, j < z.1 → nth z.2 j = 27720 / nth sh j) (fun z => n - z.1) (0, List.replicate n 0) ⟨Nat.zero_le _, by simp, fun j hj => by simp only at hj; omega⟩ ?_ ?_ ?_
          · exact Le.cons rfl (Le.cons rfl (Le.cons rfl (Le.cons rfl (Le.cons' rfl (by rw [hshl]) (Le.cons rfl Le.nil)))))
          · intro w3 hw3
            rw [Int.toNat_natCast] at hw3
            exact hw3
          rintro ⟨k, pl⟩ ⟨hk, hpl, hpv⟩
          dsimp only at hk hpl hpv ⊢
          refine cw_seq (cw_region (sr rfl rfl rfl ((q_lss rfl rfl rfl)) (sw_nil (post_then (cw_seq ?_)))))
          refine cw_cond rfl (fun h5 => ?_) (fun h5 => ?_)
          · skip
            have hk' : k < n := by simp only [decide_eq_true_eq] at h5; omega
            have hp1 := hshp k hk'
            refine cw_skip (post_then (cw_seq (cw_block (cw_seq (cw_region (sr rfl rfl rfl ((q_move rfl rfl)) ?_))))))
            refine sr rfl rfl rfl ((q_indexN rfl rfl rfl (by exact fun w hw => rd_own hw (by exact .tail _ (.tail _ (.head _)))) (by intro hc; omega))) ?_
            refine sr rfl rfl rfl ((q_loadEl rfl rfl rfl (by exact fun w hw => rd_own hw (by exact .tail _ (.tail _ (.head _)))) (by intro hc; omega))) ?_
            refine sr rfl rfl rfl ((q_assign rfl rfl)) (sr rfl rfl rfl ((q_assign rfl rfl)) (sw_nil (post_then (cw_region (sr rfl rfl rfl ((q_move rfl rfl)) (sr rfl rfl rfl ((q_move rfl rfl)) (sr rfl rfl rfl ((q_move rfl rfl)) ?_)))))))
            refine sr rfl rfl rfl ((q_quo rfl rfl rfl (by intro hc; omega))) ?_
            refine sr rfl rfl rfl ((q_indexN rfl rfl rfl (by exact fun w hw => rd_own hw (by exact .head _)) (by intro hc; omega))) ?_
            refine sw_eff0 rfl rfl (e_storeEl1 (i := 0) rfl rfl rfl rfl rfl (by omega)) ?_
            refine sw_nil (post_blk (post_then (cw_region ?_)))
            refine sr rfl rfl rfl ((q_add rfl rfl rfl (by intro hc; omega))) ?_
            refine sr rfl rfl rfl ((q_move rfl rfl)) (sw_nil ?_)
            refine post_next (k + 1, pl.set k (27720 / nth sh k)) (by exact .cons rfl (.cons rfl (.cons rfl (.cons rfl (.cons rfl (.cons rfl .nil)))))) (fun w3 hw3 => ?_) ⟨by simp only; omega, by simp [hpl], fun j hj => ?_⟩ (by simp only; omega)
            · exact hw3
            · simp only at hj ⊢
              rw [nth_setP _ _ _ _ (by omega)]
              by_cases e : j = k
              · rw [if_pos e, e]
              · rw [if_neg e]; exact hpv j (by omega)
          · skip
            have hk' : k = n := by simp only [decide_eq_false_iff_not] at h5; omega
            subst hk'
            have hple : pl = sh.map (fun k => 27720 / k) := by
              apply List.ext_getElem
              · simp [hpl, hshl]
              · intro i h6 h7
                have := hpv i (by omega)
                rw [nth_get h6, nth_get (by omega)] at this
                rw [this]; simp
            have hwb := widTo_bd (msOf ls) (msOf ls).length
            have hwb2 : wid (msOf ls) ≤ 32 := hwb.2
            refine cw_exit (post_then_x (post_then_x (post_blk_eq (post_then (cw_seq (cw_seq (cw_region (sr rfl rfl rfl ((q_move rfl rfl)) (sr rfl rfl rfl ((q_move rfl rfl)) (sw_nil (post_then (cw_block ?_))))))))))))
            refine cw_loop (S := Nat) (fun j => [(14, [], s59.v), (15, [], .int .i64 (scaleTo j)), (73, [], .int .i64 (wid (msOf ls))), (74, [], .int .i64 j)]) (fun j => Cl w [] (ownL 3 s59.v pl :: ownL 3 so.v out :: ownL 3 ss.v sh :: CV.F y)) (fun j => j ≤ wid (msOf ls)) (fun j => wid (msOf ls) - j) 0 (Nat.zero_le _) (by exact .cons rfl (.cons rfl (.cons rfl (.cons rfl .nil)))) (fun _ h => h) ?_
            intro j hj
            have hsb := scaleTo_bd j
            have hq1 : (0 : Int) ≤ 27720 / ((j : Int) + 1) := Int.ediv_nonneg (by decide) (by omega)
            have hq2 : (27720 : Int) / ((j : Int) + 1) ≤ 27720 := Int.ediv_le_self _ (by decide)
            refine cw_seq (cw_region (sr rfl rfl rfl ((q_lss rfl rfl rfl)) (sw_nil (post_then (cw_seq ?_)))))
            refine cw_cond rfl (fun h6 => ?_) (fun h6 => ?_)
            · skip
              refine cw_skip (post_then (cw_seq (cw_block (cw_seq (cw_region (sr rfl rfl rfl ((q_move rfl rfl)) (sr rfl rfl rfl ((q_assign rfl rfl)) (sw_nil (post_then (cw_region (sr rfl rfl rfl ((q_move rfl rfl)) (sr rfl rfl rfl ((q_move rfl rfl)) ?_))))))))))))
              refine sr rfl rfl rfl ((q_add rfl rfl rfl (by intro hc; omega))) ?_
              refine sr rfl rfl rfl ((q_quo rfl rfl rfl (by intro hc; omega))) ?_
              refine sr rfl rfl rfl ((q_add rfl rfl rfl (by intro hc; omega))) ?_
              refine sr rfl rfl rfl ((q_assign rfl rfl)) (sw_nil (post_blk (post_then (cw_region ?_))))
              refine sr rfl rfl rfl ((q_add rfl rfl rfl (by intro hc; omega))) ?_
              refine sr rfl rfl rfl ((q_move rfl rfl)) (sw_nil ?_)
              exact post_next (j + 1) (by exact .cons rfl (.cons rfl (.cons rfl (.cons rfl .nil)))) (fun _ h => h) (by simp only [decide_eq_true_eq] at h6; omega) (by simp only [decide_eq_true_eq] at h6; omega)
            · skip
              have hj' : j = wid (msOf ls) := by simp only [decide_eq_false_iff_not] at h6; omega
              subst hj'
              refine cw_exit (post_then_x (post_then_x (post_blk_eq (post_then (cw_seq (cw_region (sr rfl rfl rfl ((q_move rfl rfl)) (sr rfl rfl rfl ((q_move rfl rfl)) (sr rfl rfl rfl ((q_assign rfl rfl)) (sr rfl rfl rfl ((q_assign rfl rfl)) (sr rfl rfl rfl ((q_assign rfl rfl)) (sw_nil (post_then (cw_ret (post_ret3 rfl (resOk_tmp rfl) (resOk_tmp rfl) (resOk_tmp rfl) ?_)))))))))))))))
              exact fun w' hw => ⟨(s59, (pl, (gk, out))), rfl, ⟨by rw [hsh]; exact hple, hx55⟩, (fun w h => Cl.sel (by exact .take 0 rfl (.nil _)) w h) _ hw⟩
end Go.Proofs.YtomjbfeafodfbaaGreat

set_option autoImplicit false
set_option maxRecDepth 100000
namespace Go.Proofs.YtomjbfeafodfbaaGreat
open Go.Sx
open Enc (enc val)
def prcB (n : Nat) (prices : List Int) (scale : Int) : Bool := decide (prices.length = n) && inB scale 1 1000000000000 && prices.all fun p => inB p 0 1000000000
def provB (n : Nat) (ms : List Nat) (prices : List Int) (scale : Int) : Bool := prcB n prices scale && ms.all fun m => decide (psum prices m n ≤ scale)
def provV (n : Nat) (ms : List Nat) (prices : List Int) (scale : Int) : Int := if provB n ms prices scale then (sumTo prices n + scale - 1) / scale else 0
theorem pr1_spec (xs : List Int) : PredL Tryz.prog 82 #[] (fun x : Int => !inB x 0 1000000000) (fun _ => True) xs := fun x _ w _ => by
    refine calls_cw (vs := [_]) Tryz.func82 rfl Tryz.ntmps82 rfl (Cl.start0 w) (cw_seq (cw_region (sr rfl rfl rfl ((q_assign rfl rfl)) (sw_nil (post_then (cw_seq (cw_region (sr rfl rfl rfl ((q_move rfl rfl)) (sw_step rfl rfl rfl (q_call (CanCall.mk Tryz.call70) rfl (.cons rfl inferInstance (.cons rfl inferInstance (.cons rfl inferInstance (.nil)))) (fun _ w hw => callq hw (within_spec _ _ _ w))) (sr rfl rfl rfl ((q_not rfl rfl)) (sr rfl rfl rfl ((q_assign rfl rfl)) (sw_nil (post_then (cw_ret (post_ret1 rfl (resOk_tmp rfl) ?_)))))))))))))))
    exact fun w' hw => ⟨rfl, hw⟩
theorem proves_bad (n : Int) (hn : -9223372036854775808 ≤ n) (sv : SlV) (vs : List SlV) (ls : List (List Int)) (sp : SlV) (prices : List Int) (scale : Int) (w : World) (hm : Stb w [] (fun w' => Mt w' sv.v vs ls)) (hp : Stb w [] (RdL sp.v prices)) (hE : covE n ls 1000 ≠ 0) :
    Calls Tryz.prog 39 #[.int .i64 n, sv.v, sp.v, .int .i64 scale] w fun e w' => e = .returned (.tuple #[.int .i64 0, .bool false]) ∧ Cl w [] [] w' := by
  have hL := rd_len hp.here
  refine calls_cw (vs := [_, _, _, _]) Tryz.func39 rfl Tryz.ntmps39 rfl (Cl.start0 w) (cw_seq (cw_region (sr rfl rfl rfl ((q_assign rfl rfl)) (sr rfl rfl rfl ((q_assign rfl rfl)) (sw_nil (post_then (cw_seq (cw_region (sr rfl rfl rfl ((q_move rfl rfl)) (sr rfl rfl rfl ((q_move rfl rfl)) (sw_step rfl rfl rfl (q_call (CanCall.mk Tryz.call75) rfl (.cons rfl inferInstance (.cons rfl inferInstance (.cons rfl inferInstance (.nil)))) (fun _ w hw => callq hw (covering_no n hn sv vs ls 1000 w (stb_arg hw hm) hE))) (sr rfl rfl rfl ((q_move rfl rfl)) (sr rfl rfl rfl ((q_extract rfl rfl rfl)) (sr rfl rfl rfl ((q_extract rfl rfl rfl)) (sr rfl rfl rfl ((q_assign rfl rfl)) (sr rfl rfl rfl ((q_assign rfl rfl)) (sw_nil (post_then (cw_seq (cw_seq (cw_region (sr rfl rfl rfl ((q_move rfl rfl)) (sr rfl rfl rfl ((q_neq rfl rfl rfl)) (sr rfl rfl rfl ((q_move rfl rfl)) (sr rfl rfl rfl ((q_move rfl rfl)) ?_)))))))))))))))))))))))))
  refine sr rfl rfl rfl ((q_len rfl (.cons rfl inferInstance (.nil)) (by exact fun w hw => Stb.cl (by assumption) hw))) ?_
  refine sr rfl rfl rfl ((q_move rfl rfl)) (sr rfl rfl rfl ((q_neq rfl rfl rfl)) (sr rfl rfl rfl ((q_or2 rfl rfl rfl)) (sr rfl rfl rfl ((q_move rfl rfl)) (sr rfl rfl rfl ((q_move rfl rfl)) (sw_step rfl rfl rfl (q_call (CanCall.mk Tryz.call70) rfl (.cons rfl inferInstance (.cons rfl inferInstance (.cons rfl inferInstance (.nil)))) (fun _ w hw => callq hw (within_spec _ _ _ w))) (sr rfl rfl rfl ((q_not rfl rfl)) (sr rfl rfl rfl ((q_or2 rfl rfl rfl)) (sr rfl rfl rfl ((q_move rfl rfl)) (sr rfl rfl rfl ((q_move rfl rfl)) ?_)))))))))
  refine sw_step rfl rfl rfl (q_call (CanCall.mk Tryz.call81) rfl (.cons rfl inferInstance (.cons rfl inferInstance (.nil))) (fun _ w hw => callq hw (containsInt_spec _ _ _ _ _ _ w (by exact stb_arg hw (by assumption)) (stb_true w []) (CanCall.mk Tryz.call82) (pr1_spec _)))) ?_
  refine sr rfl rfl rfl ((q_or2 rfl rfl rfl)) (sw_nil (post_then ?_))
  refine cw_cond rfl (fun h => ?_) (fun h => ?_)
  · skip
    refine cw_seq (cw_region (sr rfl rfl rfl ((q_assign rfl rfl)) (sr rfl rfl rfl ((q_assign rfl rfl)) (sw_nil (post_then (cw_ret (post_then_r (post_ret2 rfl (resOk_tmp rfl) (resOk_tmp rfl) ?_))))))))
    exact fun w' hw => ⟨rfl, hw⟩
  · skip
    exfalso
    simp only [Bool.or_eq_false_iff, Bool.not_eq_false', decide_eq_true_eq] at h
    exact hE h.1.1.1
theorem proves_yes (n : Nat) (hn : n ≤ 30) (sv : SlV) (vs : List SlV) (ls : List (List Int)) (sp : SlV) (prices : List Int) (scale : Int) (w : World) (hm : Stb w [] (fun w' => Mt w' sv.v vs ls)) (hp : Stb w [] (RdL sp.v prices)) (hE : covE n ls 1000 = 0) :
    Calls Tryz.prog 39 #[.int .i64 n, sv.v, sp.v, .int .i64 scale] w fun e w' => e = .returned (.tuple #[.int .i64 (provV n (msOf ls) prices scale), .bool (provB n (msOf ls) prices scale)]) ∧ Cl w [] [] w' := by
  have hL := rd_len hp.here
  have hl := (covE_ok hE).2.1
  refine calls_cw (vs := [_, _, _, _]) Tryz.func39 rfl Tryz.ntmps39 rfl (Cl.start0 w) (cw_seq (cw_region (sr rfl rfl rfl ((q_assign rfl rfl)) (sr rfl rfl rfl ((q_assign rfl rfl)) (sw_nil (post_then (cw_seq (cw_region (sr rfl rfl rfl ((q_move rfl rfl)) (sr rfl rfl rfl ((q_move rfl rfl)) ?_))))))))))
  refine sw_x rfl rfl rfl (e_call (CanCall.mk Tryz.call75) rfl (.cons rfl inferInstance (.cons rfl inferInstance (.cons rfl inferInstance (.nil)))) (fun w hw => covering_yes n hn sv vs ls 1000 w (stb_arg hw hm) (by omega) hE)) (fun y => ?_)
  refine sw_imp fun hg => ?_
  rw [List.append_nil]
  have hok := cgood_ok hg hn hE (by omega)
  have e1 := hg.n
  have e2 : y.1.ms = msOf ls := hg.ms
  have hml : y.1.ms.length ≤ 1000 := hok.l
  have hrd : ∀ {w1 : World}, Cl w [] (CV.F y) w1 → Stb w1 [] y.1.Rd := fun hw => cv_rd hg hw.split0.2.1 (fun A hA => hA)
  refine sr rfl rfl rfl ((q_move rfl rfl)) (sr rfl rfl rfl ((q_extract rfl rfl rfl)) (sr rfl rfl rfl ((q_extract rfl rfl rfl)) (sr rfl rfl rfl ((q_assign rfl rfl)) (sr rfl rfl rfl ((q_assign rfl rfl)) (sw_nil (post_then (cw_seq (cw_seq (cw_region (sr rfl rfl rfl ((q_move rfl rfl)) (sr rfl rfl rfl ((q_neq rfl rfl rfl)) (sr rfl rfl rfl ((q_move rfl rfl)) (sr rfl rfl rfl ((q_move rfl rfl)) ?_)))))))))))))
  refine sr rfl rfl rfl ((q_len rfl (.cons rfl inferInstance (.nil)) (by exact fun w hw => Stb.cl (by assumption) hw))) ?_
  refine sr rfl rfl rfl ((q_move rfl rfl)) (sr rfl rfl rfl ((q_neq rfl rfl rfl)) (sr rfl rfl rfl ((q_or2 rfl rfl rfl)) (sr rfl rfl rfl ((q_move rfl rfl)) (sr rfl rfl rfl ((q_move rfl rfl)) (sw_step rfl rfl rfl (q_call (CanCall.mk Tryz.call70) rfl (.cons rfl inferInstance (.cons rfl inferInstance (.cons rfl inferInstance (.nil)))) (fun _ w hw => callq hw (within_spec _ _ _ w))) (sr rfl rfl rfl ((q_not rfl rfl)) (sr rfl rfl rfl ((q_or2 rfl rfl rfl)) (sr rfl rfl rfl ((q_move rfl rfl)) (sr rfl rfl rfl ((q_move rfl rfl)) ?_)))))))))
  refine sw_step rfl rfl rfl (q_call (CanCall.mk Tryz.call81) rfl (.cons rfl inferInstance (.cons rfl inferInstance (.nil))) (fun _ w hw => callq hw (containsInt_spec _ _ _ _ _ _ w (by exact stb_arg hw (by assumption)) (stb_true w []) (CanCall.mk Tryz.call82) (pr1_spec _)))) ?_
  refine sr rfl rfl rfl ((q_or2 rfl rfl rfl)) (sw_nil (post_then ?_))
  refine cw_cond rfl (fun h => ?_) (fun h => ?_)
  · skip
    have h1 : prcB n prices scale = false := by
      have hx : (prices.any fun x => !inB x 0 1000000000) = !prices.all fun x => inB x 0 1000000000 := by rw [← List.not_all_eq_any_not]
      rw [hx] at h
      simp only [prcB]
      simp only [decide_true, Bool.not_true, Bool.false_or] at h
      by_cases h5 : prices.length = n
      · have h6 : ((prices.length : Int) = (n : Int)) := by omega
        simp only [h5, decide_true, Bool.true_and]
        simp only [h6, decide_true, Bool.not_true, Bool.false_or] at h
        cases h7 : inB scale 1 1000000000000 <;> simp_all
      · simp [h5]
    have h2 : provB n (msOf ls) prices scale = false := by rw [provB, h1]; rfl
    refine cw_seq (cw_region (sr rfl rfl rfl ((q_assign rfl rfl)) (sr rfl rfl rfl ((q_assign rfl rfl)) (sw_nil (post_then (cw_ret (post_then_r (post_ret2 rfl (resOk_tmp rfl) (resOk_tmp rfl) ?_))))))))
    exact fun w' hw => ⟨by rw [provV, h2]; rfl, (fun w h => Cl.sel (by exact .nil _) w h) _ hw⟩
  · skip
    have h1 : prcB n prices scale = true := by
      have hx : (prices.any fun x => !inB x 0 1000000000) = !prices.all fun x => inB x 0 1000000000 := by rw [← List.not_all_eq_any_not]
      rw [hx] at h
      simp only [prcB]
      simp only [decide_true, Bool.not_true, Bool.false_or, Bool.or_eq_false_iff, Bool.not_eq_false', decide_eq_true_eq] at h
      obtain ⟨⟨h5, h6⟩, h7⟩ := h
      have h8 : prices.length = n := by omega
      rw [h6, h7]; simp [h8]
    have hpl : prices.length = n := by simp only [prcB, Bool.and_eq_true, decide_eq_true_eq] at h1; exact h1.1.1
    have hsc : 1 ≤ scale ∧ scale ≤ 1000000000000 := by simp only [prcB, Bool.and_eq_true, inB, decide_eq_true_eq] at h1; exact h1.1.2
    have hpb : ∀ k, 0 ≤ nth prices k ∧ nth prices k ≤ 1000000000 := nth_bd (by omega) fun v hv => by
      simp only [prcB, Bool.and_eq_true] at h1
      have := List.all_eq_true.1 h1.2 v hv
      simpa [inB] using this
    refine cw_c (C' := fun w1 => (y.1.ls.length = y.1.ms.length) ∧ Cl w [] (CV.F y) w1) (fun w1 hw => ⟨(hrd hw).here.ll, hw⟩) (cw_imp fun hll => (cw_skip (post_then (cw_seq (cw_region (sr rfl rfl rfl ((q_assign rfl rfl)) (sw_nil (post_then (cw_seq (cw_seq (cw_region (sr rfl rfl rfl ((q_move rfl rfl)) ?_))))))))))))
    refine sr rfl rfl rfl ((q_len rfl (.cons rfl inferInstance (.nil)) (by exact fun w hw => Stb.cl (by assumption) hw))) ?_
    refine sr rfl rfl rfl ((q_move rfl rfl)) (sw_nil (post_then (cw_block ?_)))
    refine cw_loop (S := Nat) (fun k => [(0, [], .int .i64 n), (2, [], sp.v), (3, [], .int .i64 scale), (10, [], .pointer (some ⟨y.1.bc, 0, none⟩)), (12, [], .int .i64 (sumTo prices k)), (42, [], sp.v), (43, [], .int .i64 n), (44, [], .int .i64 k)]) (fun k => Cl w [] (CV.F y)) (fun k => k ≤ n) (fun k => n - k) 0 (Nat.zero_le _) ?_ (fun _ h => h) ?_
    · exact Le.cons rfl (Le.cons rfl (Le.cons rfl (Le.cons rfl (Le.cons rfl (Le.cons rfl (Le.cons' rfl (by rw [hpl]) (Le.cons rfl Le.nil)))))))
    intro k hk
    have hs1 := sumTo_bd hpb k
    have hs2 := hpb k
    refine cw_seq (cw_region (sr rfl rfl rfl ((q_lss rfl rfl rfl)) (sw_nil (post_then (cw_seq ?_)))))
    refine cw_cond rfl (fun h2 => ?_) (fun h2 => ?_)
    · skip
      have hk' : k < n := by simp only [decide_eq_true_eq] at h2; omega
      refine cw_skip (post_then (cw_seq (cw_block (cw_seq (cw_region ?_)))))
      refine sr rfl rfl rfl ((q_indexN rfl rfl rfl (by exact fun w hw => Stb.cl (by assumption) hw) (by intro hc; omega))) ?_
      refine sr rfl rfl rfl ((q_loadEl rfl rfl rfl (by exact fun w hw => Stb.cl (by assumption) hw) (by intro hc; omega))) ?_
      refine sr rfl rfl rfl ((q_assign rfl rfl)) (sw_nil (post_then (cw_region (sr rfl rfl rfl ((q_move rfl rfl)) (sr rfl rfl rfl ((q_move rfl rfl)) ?_)))))
      refine sr rfl rfl rfl ((q_add rfl rfl rfl (by intro hc; omega))) ?_
      refine sr rfl rfl rfl ((q_assign rfl rfl)) (sw_nil (post_blk (post_then (cw_region ?_))))
      refine sr rfl rfl rfl ((q_add rfl rfl rfl (by intro hc; omega))) ?_
      refine sr rfl rfl rfl ((q_move rfl rfl)) (sw_nil ?_)
      exact post_next (k + 1) (by exact .cons rfl (.cons rfl (.cons rfl (.cons rfl (.cons rfl (.cons rfl (.cons rfl (.cons rfl .nil)))))))) (fun _ h => h) (by omega) (by omega)
    · skip
      have hk' : k = n := by simp only [decide_eq_false_iff_not] at h2; omega
      subst hk'
      refine cw_exit (post_then_x (post_then_x (post_blk_eq (post_then (cw_seq (cw_seq (cw_region (sr rfl rfl rfl ((q_move rfl rfl)) (sr rfl rfl rfl ((q_nilCheck rfl rfl)) (sr rfl rfl rfl ((q_fieldAddr rfl rfl)) ?_))))))))))
      refine sr rfl rfl rfl ((q_loadC rfl rfl (by exact .head _) rfl)) ?_
      refine sr rfl rfl rfl ((q_len rfl (.cons rfl inferInstance (.nil)) (by exact fun w hw => rd_own hw (by exact .tail _ (.head _))))) ?_
      refine sr rfl rfl rfl ((q_move rfl rfl)) (sw_nil (post_then (cw_block ?_)))
      refine cw_loop (S := Nat) (fun i => [(0, [], .int .i64 k), (2, [], sp.v), (3, [], .int .i64 scale), (12, [], .int .i64 (sumTo prices k)), (55, [], y.1.ss.v), (56, [], .int .i64 y.1.ms.length), (57, [], .int .i64 i)]) (fun i => Cl w [] (CV.F y)) (fun i => i ≤ y.1.ms.length ∧ ∀ j, j < i → psum prices (nth y.1.ms j) k ≤ scale) (fun i => y.1.ms.length - i) 0 ⟨Nat.zero_le _, fun j hj => by omega⟩ ?_ (fun _ h => h) ?_
      · exact Le.cons rfl (Le.cons rfl (Le.cons rfl (Le.cons rfl (Le.cons rfl (Le.cons' rfl (by rw [hll]) (Le.cons rfl Le.nil))))))
      rintro i ⟨hi, hsum⟩
      refine cw_seq (cw_region (sr rfl rfl rfl ((q_lss rfl rfl rfl)) (sw_nil (post_then (cw_seq ?_)))))
      refine cw_cond rfl (fun h3 => ?_) (fun h3 => ?_)
      · skip
        have hi' : i < y.1.ms.length := by simp only [decide_eq_true_eq] at h3; omega
        have m1 := hok.lt i
        refine cw_skip (post_then (cw_seq (cw_block (cw_seq (cw_region ?_)))))
        refine sr rfl rfl rfl ((q_indexN rfl rfl rfl (by exact fun w hw => rd_own hw (by exact .tail _ (.head _))) (by intro hc; omega))) ?_
        refine sr rfl rfl rfl ((q_loadEl rfl rfl rfl (by exact fun w hw => rd_own hw (by exact .tail _ (.head _))) (by intro hc; omega))) ?_
        refine sr rfl rfl rfl ((q_assign rfl rfl)) (sw_nil (post_then (cw_seq (cw_region (sr rfl rfl rfl ((q_assign rfl rfl)) (sw_nil (post_then (cw_seq (cw_seq (cw_region (sr rfl rfl rfl ((q_move rfl rfl)) (sr rfl rfl rfl ((q_move rfl rfl)) (sw_nil (post_then (cw_block ?_)))))))))))))))
        refine cw_loop (S := Nat) (fun x => [(0, [], .int .i64 k), (2, [], sp.v), (3, [], .int .i64 scale), (12, [], .int .i64 (sumTo prices k)), (16, [], (nth y.1.ls i).v), (17, [], .int .i64 (psum prices (nth y.1.ms i) x)), (55, [], y.1.ss.v), (56, [], .int .i64 y.1.ms.length), (57, [], .int .i64 i), (61, [], .int .i64 k), (62, [], .int .i64 x)]) (fun x => Cl w [] (CV.F y)) (fun x => x ≤ k) (fun x => k - x) 0 (Nat.zero_le _) (by exact .cons rfl (.cons rfl (.cons rfl (.cons rfl (.cons rfl (.cons rfl (.cons rfl (.cons rfl (.cons rfl (.cons rfl (.cons rfl .nil))))))))))) (fun _ h => h) ?_
        intro x hx
        have hb1 := psum_bd hpb (nth y.1.ms i) x
        have hb2 := hpb x
        refine cw_seq (cw_region (sr rfl rfl rfl ((q_lss rfl rfl rfl)) (sw_nil (post_then (cw_seq ?_)))))
        refine cw_cond rfl (fun h4 => ?_) (fun h4 => ?_)
        · skip
          have hx' : x < k := by simp only [decide_eq_true_eq] at h4; omega
          have hrow : ∀ {w1 : World}, Cl w [] (CV.F y) w1 → Stb w1 [] (RdL (nth y.1.ls i).v [UW.mk (nth y.1.ms i)]) := fun hw => by
            have := (hrd hw).here.mm i hi'
            rw [ws_pos (by rw [e1]; omega)] at this
            exact rd_stb this
          refine cw_skip (post_then (cw_seq (cw_block (cw_seq (cw_region (sr rfl rfl rfl ((q_move rfl rfl)) (sr rfl rfl rfl ((q_assign rfl rfl)) (sw_nil (post_then (cw_seq (cw_region (sr rfl rfl rfl ((q_move rfl rfl)) (sr rfl rfl rfl ((q_move rfl rfl)) ?_)))))))))))))
          refine sw_step rfl rfl rfl (q_call (CanCall.mk Tryz.call83) rfl (.cons rfl inferInstance (.cons rfl inferInstance (.nil))) (fun _ w hw => callq hw (has_spec _ (nth y.1.ms i) x (by omega) m1 w (hrow hw)))) ?_
          refine sw_nil (post_then ?_)
          refine cw_cut (S := Unit) (fun _ => [(0, [], .int .i64 k), (2, [], sp.v), (3, [], .int .i64 scale), (12, [], .int .i64 (sumTo prices k)), (16, [], (nth y.1.ls i).v), (17, [], .int .i64 (psum prices (nth y.1.ms i) (x + 1))), (55, [], y.1.ss.v), (56, [], .int .i64 y.1.ms.length), (57, [], .int .i64 i), (61, [], .int .i64 k), (62, [], .int .i64 x)]) (fun _ => Cl w [] (CV.F y)) (fun _ => True) ?_ ?_
          · refine cw_cond rfl (fun h5 => ?_) (fun h5 => ?_)
            · skip
              have e5 : psum prices (nth y.1.ms i) (x + 1) = psum prices (nth y.1.ms i) x + nth prices x := by rw [psum, if_pos h5]
              refine cw_region (sr rfl rfl rfl ((q_move rfl rfl)) (sr rfl rfl rfl ((q_move rfl rfl)) (sr rfl rfl rfl ((q_move rfl rfl)) ?_)))
              refine sr rfl rfl rfl ((q_indexN rfl rfl rfl (by exact fun w hw => Stb.cl (by assumption) hw) (by intro hc; omega))) ?_
              refine sr rfl rfl rfl ((q_loadEl rfl rfl rfl (by exact fun w hw => Stb.cl (by assumption) hw) (by intro hc; omega))) ?_
              refine sr rfl rfl rfl ((q_add rfl rfl rfl (by intro hc; omega))) ?_
              refine sr rfl rfl rfl ((q_assign rfl rfl)) (sw_nil ?_)
              refine post_meet () ?_ (fun _ h => h) trivial
              rw [e5]
              exact (by exact .cons rfl (.cons rfl (.cons rfl (.cons rfl (.cons rfl (.cons rfl (.cons rfl (.cons rfl (.cons rfl (.cons rfl (.cons rfl .nil)))))))))))
            · skip
              have e5 : psum prices (nth y.1.ms i) (x + 1) = psum prices (nth y.1.ms i) x := by rw [psum, if_neg (by rw [h5]; decide), Int.add_zero]
              refine cw_skip ?_
              refine post_meet () ?_ (fun _ h => h) trivial
              rw [e5]
              exact (by exact .cons rfl (.cons rfl (.cons rfl (.cons rfl (.cons rfl (.cons rfl (.cons rfl (.cons rfl (.cons rfl (.cons rfl (.cons rfl .nil)))))))))))
          · intro _ _
            refine post_blk (post_then (cw_region ?_))
            refine sr rfl rfl rfl ((q_add rfl rfl rfl (by intro hc; omega))) ?_
            refine sr rfl rfl rfl ((q_move rfl rfl)) (sw_nil ?_)
            exact post_next (x + 1) (by exact .cons rfl (.cons rfl (.cons rfl (.cons rfl (.cons rfl (.cons rfl (.cons rfl (.cons rfl (.cons rfl (.cons rfl (.cons rfl .nil))))))))))) (fun _ h => h) (by omega) (by omega)
        · skip
          have hx' : x = k := by simp only [decide_eq_false_iff_not] at h4; omega
          subst hx'
          refine cw_exit (post_then_x (post_then_x (post_blk_eq (post_then (cw_seq (cw_region (sr rfl rfl rfl ((q_move rfl rfl)) (sr rfl rfl rfl ((q_move rfl rfl)) (sr rfl rfl rfl ((q_gtr rfl rfl rfl)) (sw_nil (post_then ?_)))))))))))
          refine cw_cond rfl (fun h5 => ?_) (fun h5 => ?_)
          · skip
            have h6 : provB x (msOf ls) prices scale = false := by
              have : ((msOf ls).all fun m => decide (psum prices m x ≤ scale)) = false := List.all_eq_false.2 ⟨nth y.1.ms i, by rw [← e2]; exact nth_mem hi', by simp only [decide_eq_true_eq] at h5 ⊢; omega⟩
              rw [provB, this, Bool.and_false]
            refine cw_seq (cw_region (sr rfl rfl rfl ((q_assign rfl rfl)) (sr rfl rfl rfl ((q_assign rfl rfl)) (sw_nil (post_then (cw_ret (post_blk_r (post_then_r (post_then_r (post_blk_r (post_then_r (post_ret2 rfl (resOk_tmp rfl) (resOk_tmp rfl) ?_))))))))))))
            exact fun w' hw => ⟨by rw [provV, h6]; rfl, (fun w h => Cl.sel (by exact .nil _) w h) _ hw⟩
          · skip
            refine cw_skip (post_blk (post_then (cw_region ?_)))
            refine sr rfl rfl rfl ((q_add rfl rfl rfl (by intro hc; omega))) ?_
            refine sr rfl rfl rfl ((q_move rfl rfl)) (sw_nil ?_)
            refine post_next (i + 1) (by exact .cons rfl (.cons rfl (.cons rfl (.cons rfl (.cons rfl (.cons rfl (.cons rfl .nil))))))) (fun _ h => h) ⟨by omega, fun j hj => ?_⟩ (by omega)
            by_cases e : j = i
            · subst e; simp only [decide_eq_false_iff_not] at h5; omega
            · exact hsum j (by omega)
      · skip
        have hi' : i = y.1.ms.length := by simp only [decide_eq_false_iff_not] at h3; omega
        subst hi'
        have h6 : provB k (msOf ls) prices scale = true := by
          rw [provB, h1, Bool.true_and, List.all_eq_true]
          intro m hm2
          rw [← e2] at hm2
          obtain ⟨j, hj, rfl⟩ := List.getElem_of_mem hm2
          have := hsum j hj
          rw [nth_get hj] at this
          simpa using this
        refine cw_exit (post_then_x (post_then_x (post_blk_eq (post_then (cw_seq (cw_region (sr rfl rfl rfl ((q_move rfl rfl)) (sr rfl rfl rfl ((q_move rfl rfl)) ?_))))))))
        refine sr rfl rfl rfl ((q_add rfl rfl rfl (by intro hc; omega))) ?_
        refine sr rfl rfl rfl ((q_sub rfl rfl rfl (by intro hc; omega))) ?_
        refine sr rfl rfl rfl ((q_move rfl rfl)) ?_
        refine sr rfl rfl rfl ((q_quo rfl rfl rfl (by intro hc; omega))) ?_
        refine sr rfl rfl rfl ((q_assign rfl rfl)) (sr rfl rfl rfl ((q_assign rfl rfl)) (sw_nil (post_then (cw_ret (post_ret2 rfl (resOk_tmp rfl) (resOk_tmp rfl) ?_)))))
        exact fun w' hw => ⟨by rw [provV, h6]; rfl, (fun w h => Cl.sel (by exact .nil _) w h) _ hw⟩
end Go.Proofs.YtomjbfeafodfbaaGreat

set_option autoImplicit false
set_option maxRecDepth 100000
namespace Go.Proofs.YtomjbfeafodfbaaGreat
open Go.Sx
open Enc (enc val)
theorem ne_at {α : Type} [Inhabited α] [DecidableEq α] {a b : List α} {k : Nat} (hk : k < a.length) (h : nth a k ≠ nth b k) : decide (a = b) = false := by
  simp only [decide_eq_false_iff_not]
  rintro rfl
  exact h rfl
theorem eq_all {α : Type} [Inhabited α] [DecidableEq α] {a b : List α} (hl : a.length = b.length) (h : ∀ j, j < a.length → nth a j = nth b j) : decide (a = b) = true := by
  simp only [decide_eq_true_eq]
  apply List.ext_getElem hl
  intro i h1 h2
  have := h i h1
  rwa [nth_get h1, nth_get h2] at this
theorem ne_len {α : Type} [DecidableEq α] {a b : List α} (hl : a.length ≠ b.length) : decide (a = b) = false := by
  simp only [decide_eq_false_iff_not]
  rintro rfl
  exact hl rfl
theorem same_spec (sa sb : Value) (a b : List Int) (w : World) (ha : Stb w [] (RdL sa a)) (hb : Stb w [] (RdL sb b)) : Calls Tryz.prog 23 #[sa, sb] w fun e w' => e = .returned (.bool (decide (a = b))) ∧ Cl w [] [] w' := by
  have hL := rd_len ha.here
  refine calls_cw (vs := [_, _]) Tryz.func23 rfl Tryz.ntmps23 rfl (Cl.start0 w) (cw_seq (cw_region (sr rfl rfl rfl ((q_assign rfl rfl)) (sw_nil (post_then (cw_seq (cw_seq (cw_region (sr rfl rfl rfl ((q_move rfl rfl)) ?_)))))))))
  refine sr rfl rfl rfl ((q_len rfl (.cons rfl inferInstance (.nil)) (by exact fun w hw => Stb.cl (by assumption) hw))) ?_
  refine sr rfl rfl rfl ((q_move rfl rfl)) ?_
  refine sr rfl rfl rfl ((q_len rfl (.cons rfl inferInstance (.nil)) (by exact fun w hw => Stb.cl (by assumption) hw))) ?_
  refine sr rfl rfl rfl ((q_neq rfl rfl rfl)) (sw_nil (post_then ?_))
  refine cw_cond rfl (fun h => ?_) (fun h => ?_)
  · skip
    refine cw_seq (cw_region (sr rfl rfl rfl ((q_assign rfl rfl)) (sw_nil (post_then (cw_ret (post_then_r (post_ret1 rfl (resOk_tmp rfl) ?_)))))))
    exact fun w' hw => ⟨by rw [ne_len]; simp at h; omega, hw⟩
  · skip
    have hl : a.length = b.length := by simp at h; omega
    refine cw_skip (post_then (cw_seq (cw_seq (cw_region (sr rfl rfl rfl ((q_assign rfl rfl)) (sw_nil (post_then (cw_block ?_))))))))
    refine cw_loop (S := Nat) (fun k => [(0, [], sa), (1, [], sb), (5, [], .int .i64 k)]) (fun _ => Cl w [] []) (fun k => k ≤ a.length ∧ ∀ j, j < k → nth a j = nth b j) (fun k => a.length - k) 0 ⟨Nat.zero_le _, fun j hj => by omega⟩ (by exact .cons rfl (.cons rfl (.cons rfl .nil))) (fun _ h => h) ?_
    rintro k ⟨hk, he⟩
    refine cw_seq (cw_seq (cw_region (sr rfl rfl rfl ((q_move rfl rfl)) (sr rfl rfl rfl ((q_move rfl rfl)) ?_))))
    refine sr rfl rfl rfl ((q_len rfl (.cons rfl inferInstance (.nil)) (by exact fun w hw => Stb.cl (by assumption) hw))) ?_
    refine sr rfl rfl rfl ((q_lss rfl rfl rfl)) (sw_nil (post_then ?_))
    refine cw_cond rfl (fun h2 => ?_) (fun h2 => ?_)
    · skip
      have hk' : k < a.length := by simp only [decide_eq_true_eq] at h2; omega
      refine cw_skip (post_then (cw_seq (cw_block (cw_seq ?_))))
      refine cw_region_q mixed_Tryz (by kernel_rfl) ?_
      refine qr rfl rfl rfl ((q_move rfl rfl)) (qr rfl rfl rfl ((q_move rfl rfl)) ?_)
      refine qr rfl rfl rfl ((q_indexN rfl rfl rfl (by exact fun w hw => Stb.cl (by assumption) hw) (by intro hc; omega))) ?_
      refine qr rfl rfl rfl ((q_loadEl rfl rfl rfl (by exact fun w hw => Stb.cl (by assumption) hw) (by intro hc; omega))) ?_
      refine qr rfl rfl rfl ((q_move rfl rfl)) (qr rfl rfl rfl ((q_move rfl rfl)) ?_)
      refine qr rfl rfl rfl ((q_indexN rfl rfl rfl (by exact fun w hw => Stb.cl (by assumption) hw) (by intro hc; omega))) ?_
      refine qr rfl rfl rfl ((q_loadEl rfl rfl rfl (by exact fun w hw => Stb.cl (by assumption) hw) (by intro hc; omega))) ?_
      refine qr rfl rfl rfl ((q_neq rfl rfl rfl)) (qw_end (post_then ?_))
      refine cw_cond rfl (fun h3 => ?_) (fun h3 => ?_)
      · skip
        refine cw_seq (cw_region (sr rfl rfl rfl ((q_assign rfl rfl)) (sw_nil (post_then (cw_ret (post_blk_r (post_then_r (post_then_r (post_blk_r (post_then_r (post_ret1 rfl (resOk_tmp rfl) ?_)))))))))))
        exact fun w' hw => ⟨by rw [ne_at hk' (by simpa using h3)], hw⟩
      · skip
        refine cw_skip (post_blk (post_then (cw_region (sr rfl rfl rfl ((q_move rfl rfl)) ?_))))
        refine sr rfl rfl rfl ((q_add rfl rfl rfl (by intro hc; omega))) ?_
        refine sr rfl rfl rfl ((q_assign rfl rfl)) (sw_nil ?_)
        refine post_next (k + 1) (by exact .cons rfl (.cons rfl (.cons rfl .nil))) (fun _ h => h) ⟨by omega, fun j hj => ?_⟩ (by omega)
        by_cases e : j = k
        · subst e; simpa using h3
        · exact he j (by omega)
    · skip
      have hk' : k = a.length := by simp only [decide_eq_false_iff_not] at h2; omega
      subst hk'
      refine cw_exit (post_then_x (post_then_x (post_blk_eq (post_then (cw_seq (cw_region (sr rfl rfl rfl ((q_assign rfl rfl)) (sw_nil (post_then (cw_ret (post_ret1 rfl (resOk_tmp rfl) ?_)))))))))))
      exact fun w' hw => ⟨by rw [eq_all hl he], hw⟩
theorem sameLists_spec (sa sb : Value) (va vb : List SlV) (a b : List (List Int)) (w : World) (ha : Stb w [] (fun w' => Mt w' sa va a)) (hb : Stb w [] (fun w' => Mt w' sb vb b)) : Calls Tryz.prog 24 #[sa, sb] w fun e w' => e = .returned (.bool (decide (a = b))) ∧ Cl w [] [] w' := by
  have ha1 := stb_map ha fun _ h => h.l
  have hb1 := stb_map hb fun _ h => h.l
  have hL := rd_len ha1.here
  have na := ha.here.n
  have nb := hb.here.n
  refine calls_cw (vs := [_, _]) Tryz.func24 rfl Tryz.ntmps24 rfl (Cl.start0 w) (cw_seq (cw_region (sr rfl rfl rfl ((q_assign rfl rfl)) (sw_nil (post_then (cw_seq (cw_seq (cw_region (sr rfl rfl rfl ((q_move rfl rfl)) ?_)))))))))
  refine sr rfl rfl rfl ((q_len rfl (.cons rfl inferInstance (.nil)) (by exact fun w hw => Stb.cl (by assumption) hw))) ?_
  refine sr rfl rfl rfl ((q_move rfl rfl)) ?_
  refine sr rfl rfl rfl ((q_len rfl (.cons rfl inferInstance (.nil)) (by exact fun w hw => Stb.cl (by assumption) hw))) ?_
  refine sr rfl rfl rfl ((q_neq rfl rfl rfl)) (sw_nil (post_then ?_))
  refine cw_cond rfl (fun h => ?_) (fun h => ?_)
  · skip
    refine cw_seq (cw_region (sr rfl rfl rfl ((q_assign rfl rfl)) (sw_nil (post_then (cw_ret (post_then_r (post_ret1 rfl (resOk_tmp rfl) ?_)))))))
    exact fun w' hw => ⟨by rw [ne_len]; simp at h; omega, hw⟩
  · skip
    have hl : a.length = b.length := by simp at h; omega
    refine cw_skip (post_then (cw_seq (cw_seq (cw_region (sr rfl rfl rfl ((q_assign rfl rfl)) (sw_nil (post_then (cw_block ?_))))))))
    refine cw_loop (S := Nat) (fun k => [(0, [], sa), (1, [], sb), (5, [], .int .i64 k)]) (fun _ => Cl w [] []) (fun k => k ≤ a.length ∧ ∀ j, j < k → nth a j = nth b j) (fun k => a.length - k) 0 ⟨Nat.zero_le _, fun j hj => by omega⟩ (by exact .cons rfl (.cons rfl (.cons rfl .nil))) (fun _ h => h) ?_
    rintro k ⟨hk, he⟩
    refine cw_seq (cw_seq (cw_region (sr rfl rfl rfl ((q_move rfl rfl)) (sr rfl rfl rfl ((q_move rfl rfl)) ?_))))
    refine sr rfl rfl rfl ((q_len rfl (.cons rfl inferInstance (.nil)) (by exact fun w hw => Stb.cl (by assumption) hw))) ?_
    refine sr rfl rfl rfl ((q_lss rfl rfl rfl)) (sw_nil (post_then ?_))
    refine cw_cond rfl (fun h2 => ?_) (fun h2 => ?_)
    · skip
      have hk' : k < a.length := by simp only [decide_eq_true_eq] at h2; omega
      have hra := stb_map ha fun _ h => h.r k hk'
      have hrb := stb_map hb fun _ h => h.r k (by omega)
      refine cw_skip (post_then (cw_seq (cw_block (cw_seq ?_))))
      refine cw_region_q mixed_Tryz (by kernel_rfl) ?_
      refine qr rfl rfl rfl ((q_move rfl rfl)) (qr rfl rfl rfl ((q_move rfl rfl)) ?_)
      refine qr rfl rfl rfl ((q_indexN rfl rfl rfl (by exact fun w hw => Stb.cl (by assumption) hw) (by intro hc; omega))) ?_
      refine qr rfl rfl rfl ((q_loadEl rfl rfl rfl (by exact fun w hw => Stb.cl (by assumption) hw) (by intro hc; omega))) ?_
      refine qr rfl rfl rfl ((q_move rfl rfl)) (qr rfl rfl rfl ((q_move rfl rfl)) ?_)
      refine qr rfl rfl rfl ((q_indexN rfl rfl rfl (by exact fun w hw => Stb.cl (by assumption) hw) (by intro hc; omega))) ?_
      refine qr rfl rfl rfl ((q_loadEl rfl rfl rfl (by exact fun w hw => Stb.cl (by assumption) hw) (by intro hc; omega))) ?_
      refine qw_step rfl rfl rfl (q_call (CanCall.mk Tryz.call23) rfl (.cons rfl inferInstance (.cons rfl inferInstance (.nil))) (fun _ w hw => callq hw (same_spec _ _ (nth a k) (nth b k) w (stb_arg hw hra) (stb_arg hw hrb)))) (qr rfl rfl rfl ((q_not rfl rfl)) (qw_end (post_then ?_)))
      refine cw_cond rfl (fun h3 => ?_) (fun h3 => ?_)
      · skip
        refine cw_seq (cw_region (sr rfl rfl rfl ((q_assign rfl rfl)) (sw_nil (post_then (cw_ret (post_blk_r (post_then_r (post_then_r (post_blk_r (post_then_r (post_ret1 rfl (resOk_tmp rfl) ?_)))))))))))
        exact fun w' hw => ⟨by rw [ne_at hk' (by simpa using h3)], hw⟩
      · skip
        refine cw_skip (post_blk (post_then (cw_region (sr rfl rfl rfl ((q_move rfl rfl)) ?_))))
        refine sr rfl rfl rfl ((q_add rfl rfl rfl (by intro hc; omega))) ?_
        refine sr rfl rfl rfl ((q_assign rfl rfl)) (sw_nil ?_)
        refine post_next (k + 1) (by exact .cons rfl (.cons rfl (.cons rfl .nil))) (fun _ h => h) ⟨by omega, fun j hj => ?_⟩ (by omega)
        by_cases e : j = k
        · subst e; simpa using h3
        · exact he j (by omega)
    · skip
      have hk' : k = a.length := by simp only [decide_eq_false_iff_not] at h2; omega
      subst hk'
      refine cw_exit (post_then_x (post_then_x (post_blk_eq (post_then (cw_seq (cw_region (sr rfl rfl rfl ((q_assign rfl rfl)) (sw_nil (post_then (cw_ret (post_ret1 rfl (resOk_tmp rfl) ?_)))))))))))
      exact fun w' hw => ⟨by rw [eq_all hl he], hw⟩
theorem refSets_spec (n : Int) (hn : 0 ≤ n ∧ n ≤ 1000) (sv : SlV) (vs : List SlV) (ls : List (List Int)) (w : World) (hm : Stb w [] (fun w' => Mt w' sv.v vs ls)) : Calls Tryz.prog 79 #[.int .i64 n, sv.v] w fun e w' => e = .returned (.bool (ls.all (setB n))) ∧ Cl w [] [] w' := by
  have h1 := stb_map hm fun _ h => h.l
  have hL := rd_len h1.here
  have n1 := hm.here.n
  refine calls_cw (vs := [_, _]) Tryz.func79 rfl Tryz.ntmps79 rfl (Cl.start0 w) (cw_seq (cw_region (sr rfl rfl rfl ((q_assign rfl rfl)) (sw_nil (post_then (cw_seq (cw_seq (cw_region (sr rfl rfl rfl ((q_assign rfl rfl)) (sw_nil (post_then (cw_block ?_))))))))))))
  refine cw_loop (S := Nat) (fun k => [(0, [], .int .i64 n), (1, [], sv.v), (5, [], .int .i64 k)]) (fun _ => Cl w [] []) (fun k => k ≤ ls.length ∧ ∀ j, j < k → setB n (nth ls j) = true) (fun k => ls.length - k) 0 ⟨Nat.zero_le _, fun j hj => by omega⟩ (by exact .cons rfl (.cons rfl (.cons rfl .nil))) (fun _ h => h) ?_
  rintro k ⟨hk, he⟩
  refine cw_seq (cw_seq (cw_region (sr rfl rfl rfl ((q_move rfl rfl)) (sr rfl rfl rfl ((q_move rfl rfl)) ?_))))
  refine sr rfl rfl rfl ((q_len rfl (.cons rfl inferInstance (.nil)) (by exact fun w hw => Stb.cl (by assumption) hw))) ?_
  refine sr rfl rfl rfl ((q_lss rfl rfl rfl)) (sw_nil (post_then ?_))
  refine cw_cond rfl (fun h => ?_) (fun h => ?_)
  · skip
    have hk' : k < ls.length := by simp only [decide_eq_true_eq] at h; omega
    have hr := stb_map hm fun _ h => h.r k hk'
    have hrl := rd_len hr.here
    refine cw_skip (post_then (cw_seq (cw_block (cw_seq (cw_region (sr rfl rfl rfl ((q_assign rfl rfl)) (sw_nil (post_then (cw_block ?_)))))))))
    refine cw_loop (S := Nat) (fun j => [(0, [], .int .i64 n), (1, [], sv.v), (5, [], .int .i64 k), (6, [], .int .i64 j)]) (fun _ => Cl w [] []) (fun j => j ≤ (nth ls k).length ∧ ∀ i, i < j → inB (nth (nth ls k) i) 0 (n - 1) = true) (fun j => (nth ls k).length - j) 0 ⟨Nat.zero_le _, fun j hj => by omega⟩ (by exact .cons rfl (.cons rfl (.cons rfl (.cons rfl .nil)))) (fun _ h => h) ?_
    rintro j ⟨hj, hi⟩
    refine cw_seq (cw_seq (cw_region (sr rfl rfl rfl ((q_move rfl rfl)) (sr rfl rfl rfl ((q_move rfl rfl)) (sr rfl rfl rfl ((q_move rfl rfl)) ?_)))))
    refine sr rfl rfl rfl ((q_indexN rfl rfl rfl (by exact fun w hw => Stb.cl (by assumption) hw) (by intro hc; omega))) ?_
    refine sr rfl rfl rfl ((q_loadEl rfl rfl rfl (by exact fun w hw => Stb.cl (by assumption) hw) (by intro hc; omega))) ?_
    refine sr rfl rfl rfl ((q_len rfl (.cons rfl inferInstance (.nil)) (by exact fun w hw => Stb.cl (by assumption) hw))) ?_
    refine sr rfl rfl rfl ((q_lss rfl rfl rfl)) (sw_nil (post_then ?_))
    refine cw_cond rfl (fun h2 => ?_) (fun h2 => ?_)
    · skip
      have hj' : j < (nth ls k).length := by simp only [decide_eq_true_eq] at h2; omega
      refine cw_skip (post_then (cw_seq (cw_block (cw_seq (cw_region (sr rfl rfl rfl ((q_move rfl rfl)) (sr rfl rfl rfl ((q_move rfl rfl)) ?_)))))))
      refine sr rfl rfl rfl ((q_indexN rfl rfl rfl (by exact fun w hw => Stb.cl (by assumption) hw) (by intro hc; omega))) ?_
      refine sr rfl rfl rfl ((q_loadEl rfl rfl rfl (by exact fun w hw => Stb.cl (by assumption) hw) (by intro hc; omega))) ?_
      refine sr rfl rfl rfl ((q_move rfl rfl)) ?_
      refine sr rfl rfl rfl ((q_indexN rfl rfl rfl (by exact fun w hw => Stb.cl (by assumption) hw) (by intro hc; omega))) ?_
      refine sr rfl rfl rfl ((q_loadEl rfl rfl rfl (by exact fun w hw => Stb.cl (by assumption) hw) (by intro hc; omega))) ?_
      refine sr rfl rfl rfl ((q_move rfl rfl)) ?_
      refine sr rfl rfl rfl ((q_sub rfl rfl rfl (by intro hc; omega))) ?_
      refine sw_step rfl rfl rfl (q_call (CanCall.mk Tryz.call84) rfl (.cons rfl inferInstance (.cons rfl inferInstance (.cons rfl inferInstance (.nil)))) (fun _ w hw => callq hw (refIn_spec _ _ _ w))) (sr rfl rfl rfl ((q_not rfl rfl)) (sw_nil (post_then ?_)))
      refine cw_cond rfl (fun h3 => ?_) (fun h3 => ?_)
      · skip
        have h4 : ls.all (setB n) = false := List.all_eq_false.2 ⟨nth ls k, nth_mem hk', by
          have : setB n (nth ls k) = false := List.all_eq_false.2 ⟨nth (nth ls k) j, nth_mem hj', by simpa using h3⟩
          simp [this]⟩
        refine cw_seq (cw_region (sr rfl rfl rfl ((q_assign rfl rfl)) (sw_nil (post_then (cw_ret (post_blk_r (post_then_r (post_then_r (post_blk_r (post_blk_r (post_then_r (post_then_r (post_blk_r (post_then_r (post_ret1 rfl (resOk_tmp rfl) ?_)))))))))))))))
        exact fun w' hw => ⟨by rw [h4], hw⟩
      · skip
        refine cw_skip (post_blk (post_then (cw_region (sr rfl rfl rfl ((q_move rfl rfl)) ?_))))
        refine sr rfl rfl rfl ((q_add rfl rfl rfl (by intro hc; omega))) ?_
        refine sr rfl rfl rfl ((q_assign rfl rfl)) (sw_nil ?_)
        refine post_next (j + 1) (by exact .cons rfl (.cons rfl (.cons rfl (.cons rfl .nil)))) (fun _ h => h) ⟨by omega, fun i h5 => ?_⟩ (by omega)
        by_cases e : i = j
        · subst e; simpa using h3
        · exact hi i (by omega)
    · skip
      have hj' : j = (nth ls k).length := by simp only [decide_eq_false_iff_not] at h2; omega
      subst hj'
      refine cw_exit (post_then_x (post_then_x (post_blk_eq (post_blk (post_then (cw_region (sr rfl rfl rfl ((q_move rfl rfl)) ?_)))))))
      refine sr rfl rfl rfl ((q_add rfl rfl rfl (by intro hc; omega))) ?_
      refine sr rfl rfl rfl ((q_assign rfl rfl)) (sw_nil ?_)
      refine post_next (k + 1) (by exact .cons rfl (.cons rfl (.cons rfl .nil))) (fun _ h => h) ⟨by omega, fun i h5 => ?_⟩ (by omega)
      by_cases e : i = k
      · subst e
        refine List.all_eq_true.2 fun x hx => ?_
        obtain ⟨q, hq, rfl⟩ := List.getElem_of_mem hx
        have := hi q hq
        rwa [nth_get hq] at this
      · exact he i (by omega)
  · skip
    have hk' : k = ls.length := by simp only [decide_eq_false_iff_not] at h; omega
    subst hk'
    have h4 : ls.all (setB n) = true := List.all_eq_true.2 fun x hx => by
      obtain ⟨q, hq, rfl⟩ := List.getElem_of_mem hx
      have := he q hq
      rwa [nth_get hq] at this
    refine cw_exit (post_then_x (post_then_x (post_blk_eq (post_then (cw_seq (cw_region (sr rfl rfl rfl ((q_assign rfl rfl)) (sw_nil (post_then (cw_ret (post_ret1 rfl (resOk_tmp rfl) ?_)))))))))))
    exact fun w' hw => ⟨by rw [h4], hw⟩
theorem fresh_spec (sc sv : Value) (n g : Nat) (hn : n ≤ 30) (s : List Int) (hs : setB n s = true) (w : World) (hc : Stb w [] (RdL sc (cvL n g))) (hr : Stb w [] (RdL sv s)) : Calls Tryz.prog 80 #[sc, sv] w fun e w' => e = .returned (.int .i64 (fr g (mask s))) ∧ Cl w [] [] w' := by
  have hL := rd_len hr.here
  have hsb := (mask_bits hs).2
  have hcl := cvL_len n g
  refine calls_cw (vs := [_, _]) Tryz.func80 rfl Tryz.ntmps80 rfl (Cl.start0 w) (cw_c (C' := Cl w [] [ownL 4 (SlV.v ⟨none, 0, 0⟩) ([] : List Bool)]) (fun w' hw => hw.addNil (α := Bool) 4) (cw_seq (cw_region (sr rfl rfl rfl ((q_assign rfl rfl)) (sw_nil (post_then (cw_seq (cw_region (sr rfl rfl rfl ((q_move rfl rfl)) ?_)))))))))
  refine sw_x rfl rfl rfl (e_append (i := 0) rfl (.cons rfl inferInstance (.cons rfl inferInstance (.nil))) rfl rfl (by exact fun w hw => Stb.cl (by assumption) hw) (by simp only [List.length_set, List.length_append, List.length_cons, List.length_nil, List.length_replicate, List.length_take, List.length_drop, List.length_map]; omega) rfl) (fun s9 => ?_)
  refine sr rfl rfl rfl ((q_assign rfl rfl)) (sw_nil (post_then (cw_seq (cw_region (sr rfl rfl rfl ((q_assign rfl rfl)) (sw_nil (post_then (cw_seq (cw_seq (cw_region (sr rfl rfl rfl ((q_assign rfl rfl)) (sw_nil (post_then (cw_block ?_))))))))))))))
  refine cw_loop (S := Nat) (fun k => [(1, [], sv), (5, [], s9.v), (6, [], .int .i64 (fr g (maskTo s k))), (7, [], .int .i64 k)]) (fun k => Cl w [] [ownL 4 s9.v (cvL n (g ||| maskTo s k))]) (fun k => k ≤ s.length) (fun k => s.length - k) 0 (Nat.zero_le _) ?_ ?_ ?_
  · have e0 : fr g (maskTo s 0) = 0 := by rw [fr_zero]; intro i _ h; simp [maskTo] at h
    rw [e0]
    exact (by exact .cons rfl (.cons rfl (.cons rfl (.cons rfl .nil))))
  · intro w' hw
    have e0 : g ||| maskTo s 0 = g := by simp [maskTo]
    rw [e0]
    exact hw
  intro k hk
  have hfl := fr_le g (maskTo s k)
  refine cw_seq (cw_seq (cw_region (sr rfl rfl rfl ((q_move rfl rfl)) (sr rfl rfl rfl ((q_move rfl rfl)) ?_))))
  refine sr rfl rfl rfl ((q_len rfl (.cons rfl inferInstance (.nil)) (by exact fun w hw => Stb.cl (by assumption) hw))) ?_
  refine sr rfl rfl rfl ((q_lss rfl rfl rfl)) (sw_nil (post_then ?_))
  refine cw_cond rfl (fun h => ?_) (fun h => ?_)
  · skip
    have hk' : k < s.length := by simp only [decide_eq_true_eq] at h; omega
    have hel := hsb _ (nth_mem hk')
    have hcl2 := cvL_len n (g ||| maskTo s k)
    have hput := fr_put (g := g) (m := maskTo s k) (x := (nth s k).toNat) (by omega)
    refine cw_skip (post_then (cw_seq (cw_block (cw_seq (cw_region (sr rfl rfl rfl ((q_move rfl rfl)) (sr rfl rfl rfl ((q_move rfl rfl)) (sr rfl rfl rfl ((q_move rfl rfl)) ?_))))))))
    refine sr rfl rfl rfl ((q_indexN rfl rfl rfl (by exact fun w hw => Stb.cl (by assumption) hw) (by intro hc; omega))) ?_
    refine sr rfl rfl rfl ((q_loadEl rfl rfl rfl (by exact fun w hw => Stb.cl (by assumption) hw) (by intro hc; omega))) ?_
    refine sr rfl rfl rfl ((q_index rfl rfl rfl (by exact fun w hw => rd_own hw (by exact .head _)) (by intro hc; omega))) ?_
    refine sr rfl rfl rfl ((q_loadEl rfl rfl rfl (by exact fun w hw => rd_own hw (by exact .head _)) (by intro hc; omega))) ?_
    refine sr rfl rfl rfl ((q_not rfl rfl)) (sw_nil (post_then ?_))
    refine cw_cut (S := Unit) (fun _ => [(1, [], sv), (5, [], s9.v), (6, [], .int .i64 (fr g (maskTo s (k + 1)))), (7, [], .int .i64 k)]) (fun _ => Cl w [] [ownL 4 s9.v (cvL n (g ||| maskTo s (k + 1)))]) (fun _ => True) ?_ ?_
    · have hb := cvL_nth (n := n) (i := (nth s k).toNat) (by omega) (g ||| maskTo s k)
      rw [hb]
      have ea : g ||| maskTo s (k + 1) = g ||| maskTo s k ||| 2 ^ (nth s k).toNat := by rw [maskTo, Nat.or_assoc]
      refine cw_cond rfl (fun h2 => ?_) (fun h2 => ?_)
      · skip
        have h3 : (g ||| maskTo s k).testBit (nth s k).toNat = false := by rw [Bool.not_eq_true'] at h2; exact h2
        have e5 : ((fr g (maskTo s (k + 1)) : Nat) : Int) = (fr g (maskTo s k) : Int) + 1 := by rw [maskTo, hput, if_neg (by rw [h3]; decide)]; omega
        refine cw_seq (cw_region (sr rfl rfl rfl ((q_move rfl rfl)) (sr rfl rfl rfl ((q_move rfl rfl)) (sr rfl rfl rfl ((q_move rfl rfl)) ?_))))
        refine sr rfl rfl rfl ((q_indexN rfl rfl rfl (by exact fun w hw => Stb.cl (by assumption) hw) (by intro hc; omega))) ?_
        refine sr rfl rfl rfl ((q_loadEl rfl rfl rfl (by exact fun w hw => Stb.cl (by assumption) hw) (by intro hc; omega))) ?_
        refine sr rfl rfl rfl ((q_index rfl rfl rfl (by exact fun w hw => rd_own hw (by exact .head _)) (by intro hc; omega))) ?_
        refine sw_eff0 rfl rfl (e_storeEl1 (i := 0) rfl rfl rfl rfl rfl (by omega)) ?_
        refine sw_nil (post_then (cw_region (sr rfl rfl rfl ((q_move rfl rfl)) ?_)))
        refine sr rfl rfl rfl ((q_add rfl rfl rfl (by intro hc; omega))) ?_
        refine sr rfl rfl rfl ((q_assign rfl rfl)) (sw_nil ?_)
        refine post_meet () ?_ (fun w3 hw3 => ?_) trivial
        · rw [e5]
          exact (by exact .cons rfl (.cons rfl (.cons rfl (.cons rfl .nil))))
        · rw [ea, ← cvL_set (by omega)]
          exact hw3
      · skip
        have h3 : (g ||| maskTo s k).testBit (nth s k).toNat = true := by rw [Bool.not_eq_false'] at h2; exact h2
        have e5 : fr g (maskTo s (k + 1)) = fr g (maskTo s k) := by rw [maskTo, hput, if_pos h3, Nat.add_zero]
        refine cw_skip ?_
        refine post_meet () ?_ (fun w3 hw3 => ?_) trivial
        · rw [e5]
          exact (by exact .cons rfl (.cons rfl (.cons rfl (.cons rfl .nil))))
        · rw [ea, cvL_same h3]
          exact hw3
    · intro _ _
      refine post_blk (post_then (cw_region (sr rfl rfl rfl ((q_move rfl rfl)) ?_)))
      refine sr rfl rfl rfl ((q_add rfl rfl rfl (by intro hc; omega))) ?_
      refine sr rfl rfl rfl ((q_assign rfl rfl)) (sw_nil ?_)
      exact post_next (k + 1) (by exact .cons rfl (.cons rfl (.cons rfl (.cons rfl .nil)))) (fun _ h => h) (by omega) (by omega)
  · skip
    have hk' : k = s.length := by simp only [decide_eq_false_iff_not] at h; omega
    subst hk'
    refine cw_exit (post_then_x (post_then_x (post_blk_eq (post_then (cw_seq (cw_region (sr rfl rfl rfl ((q_move rfl rfl)) (sr rfl rfl rfl ((q_assign rfl rfl)) (sw_nil (post_then (cw_ret (post_ret1 rfl (resOk_tmp rfl) ?_))))))))))))
    exact fun w' hw => ⟨rfl, (fun w h => Cl.sel (by exact .nil _) w h) _ hw⟩
end Go.Proofs.YtomjbfeafodfbaaGreat

set_option autoImplicit false
set_option maxRecDepth 100000
namespace Go.Proofs.YtomjbfeafodfbaaGreat
open Go.Sx
open Enc (enc val)
def exA : ByteArray := ⟨#[97]⟩
def exB : ByteArray := ⟨#[98]⟩
def exU (a b c d e f : SlV) : List Un := [⟨exA, ByteArray.empty, ByteArray.empty, 100, 10, 0, 0, 10, a, b, [0], [4]⟩, ⟨exB, ByteArray.empty, ByteArray.empty, 100, 10, 0, 10, 20, c, d, [5], [0]⟩, ⟨exA, ByteArray.empty, ByteArray.empty, 120, 10, 1, 0, 10, e, f, [0], [5]⟩]
def exT : List Wan := [⟨exA, ByteArray.empty, ByteArray.empty, 100, 10⟩, ⟨exB, ByteArray.empty, ByteArray.empty, 100, 10⟩]
def exW : Wts := ⟨1, 1, 1, 2⟩
section
variable (a b c d e f : SlV)
theorem ex_ph : phoneB exA = true ∧ phoneB exB = true ∧ besideB ByteArray.empty = true := ⟨by decide +kernel, by decide +kernel, by decide +kernel⟩
theorem ex_voice : voiceB (exU a b c d e f) = true := by
  simp [voiceB, exU, unB, ex_ph, inB, vecB, eqB, nth]
theorem ex_begin : beginE (exU a b c d e f) exT exW = 0 := by
  have h2 : exT.all waB = true := by simp [exT, waB, ex_ph, inB]
  have h3 : wtB exW = true := by decide
  rw [beginE, if_neg (by simp [exU, exT]), ex_voice, h2, h3]; rfl
theorem ex_ne : ¬ exA = exB ∧ ¬ exB = exA := ⟨by decide, by decide⟩
theorem ex_i0 : idxs (exU a b c d e f) 3 exA = [0, 2] := by simp [idxs, exU, nth, List.range, List.range.loop, ex_ne]
theorem ex_i1 : idxs (exU a b c d e f) 3 exB = [1] := by simp [idxs, exU, nth, List.range, List.range.loop, ex_ne]
theorem ex_poss : possP (exU a b c d e f) exT = true := by
  have h0 : nth exT 0 = ⟨exA, ByteArray.empty, ByteArray.empty, 100, 10⟩ := rfl
  have h1 : nth exT 1 = ⟨exB, ByteArray.empty, ByteArray.empty, 100, 10⟩ := rfl
  have hl : (exU a b c d e f).length = 3 := rfl
  simp [possP, exT, List.range, List.range.loop, hl, nth, ex_i0, ex_i1]
theorem ex_tl : (tsk (exU a b c d e f) exT exW).tl 2 = [[0, 1], [2, 1]] := by
  have hl : (exU a b c d e f).length = 3 := rfl
  have h0 : (tsk (exU a b c d e f) exT exW).us 0 = [0, 2] := ex_i0 a b c d e f
  have h1 : (tsk (exU a b c d e f) exT exW).us 1 = [1] := ex_i1 a b c d e f
  simp [Tsk.tl, show (tsk (exU a b c d e f) exT exW).T = 2 from rfl, h0, h1]
theorem ex_c1 : (tsk (exU a b c d e f) exT exW).tc 0 [0, 1] = 0 := by rfl
theorem ex_c2 : (tsk (exU a b c d e f) exT exW).tc 0 [2, 1] = 20 := by rfl
theorem ex_cells {cells : List Int} (h : TabP (exU a b c d e f) exT exW cells) : cells = [0, 0, 20, 0, 0, 0] := by
  obtain ⟨h1, h2⟩ := h
  have hl : (exU a b c d e f).length = 3 := rfl
  have r0 : (tsk (exU a b c d e f) exT exW).R 2 0 = 0 := rfl
  have r2 : (tsk (exU a b c d e f) exT exW).R 2 2 = 20 := rfl
  have r1 : (tsk (exU a b c d e f) exT exW).R 1 1 = 0 := rfl
  have i0 : idxs (exU a b c d e f) (exU a b c d e f).length (nth exT 0).phone = [0, 2] := ex_i0 a b c d e f
  have i1 : idxs (exU a b c d e f) (exU a b c d e f).length (nth exT 1).phone = [1] := ex_i1 a b c d e f
  have ht : exT.length = 2 := rfl
  have q0 := h2 0 0 (by decide) (show _ < 3 by decide)
  have q1 := h2 0 1 (by decide) (show _ < 3 by decide)
  have q2 := h2 0 2 (by decide) (show _ < 3 by decide)
  have q3 := h2 1 0 (by decide) (show _ < 3 by decide)
  have q4 := h2 1 1 (by decide) (show _ < 3 by decide)
  have q5 := h2 1 2 (by decide) (show _ < 3 by decide)
  rw [i0, if_pos (by decide)] at q0 q2
  rw [i0, if_neg (by decide)] at q1
  rw [i1, if_neg (by decide)] at q3 q5
  rw [i1, if_pos (by decide)] at q4
  have q0' : nth cells 0 = 0 := q0.trans r0
  have q1' : nth cells 1 = 0 := q1
  have q2' : nth cells 2 = 20 := q2.trans r2
  have q3' : nth cells 3 = 0 := q3
  have q4' : nth cells 4 = 0 := q4.trans r1
  have q5' : nth cells 5 = 0 := q5
  have h1' : cells.length = 6 := h1
  match cells, h1' with
  | [x0, x1, x2, x3, x4, x5], _ =>
    simp only [nth, List.getD, List.getElem?_cons_zero, List.getElem?_cons_succ, Option.getD_some] at q0' q1' q2' q3' q4' q5'
    rw [q0', q1', q2', q3', q4', q5']
theorem ex_best {s : List Int} {k : Int} (h : BestSeq (tsk (exU a b c d e f) exT exW) s k) : s = [0, 1] ∧ k = 0 := by
  obtain ⟨h1, h2, h3⟩ := h
  have hT : (tsk (exU a b c d e f) exT exW).T = 2 := rfl
  rw [hT, ex_tl] at h1 h3
  simp only [List.mem_cons, List.not_mem_nil, or_false] at h1
  rcases h1 with rfl | rfl
  · rw [ex_c1] at h2; exact ⟨rfl, h2⟩
  · rw [ex_c2] at h2
    rcases h3 [0, 1] (by simp) with h4 | h4
    · simp at h4
    · rw [ex_c1] at h4
      rcases h4 with h4 | h4 <;> simp only at h4 <;> omega
theorem ex_bests {l : List Itm} {outs : List Sq} (h : (tsk (exU a b c d e f) exT exW).BF l (outs.map keyS)) (hl : l = [] ∨ outs.length = 5) : ∃ q1 q2 : Sq, outs = [q1, q2] ∧ q2.cost = 20 := by
  have hT : (tsk (exU a b c d e f) exT exW).T = 2 := rfl
  have hc := h.cov
  rw [hT, ex_tl] at hc
  have hlen := hc.length_eq
  simp only [List.length_append, List.length_map, List.length_cons, List.length_nil] at hlen
  have hl0 : l = [] := by
    rcases hl with hl | hl
    · exact hl
    · omega
  subst hl0
  simp only [List.flatMap_nil, List.nil_append, List.length_nil] at hc hlen
  match outs, hlen with
  | [q1, q2], _ =>
    refine ⟨q1, q2, rfl, ?_⟩
    simp only [List.map_cons, List.map_nil] at hc
    have c1 := h.cst (keyS q1) (by simp)
    have c2 := h.cst (keyS q2) (by simp)
    have hs := h.srt
    simp only [List.map_cons, List.map_nil, List.pairwise_cons, List.mem_cons, List.not_mem_nil, or_false, forall_eq] at hs
    have m1 : (keyS q1).1 ∈ [[(0 : Int), 1], [2, 1]] := hc.mem_iff.1 (by simp)
    have m2 : (keyS q2).1 ∈ [[(0 : Int), 1], [2, 1]] := hc.mem_iff.1 (by simp)
    have m3 : [(0 : Int), 1] ∈ [(keyS q1).1, (keyS q2).1] := hc.mem_iff.2 (by simp)
    have m4 : [(2 : Int), 1] ∈ [(keyS q1).1, (keyS q2).1] := hc.mem_iff.2 (by simp)
    simp only [List.mem_cons, List.not_mem_nil, or_false] at m1 m2 m3 m4
    have e20 : (keyS q2).2 = q2.cost := rfl
    rcases m2 with m2 | m2
    · rcases m1 with m1 | m1
      · rw [m1, m2] at m4; simp at m4
      · rw [m1, ex_c2] at c1
        rw [m2, ex_c1] at c2
        have := hs.1
        simp only [seqLt] at this
        rcases this with h5 | h5 <;> omega
    · rw [m2, ex_c2] at c2
      omega
end
def exS : List (List Int) := [[0, 1, 2], [0, 3], [1, 2], [3]]
theorem exS_ms : msOf exS = [7, 9, 6, 8] := by decide +kernel
theorem exS_cov : covE 4 exS 1000 = 0 := by decide +kernel
theorem exS_poss : possN 4 (msOf exS) = true := by rw [exS_ms]; decide +kernel
theorem exS_wid : wid (msOf exS) = 3 := by rw [exS_ms]; decide +kernel
theorem exS_k {k : Nat} (h : GOk 4 (msOf exS) k) (h0 : fr (giter 4 (msOf exS) k).g (fullN 4) = 0) : k = 2 := by
  rw [exS_ms] at h h0
  have a0 : fr (giter 4 [7, 9, 6, 8] 0).g (fullN 4) = 4 := by decide +kernel
  have a1 : fr (giter 4 [7, 9, 6, 8] 1).g (fullN 4) = 1 := by decide +kernel
  have a2 : fr (giter 4 [7, 9, 6, 8] 2).g (fullN 4) = 0 := by decide +kernel
  by_cases e : 2 < k
  · exact absurd a2 (h 2 e).1
  · match k, e with
    | 0, _ => omega
    | 1, _ => omega
    | 2, _ => rfl
    | k + 3, e => omega
theorem exS_out : (giter 4 (msOf exS) 2).out = [0, 1] := by rw [exS_ms]; decide +kernel
theorem exS_sh : (giter 4 (msOf exS) 2).sh = [3, 3, 3, 1] := by rw [exS_ms]; decide +kernel
theorem exS_scale : scaleTo 3 = 50820 := by decide +kernel
theorem exS_prov : provB 4 (msOf exS) [9240, 9240, 9240, 27720] 50820 = true ∧ provV 4 (msOf exS) [9240, 9240, 9240, 27720] 50820 = 2 := by rw [exS_ms]; decide +kernel
theorem srt_two {l : List Int} (hp : l.Perm [0, 1]) (hs : Srt l 0 l.length) : l = [0, 1] := by
  have hl := hp.length_eq
  match l, hl with
  | [x, y], _ =>
    have h1 := hs 0 1 (by omega) (by omega) (by simp)
    simp only [nth, List.getD, List.getElem?_cons_zero, List.getElem?_cons_succ, Option.getD_some] at h1
    have m1 : x ∈ [(0 : Int), 1] := hp.mem_iff.1 (by simp)
    have m2 : y ∈ [(0 : Int), 1] := hp.mem_iff.1 (by simp)
    have m3 : (0 : Int) ∈ [x, y] := hp.mem_iff.2 (by simp)
    have m4 : (1 : Int) ∈ [x, y] := hp.mem_iff.2 (by simp)
    simp only [List.mem_cons, List.not_mem_nil, or_false] at m1 m2 m3 m4
    rcases m1 with rfl | rfl <;> rcases m2 with rfl | rfl <;> simp_all
end Go.Proofs.YtomjbfeafodfbaaGreat

set_option autoImplicit false
set_option maxRecDepth 100000
namespace Go.Proofs.YtomjbfeafodfbaaGreat
open Go.Sx
open Enc (enc val)
def bst (vl : Nat → Option Int) : Nat → Nat → Option (Int × Nat)
  | _, 0 => none
  | lo, c + 1 => match vl lo with
    | none => bst vl (lo + 1) c
    | some v => match bst vl (lo + 1) c with
      | none => some (v, lo)
      | some (b, g) => if v ≤ b then some (v, lo) else some (b, g)
theorem bst_spec {vl : Nat → Option Int} : ∀ {c lo : Nat} {v : Int} {g : Nat}, bst vl lo c = some (v, g) → (lo ≤ g ∧ g < lo + c) ∧ vl g = some v ∧ ∀ g' v', lo ≤ g' → g' < lo + c → vl g' = some v' → v ≤ v' ∧ (g' < g → v < v')
  | 0, _, _, _, h => by simp [bst] at h
  | c + 1, lo, v, g, h => by
    rw [bst] at h
    cases h1 : vl lo with
    | none =>
      rw [h1] at h
      obtain ⟨h2, h3, h4⟩ := bst_spec h
      refine ⟨by omega, h3, fun g' v' a b e => ?_⟩
      by_cases hg : g' = lo
      · rw [hg, h1] at e; cases e
      · exact h4 g' v' (by omega) (by omega) e
    | some u =>
      rw [h1] at h
      cases h5 : bst vl (lo + 1) c with
      | none =>
        rw [h5] at h
        simp only [Option.some.injEq, Prod.mk.injEq] at h
        obtain ⟨rfl, rfl⟩ := h
        refine ⟨by omega, h1, fun g' v' a b e => ?_⟩
        by_cases hg : g' = lo
        · rw [hg, h1] at e; cases e; exact ⟨Int.le_refl _, fun hh => by omega⟩
        · exfalso
          have : ∀ {c lo : Nat}, bst vl lo c = none → ∀ g, lo ≤ g → g < lo + c → vl g = none := by
            intro c
            induction c with
            | zero => intro lo _ g a b; omega
            | succ c ih =>
              intro lo hh g a b
              rw [bst] at hh
              cases k1 : vl lo with
              | none =>
                rw [k1] at hh
                by_cases hgl : g = lo
                · rw [hgl, k1]
                · exact ih hh g (by omega) (by omega)
              | some z =>
                rw [k1] at hh
                cases k2 : bst vl (lo + 1) c with
                | none => rw [k2] at hh; cases hh
                | some y => rw [k2] at hh; simp only at hh; split at hh <;> cases hh
          rw [this h5 g' (by omega) (by omega)] at e; cases e
      | some y =>
        obtain ⟨b, g2⟩ := y
        rw [h5] at h
        obtain ⟨h2, h3, h4⟩ := bst_spec h5
        simp only at h
        split at h
        · rename_i hle
          simp only [Option.some.injEq, Prod.mk.injEq] at h
          obtain ⟨rfl, rfl⟩ := h
          refine ⟨by omega, h1, fun g' v' a b' e => ?_⟩
          by_cases hg : g' = lo
          · rw [hg, h1] at e; cases e; exact ⟨Int.le_refl _, fun hh => by omega⟩
          · have := h4 g' v' (by omega) (by omega) e
            exact ⟨by omega, fun hh => by omega⟩
        · rename_i hle
          simp only [Option.some.injEq, Prod.mk.injEq] at h
          obtain ⟨rfl, rfl⟩ := h
          refine ⟨by omega, h3, fun g' v' a b' e => ?_⟩
          by_cases hg : g' = lo
          · rw [hg, h1] at e; cases e; exact ⟨by omega, fun _ => by omega⟩
          · exact h4 g' v' (by omega) (by omega) e
theorem bst_ne {vl : Nat → Option Int} {g : Nat} {v : Int} (h : vl g = some v) : ∀ {c lo : Nat}, lo ≤ g → g < lo + c → bst vl lo c ≠ none
  | 0, lo, a, b => by omega
  | c + 1, lo, a, b => by
    rw [bst]
    cases k1 : vl lo with
    | none =>
      have : g ≠ lo := fun e => by rw [e, k1] at h; cases h
      exact bst_ne h (by omega) (by omega)
    | some z =>
      cases k2 : bst vl (lo + 1) c with
      | none => simp
      | some y => simp only; split <;> simp
structure CutP where
  fl : List (List Int)
  pl : List (List Int)
  L : Nat
namespace CutP
variable (P : CutP)
def n : Nat := P.fl.length
def m : Nat := P.pl.length
def S (p : Nat) : Nat → Int
  | 0 => 0
  | f + 1 => S p f + dist (nth P.fl f) (nth P.pl p)
def D : Nat → Nat → Option Int
  | 0, f => if f = P.n then some 0 else none
  | q + 1, f => (bst (fun g => (D q g).map fun v => P.S (P.m - (q + 1)) g + v) (f + P.L) (P.n + 1 - (f + P.L))).map fun y => y.1 - P.S (P.m - (q + 1)) f
def V (q : Nat) (g : Nat) : Option Int := (P.D q g).map fun v => P.S (P.m - (q + 1)) g + v
def B (q lo : Nat) : Option (Int × Nat) := bst (P.V q) lo (P.n + 1 - lo)
theorem D_succ (q f : Nat) : P.D (q + 1) f = (P.B q (f + P.L)).map fun y => y.1 - P.S (P.m - (q + 1)) f := rfl
theorem B_step (q lo : Nat) (h : lo ≤ P.n) : P.B q lo = match P.V q lo with
    | none => P.B q (lo + 1)
    | some v => match P.B q (lo + 1) with
      | none => some (v, lo)
      | some (b, g) => if v ≤ b then some (v, lo) else some (b, g) := by
  obtain ⟨c, hc⟩ : ∃ c, P.n + 1 - lo = c + 1 := ⟨P.n - lo, by omega⟩
  have hc2 : P.n + 1 - (lo + 1) = c := by omega
  simp only [B, hc, hc2, bst]
theorem B_out (q lo : Nat) (h : P.n < lo) : P.B q lo = none := by
  have : P.n + 1 - lo = 0 := by omega
  simp [B, this, bst]
def pth : Nat → Nat → List Int
  | 0, _ => []
  | q + 1, f => match P.B q (f + P.L) with
    | none => []
    | some (_, g) => ((g : Int) - f) :: pth q g
structure Ok : Prop where
  fv : ∀ f, f < P.n → vecB (nth P.fl f) = true
  pv : ∀ p, p < P.m → vecB (nth P.pl p) = true
  eq : ∀ f p, f < P.n → p < P.m → (nth P.fl f).length = (nth P.pl p).length
  n2 : P.n ≤ 2000
  m2 : P.m ≤ 2000
  l1 : 1 ≤ P.L ∧ P.L ≤ 100
variable {P}
theorem S_le (h : P.Ok) {p : Nat} (hp : p < P.m) {f : Nat} : ∀ {g : Nat}, f ≤ g → g ≤ P.n → 0 ≤ P.S p g - P.S p f ∧ P.S p g - P.S p f ≤ 800000 * ((g : Int) - f)
  | 0, a, _ => by
    have : f = 0 := by omega
    subst this; simp
  | g + 1, a, b => by
    by_cases e : f = g + 1
    · subst e; simp
    · have h1 := S_le h hp (f := f) (g := g) (by omega) (by omega)
      have h2 := dist_bd (h.fv g (by omega)) (h.pv p hp)
      simp only [S]
      omega
theorem S_bd (h : P.Ok) {p : Nat} (hp : p < P.m) {f : Nat} (hf : f ≤ P.n) : 0 ≤ P.S p f ∧ P.S p f ≤ 800000 * f := by
  have := S_le h hp (f := 0) (g := f) (Nat.zero_le _) hf
  simp only [S] at this; omega
theorem D_bd (h : P.Ok) : ∀ {q f : Nat} {v : Int}, q ≤ P.m → f ≤ P.n → P.D q f = some v → 0 ≤ v ∧ v ≤ 800000 * ((P.n : Int) - f)
  | 0, f, v, _, hf, e => by
    simp only [D] at e
    split at e
    · cases e; omega
    · cases e
  | q + 1, f, v, hq, hf, e => by
    rw [D_succ] at e
    cases hB : P.B q (f + P.L) with
    | none => rw [hB] at e; cases e
    | some y =>
      obtain ⟨b, g⟩ := y
      rw [hB] at e
      simp only [Option.map_some, Option.some.injEq] at e
      obtain ⟨h1, h2, _⟩ := bst_spec hB
      simp only [V, Option.map_eq_some_iff] at h2
      obtain ⟨u, h3, h4⟩ := h2
      have h5 := D_bd h (by omega) (by omega) h3
      have h6 := S_le h (p := P.m - (q + 1)) (by omega) (f := f) (g := g) (by omega) (by omega)
      omega
theorem D_some (h : P.Ok) : ∀ {q f : Nat}, q ≤ P.m → f ≤ P.n → q * P.L ≤ P.n - f → (q = 0 → f = P.n) → ∃ v, P.D q f = some v
  | 0, f, _, _, _, e => ⟨0, by simp [D, e rfl]⟩
  | q + 1, f, hq, hf, hl, _ => by
    rw [Nat.add_mul, Nat.one_mul] at hl
    have hL := h.l1
    have key : ∃ g v, f + P.L ≤ g ∧ g ≤ P.n ∧ P.D q g = some v := by
      by_cases hq0 : q = 0
      · subst hq0
        obtain ⟨v, hv⟩ := D_some h (q := 0) (f := P.n) (by omega) (Nat.le_refl _) (by simp) (fun _ => rfl)
        exact ⟨P.n, v, by omega, Nat.le_refl _, hv⟩
      · obtain ⟨v, hv⟩ := D_some h (q := q) (f := f + P.L) (by omega) (by omega) (by omega) (fun e => absurd e hq0)
        exact ⟨f + P.L, v, Nat.le_refl _, by omega, hv⟩
    obtain ⟨g, v, h1, h2, h3⟩ := key
    have hV : P.V q g = some (P.S (P.m - (q + 1)) g + v) := by simp [V, h3]
    have hne := bst_ne hV (lo := f + P.L) (c := P.n + 1 - (f + P.L)) h1 (by omega)
    rw [D_succ]
    cases hB : P.B q (f + P.L) with
    | none => exact absurd hB hne
    | some y => exact ⟨_, rfl⟩
def oM (x : Option Int) : Int := x.getD 9223372036854775807
def bestI (y : Option (Int × Nat)) : Int := match y with
  | some (v, _) => v
  | none => 9223372036854775807
def atI (y : Option (Int × Nat)) : Int := match y with
  | some (_, g) => g
  | none => -1
def RestOk (P : CutP) (q : Nat) (l : List Int) : Prop := l.length = P.n + 1 ∧ ∀ f, f ≤ P.n → nth l f = oM (P.D q f)
def EndOk (P : CutP) (q : Nat) (l : List Int) : Prop := l.length = P.n + 1 ∧ ∀ f, f ≤ P.n → nth l f = atI (P.B q (f + P.L))
end CutP
end Go.Proofs.YtomjbfeafodfbaaGreat

set_option autoImplicit false
set_option maxRecDepth 100000
namespace Go.Proofs.YtomjbfeafodfbaaGreat
open Go.Sx
open Enc (enc val)
theorem cutE_ok {fl pl : List (List Int)} {least : Int} (h : cutE fl pl least = 0) : ∃ L : Nat, least = L ∧ (⟨fl, pl, L⟩ : CutP).Ok := by
  unfold cutE at h
  split at h
  · cases h
  · rename_i h1
    split at h
    · rename_i h2
      simp only [Bool.and_eq_true, inB, decide_eq_true_eq] at h2
      obtain ⟨⟨h3, h4⟩, h5⟩ := h2
      have hall : ∀ l ∈ fl ++ pl, vecB l = true ∧ l.length = (nth (fl ++ pl) 0).length := fun l hl => by
        have := List.all_eq_true.1 h5 l hl
        simpa using this
      have hf : ∀ f, f < fl.length → nth fl f ∈ fl ++ pl := fun f hf => List.mem_append_left _ (by rw [nth_get hf]; exact List.getElem_mem hf)
      have hp : ∀ p, p < pl.length → nth pl p ∈ fl ++ pl := fun p hp => List.mem_append_right _ (by rw [nth_get hp]; exact List.getElem_mem hp)
      refine ⟨least.toNat, by omega, fun f h => (hall _ (hf f h)).1, fun p h => (hall _ (hp p h)).1, fun f p h h' => ?_, by simp only [CutP.n]; omega, by simp only [CutP.m]; omega, by simp only; omega⟩
      exact (hall _ (hf f h)).2.trans (hall _ (hp p h')).2.symm
    · cases h
theorem cut_bad (sf sp : SlV) (fv pv : List SlV) (fl pl : List (List Int)) (least : Int) (w : World) (hf : Stb w [] (fun w' => Mt w' sf.v fv fl)) (hp : Stb w [] (fun w' => Mt w' sp.v pv pl)) (hE : cutE fl pl least ≠ 0) :
    Calls Tryz.prog 30 #[sf.v, sp.v, .int .i64 least] w fun e w' => e = .returned (.tuple #[.slice none 0 0, .int .i64 0, .int .i64 (cutE fl pl least)]) ∧ Cl w [] [] w' := by
  refine calls_cw (vs := [_, _, _]) Tryz.func30 rfl Tryz.ntmps30 rfl (Cl.start0 w) (cw_seq (cw_region (sr rfl rfl rfl ((q_assign rfl rfl)) (sr rfl rfl rfl ((q_assign rfl rfl)) (sr rfl rfl rfl ((q_assign rfl rfl)) (sw_nil (post_then (cw_seq (cw_seq (cw_region (sr rfl rfl rfl ((q_move rfl rfl)) (sr rfl rfl rfl ((q_move rfl rfl)) (sr rfl rfl rfl ((q_move rfl rfl)) (sw_step rfl rfl rfl (q_call (CanCall.mk Tryz.call71) rfl (.cons rfl inferInstance (.cons rfl inferInstance (.cons rfl inferInstance (.nil)))) (fun _ w hw => callq hw (cutting_spec sf sp fv pv fl pl least w (stb_arg hw hf) (stb_arg hw hp)))) (sr rfl rfl rfl ((q_assign rfl rfl)) (sw_nil (post_then (cw_seq (cw_region (sr rfl rfl rfl ((q_move rfl rfl)) (sr rfl rfl rfl ((q_neq rfl rfl rfl)) (sw_nil (post_then ?_)))))))))))))))))))))))
  refine cw_cond rfl (fun h => ?_) (fun h => ?_)
  · skip
    refine cw_seq (cw_region (sr rfl rfl rfl ((q_move rfl rfl)) (sr rfl rfl rfl ((q_assign rfl rfl)) (sr rfl rfl rfl ((q_assign rfl rfl)) (sr rfl rfl rfl ((q_assign rfl rfl)) (sw_nil (post_then (cw_ret (post_then_r (post_ret3 rfl (resOk_tmp rfl) (resOk_tmp rfl) (resOk_tmp rfl) ?_))))))))))
    exact fun w' hw => ⟨rfl, hw⟩
  · skip
    exfalso
    simp only [Bool.not_eq_false', decide_eq_true_eq] at h
    exact hE h
theorem cut_none (sf sp : SlV) (fv pv : List SlV) (fl pl : List (List Int)) (least : Int) (w : World) (hf : Stb w [] (fun w' => Mt w' sf.v fv fl)) (hp : Stb w [] (fun w' => Mt w' sp.v pv pl)) (hE : cutE fl pl least = 0) (hN : fl.length < pl.length * least ∨ pl.length = 0 ∧ 0 < fl.length) :
    Calls Tryz.prog 30 #[sf.v, sp.v, .int .i64 least] w fun e w' => e = .returned (.tuple #[.slice none 0 0, .int .i64 0, .int .i64 5]) ∧ Cl w [] [] w' := by
  have h1 : Stb w [] (RdL sf.v fv) := stb_map hf fun _ h => h.l
  have h2 : Stb w [] (RdL sp.v pv) := stb_map hp fun _ h => h.l
  have n1 := hf.here.n
  have n2 := hp.here.n
  obtain ⟨L, rfl, ok⟩ := cutE_ok hE
  have hL := ok.l1
  have hm2 := ok.m2
  simp only [CutP.m] at hm2 hL
  have hmul : pl.length * L ≤ 2000 * 100 := Nat.mul_le_mul hm2 hL.2
  have emul : ((pv.length : Int) * (L : Int)) = ((pl.length * L : Nat) : Int) := by rw [Int.natCast_mul, n2]
  have emul2 : ((pl.length : Int) * (L : Int)) = ((pl.length * L : Nat) : Int) := by rw [Int.natCast_mul]
  rw [emul2] at hN
  refine calls_cw (vs := [_, _, _]) Tryz.func30 rfl Tryz.ntmps30 rfl (Cl.start0 w) (cw_seq (cw_region (sr rfl rfl rfl ((q_assign rfl rfl)) (sr rfl rfl rfl ((q_assign rfl rfl)) (sr rfl rfl rfl ((q_assign rfl rfl)) (sw_nil (post_then (cw_seq (cw_seq (cw_region (sr rfl rfl rfl ((q_move rfl rfl)) (sr rfl rfl rfl ((q_move rfl rfl)) (sr rfl rfl rfl ((q_move rfl rfl)) (sw_step rfl rfl rfl (q_call (CanCall.mk Tryz.call71) rfl (.cons rfl inferInstance (.cons rfl inferInstance (.cons rfl inferInstance (.nil)))) (fun _ w hw => callq hw (cutting_spec sf sp fv pv fl pl L w (stb_arg hw hf) (stb_arg hw hp)))) (sr rfl rfl rfl ((q_assign rfl rfl)) (sw_nil (post_then (cw_seq (cw_region (sr rfl rfl rfl ((q_move rfl rfl)) (sr rfl rfl rfl ((q_neq rfl rfl rfl)) (sw_nil (post_then ?_)))))))))))))))))))))))
  refine cw_cond rfl (fun h => ?_) (fun h => ?_)
  · skip
    exfalso
    simp [hE] at h
  · skip
    refine cw_skip (post_then (cw_seq (cw_region (sr rfl rfl rfl ((q_move rfl rfl)) ?_))))
    refine sr rfl rfl rfl ((q_len rfl (.cons rfl inferInstance (.nil)) (by exact fun w hw => Stb.cl (by assumption) hw))) ?_
    refine sr rfl rfl rfl ((q_move rfl rfl)) ?_
    refine sr rfl rfl rfl ((q_len rfl (.cons rfl inferInstance (.nil)) (by exact fun w hw => Stb.cl (by assumption) hw))) ?_
    refine sr rfl rfl rfl ((q_assign rfl rfl)) (sr rfl rfl rfl ((q_assign rfl rfl)) (sw_nil (post_then (cw_seq (cw_seq (cw_region (sr rfl rfl rfl ((q_move rfl rfl)) (sr rfl rfl rfl ((q_move rfl rfl)) ?_))))))))
    refine sr rfl rfl rfl ((q_mul rfl rfl rfl (by intro hc; omega))) ?_
    refine sr rfl rfl rfl ((q_move rfl rfl)) (sr rfl rfl rfl ((q_gtr rfl rfl rfl)) (sr rfl rfl rfl ((q_move rfl rfl)) (sr rfl rfl rfl ((q_move rfl rfl)) (sr rfl rfl rfl ((q_eql rfl rfl rfl)) (sr rfl rfl rfl ((q_move rfl rfl)) (sr rfl rfl rfl ((q_move rfl rfl)) (sr rfl rfl rfl ((q_gtr rfl rfl rfl)) (sr rfl rfl rfl ((q_and2 rfl rfl rfl)) (sr rfl rfl rfl ((q_or2 rfl rfl rfl)) (sw_nil (post_then ?_)))))))))))
    refine cw_cond rfl (fun h3 => ?_) (fun h3 => ?_)
    · skip
      refine cw_seq (cw_region (sr rfl rfl rfl ((q_assign rfl rfl)) (sr rfl rfl rfl ((q_assign rfl rfl)) (sr rfl rfl rfl ((q_assign rfl rfl)) (sw_nil (post_then (cw_ret (post_then_r (post_ret3 rfl (resOk_tmp rfl) (resOk_tmp rfl) (resOk_tmp rfl) ?_)))))))))
      exact fun w' hw => ⟨rfl, hw⟩
    · skip
      exfalso
      simp only [emul, Bool.or_eq_false_iff, Bool.and_eq_false_iff, decide_eq_false_iff_not] at h3
      omega
end Go.Proofs.YtomjbfeafodfbaaGreat

set_option autoImplicit false
set_option maxRecDepth 100000
namespace Go.Proofs.YtomjbfeafodfbaaGreat
open Go.Sx
open Enc (enc val)
theorem perm_row {α : Type} {R N S O E : α} {T : List α} : (R :: N :: S :: O :: E :: T).Perm (S :: O :: N :: E :: R :: T) := by
  have h : [R, N, S, O, E].Perm [S, O, N, E, R] :=
    (List.perm_middle (l₁ := [R, N]) (a := S) (l₂ := [O, E])).trans (.cons S ((List.perm_middle (l₁ := [R, N]) (a := O) (l₂ := [E])).trans (.cons O ((List.Perm.swap N R [E]).trans (.cons N (.swap E R []))))))
  exact h.append_right T
structure CS where
  sre : SlV
  rl : List Int
  G : List (SlV × List Int)
def rowG (g : SlV × List Int) : Asn := ownL 3 g.1.v g.2
def endsL (m : Nat) (G : List (SlV × List Int)) : List SlV := List.replicate (m - G.length) ⟨none, 0, 0⟩ ++ G.map (·.1)
theorem endsL_len {m : Nat} {G : List (SlV × List Int)} (h : G.length ≤ m) : (endsL m G).length = m := by simp [endsL]; omega
theorem endsL_set {m : Nat} {G : List (SlV × List Int)} (h : G.length < m) (g : SlV × List Int) : (endsL m G).set (m - G.length - 1) g.1 = endsL m (g :: G) := by
  unfold endsL
  rw [List.set_append_left _ _ (by simp; omega)]
  have e : List.replicate (m - G.length) (⟨none, 0, 0⟩ : SlV) = List.replicate (m - G.length - 1) ⟨none, 0, 0⟩ ++ [⟨none, 0, 0⟩] := by
    rw [← List.replicate_succ', show m - G.length - 1 + 1 = m - G.length by omega]
  rw [e, List.set_append_right _ _ (by simp), List.length_replicate, Nat.sub_self]
  simp [show m - (G.length + 1) = m - G.length - 1 by omega]
theorem endsL_nth {m : Nat} {G : List (SlV × List Int)} (h : G.length ≤ m) {i : Nat} (hi : i < G.length) : nth (endsL m G) (m - G.length + i) = (nth G i).1 := by
  rw [nth_get (by rw [endsL_len h]; omega), nth_get hi]
  simp only [endsL]
  rw [List.getElem_append_right (by simp)]
  simp
structure CS.Inv (P : CutP) (y : CS) : Prop where
  q : y.G.length ≤ P.m
  r : P.RestOk y.G.length y.rl
  e : ∀ i, i < y.G.length → P.EndOk (y.G.length - 1 - i) (nth y.G i).2
set_option maxHeartbeats 4000000 in
theorem cut_yes (sf sp : SlV) (fv pv : List SlV) (P : CutP) (w : World) (hf : Stb w [] (fun w' => Mt w' sf.v fv P.fl)) (hp : Stb w [] (fun w' => Mt w' sp.v pv P.pl)) (hE : cutE P.fl P.pl P.L = 0) (ok : P.Ok) (hN : P.m * P.L ≤ P.n) (hN2 : P.m = 0 → P.n = 0) :
    Calls Tryz.prog 30 #[sf.v, sp.v, .int .i64 P.L] w fun e w' => ∃ y : SlV × List Int, e = .returned (.tuple #[y.1.v, .int .i64 ((P.D P.m 0).getD 0), .int .i64 0]) ∧ y.2 = P.pth P.m 0 ∧ Cl w [] [ownL 3 y.1.v y.2] w' := by
  have h1 : Stb w [] (RdL sf.v fv) := stb_map hf fun _ h => h.l
  have h2 : Stb w [] (RdL sp.v pv) := stb_map hp fun _ h => h.l
  have n1 : fv.length = P.n := hf.here.n
  have n2 : pv.length = P.m := hp.here.n
  have hL := ok.l1
  have hm2 := ok.m2
  have hn2 := ok.n2
  have hmul : P.m * P.L ≤ 2000 * 100 := Nat.mul_le_mul hm2 hL.2
  have emul : ((pv.length : Int) * (P.L : Int)) = ((P.m * P.L : Nat) : Int) := by rw [Int.natCast_mul, n2]
  refine calls_cw (vs := [_, _, _]) Tryz.func30 rfl Tryz.ntmps30 rfl (Cl.start0 w) (cw_seq (cw_region (sr rfl rfl rfl ((q_assign rfl rfl)) (sr rfl rfl rfl ((q_assign rfl rfl)) (sr rfl rfl rfl ((q_assign rfl rfl)) (sw_nil (post_then (cw_seq (cw_seq (cw_region (sr rfl rfl rfl ((q_move rfl rfl)) (sr rfl rfl rfl ((q_move rfl rfl)) (sr rfl rfl rfl ((q_move rfl rfl)) (sw_step rfl rfl rfl (q_call (CanCall.mk Tryz.call71) rfl (.cons rfl inferInstance (.cons rfl inferInstance (.cons rfl inferInstance (.nil)))) (fun _ w hw => callq hw (cutting_spec sf sp fv pv P.fl P.pl P.L w (stb_arg hw hf) (stb_arg hw hp)))) (sr rfl rfl rfl ((q_assign rfl rfl)) (sw_nil (post_then (cw_seq (cw_region (sr rfl rfl rfl ((q_move rfl rfl)) (sr rfl rfl rfl ((q_neq rfl rfl rfl)) (sw_nil (post_then ?_)))))))))))))))))))))))
  refine cw_cond rfl (fun h => ?_) (fun h => ?_)
  · skip
    exfalso
    simp [hE] at h
  · skip
    refine cw_skip (post_then (cw_seq (cw_region (sr rfl rfl rfl ((q_move rfl rfl)) ?_))))
    refine sr rfl rfl rfl ((q_len rfl (.cons rfl inferInstance (.nil)) (by exact fun w hw => Stb.cl (by assumption) hw))) ?_
    refine sr rfl rfl rfl ((q_move rfl rfl)) ?_
    refine sr rfl rfl rfl ((q_len rfl (.cons rfl inferInstance (.nil)) (by exact fun w hw => Stb.cl (by assumption) hw))) ?_
    refine sr rfl rfl rfl ((q_assign rfl rfl)) (sr rfl rfl rfl ((q_assign rfl rfl)) (sw_nil (post_then (cw_seq (cw_seq (cw_region (sr rfl rfl rfl ((q_move rfl rfl)) (sr rfl rfl rfl ((q_move rfl rfl)) ?_))))))))
    refine sr rfl rfl rfl ((q_mul rfl rfl rfl (by intro hc; omega))) ?_
    refine sr rfl rfl rfl ((q_move rfl rfl)) (sr rfl rfl rfl ((q_gtr rfl rfl rfl)) (sr rfl rfl rfl ((q_move rfl rfl)) (sr rfl rfl rfl ((q_move rfl rfl)) (sr rfl rfl rfl ((q_eql rfl rfl rfl)) (sr rfl rfl rfl ((q_move rfl rfl)) (sr rfl rfl rfl ((q_move rfl rfl)) (sr rfl rfl rfl ((q_gtr rfl rfl rfl)) (sr rfl rfl rfl ((q_and2 rfl rfl rfl)) (sr rfl rfl rfl ((q_or2 rfl rfl rfl)) (sw_nil (post_then ?_)))))))))))
    refine cw_cond rfl (fun h3 => ?_) (fun h3 => ?_)
    · skip
      exfalso
      simp only [emul, Bool.or_eq_true, Bool.and_eq_true, decide_eq_true_eq] at h3
      omega
    · skip
      clear h h3
      refine cw_skip (post_then (cw_seq (cw_region (sr rfl rfl rfl ((q_move rfl rfl)) ?_))))
      refine sr rfl rfl rfl ((q_add rfl rfl rfl (by intro hc; omega))) ?_
      refine sw_x rfl rfl rfl (e_make (α := Int) (zero := 0) rfl rfl rfl rfl rfl (by omega) (by omega) (by decide)) (fun s52 => ?_)
      refine sr rfl rfl rfl ((q_assign rfl rfl)) (sw_nil (post_then (cw_seq (cw_seq (cw_region (sr rfl rfl rfl ((q_move rfl rfl)) (sr rfl rfl rfl ((q_move rfl rfl)) (sw_nil (post_then (cw_block ?_))))))))))
      refine cw_loop (S := Nat × List Int) (fun y => [(0, [], sf.v), (1, [], sp.v), (2, [], .int .i64 P.L), (10, [], .int .i64 P.n), (11, [], .int .i64 P.m), (12, [], s52.v), (53, [], .int .i64 P.n), (54, [], .int .i64 y.1)]) (fun y => Cl w [] [ownL 3 s52.v y.2]) (fun y => y.1 ≤ P.n ∧ y.2.length = P.n + 1 ∧ (∀ j, j < y.1 → nth y.2 j = 9223372036854775807) ∧ nth y.2 P.n = 0) (fun y => P.n - y.1) (0, List.replicate (P.n + 1) 0) ⟨Nat.zero_le _, by simp, fun j hj => by omega, by rw [nth_get (by simp)]; simp⟩ ?_ ?_ ?_
      · exact Le.cons rfl (Le.cons rfl (Le.cons rfl (Le.cons' rfl (by rw [n1]) (Le.cons' rfl (by rw [n2]) (Le.cons rfl (Le.cons' rfl (by rw [n1]) (Le.cons rfl Le.nil)))))))
      · intro w' hw
        rw [n1] at hw
        exact hw
      rintro ⟨k, l⟩ ⟨hk, hll, hlt, hln⟩
      dsimp only at hk hll hlt hln ⊢
      refine cw_seq (cw_region (sr rfl rfl rfl ((q_lss rfl rfl rfl)) (sw_nil (post_then (cw_seq ?_)))))
      refine cw_cond rfl (fun h => ?_) (fun h => ?_)
      · skip
        have hk' : k < P.n := by simp only [decide_eq_true_eq] at h; omega
        refine cw_skip (post_then (cw_seq (cw_block (cw_seq (cw_region (sr rfl rfl rfl ((q_move rfl rfl)) (sr rfl rfl rfl ((q_assign rfl rfl)) (sw_nil (post_then (cw_region (sr rfl rfl rfl ((q_move rfl rfl)) (sr rfl rfl rfl ((q_move rfl rfl)) ?_))))))))))))
        refine sr rfl rfl rfl ((q_indexN rfl rfl rfl (by exact fun w hw => rd_own hw (by exact .head _)) (by intro hc; omega))) ?_
        refine sw_eff0 rfl rfl (e_storeEl1 (i := 0) rfl rfl rfl rfl rfl (by omega)) ?_
        refine sw_nil (post_blk (post_then (cw_region ?_)))
        refine sr rfl rfl rfl ((q_add rfl rfl rfl (by intro hc; omega))) ?_
        refine sr rfl rfl rfl ((q_move rfl rfl)) (sw_nil ?_)
        refine post_next (k + 1, l.set k 9223372036854775807) (by exact .cons rfl (.cons rfl (.cons rfl (.cons rfl (.cons rfl (.cons rfl (.cons rfl (.cons rfl .nil)))))))) (fun _ h => h) ⟨by simp only; omega, by simp [hll], fun j hj => ?_, ?_⟩ (by simp only; omega)
        · simp only at hj ⊢
          rw [nth_setP _ _ _ _ (by omega)]
          by_cases e : j = k
          · rw [if_pos e]
          · rw [if_neg e]; exact hlt j (by omega)
        · simp only
          rw [nth_setP _ _ _ _ (by omega), if_neg (by omega)]; exact hln
      · skip
        have hk' : k = P.n := by simp only [decide_eq_false_iff_not] at h; omega
        have hr0 : P.RestOk 0 l := ⟨hll, fun f hf => by
          simp only [CutP.D]
          by_cases e : f = P.n
          · rw [if_pos e, e, hln]; rfl
          · rw [if_neg e, hlt f (by omega)]; rfl⟩
        refine cw_exit (post_then_x (post_then_x (post_blk_eq (post_then (cw_seq (cw_region (sr rfl rfl rfl ((q_move rfl rfl)) ?_)))))))
        refine sw_x rfl rfl rfl (e_make (α := SlV) (zero := ⟨none, 0, 0⟩) rfl rfl rfl rfl rfl (by omega) (by omega) (by decide)) (fun s62 => ?_)
        refine sr rfl rfl rfl ((q_assign rfl rfl)) (sw_nil (post_then (cw_seq (cw_seq (cw_region (sr rfl rfl rfl ((q_move rfl rfl)) ?_))))))
        refine sr rfl rfl rfl ((q_sub rfl rfl rfl (by intro hc; omega))) ?_
        refine sr rfl rfl rfl ((q_assign rfl rfl)) (sw_nil (post_then (cw_block ?_)))
        refine cw_loop (S := CS) (fun y => [(0, [], sf.v), (1, [], sp.v), (2, [], .int .i64 P.L), (10, [], .int .i64 P.n), (11, [], .int .i64 P.m), (12, [], y.sre.v), (14, [], s62.v), (15, [], .int .i64 ((P.m : Int) - y.G.length - 1))]) (fun y => Cl w [] (ownL 3 y.sre.v y.rl :: ownL 28 s62.v (endsL P.m y.G) :: y.G.map rowG)) (fun y => y.Inv P) (fun y => P.m - y.G.length) ⟨s52, l, []⟩ ⟨Nat.zero_le _, hr0, fun i hi => by simp at hi⟩ ?_ ?_ ?_
        · exact Le.cons rfl (Le.cons rfl (Le.cons rfl (Le.cons rfl (Le.cons rfl (Le.cons rfl (Le.cons rfl (Le.cons' rfl (by first | rfl | (congr 1; simp)) Le.nil)))))))
        · intro w' hw
          have e0 : endsL P.m [] = List.replicate P.m ⟨none, 0, 0⟩ := by simp [endsL]
          simp only [List.map_nil, e0]
          exact hw.perm (.swap _ _ _)
        rintro ⟨sre, rl, G⟩ ⟨hq, hr, he⟩
        dsimp only at hq hr he ⊢
        refine cw_seq (cw_seq (cw_region (sr rfl rfl rfl ((q_move rfl rfl)) (sr rfl rfl rfl ((q_geq rfl rfl rfl)) (sw_nil (post_then ?_))))))
        refine cw_cond rfl (fun h => ?_) (fun h => ?_)
        · skip
          have hq' : G.length < P.m := by simp only [decide_eq_true_eq] at h; omega
          obtain ⟨p, hpe⟩ : ∃ p, P.m - G.length - 1 = p := ⟨_, rfl⟩
          have ep : ((P.m : Int) - G.length - 1) = (p : Int) := by omega
          have hpm : p < P.m := by omega
          rw [ep]
          have hrp := stb_map hp fun _ h => h.r p hpm
          have hvp := ok.pv p hpm
          refine cw_skip (post_then (cw_seq (cw_block (cw_seq (cw_region (sr rfl rfl rfl ((q_move rfl rfl)) ?_))))))
          refine sr rfl rfl rfl ((q_add rfl rfl rfl (by intro hc; omega))) ?_
          refine sw_x rfl rfl rfl (e_make (α := Int) (zero := 0) rfl rfl rfl rfl rfl (by omega) (by omega) (by decide)) (fun s71 => ?_)
          refine sr rfl rfl rfl ((q_assign rfl rfl)) (sw_nil (post_then (cw_seq (cw_seq (cw_region (sr rfl rfl rfl ((q_move rfl rfl)) (sr rfl rfl rfl ((q_move rfl rfl)) (sw_nil (post_then (cw_block ?_))))))))))
          refine cw_loop (S := Nat × List Int) (fun y => [(0, [], sf.v), (1, [], sp.v), (2, [], .int .i64 P.L), (10, [], .int .i64 P.n), (11, [], .int .i64 P.m), (12, [], sre.v), (14, [], s62.v), (15, [], .int .i64 p), (16, [], s71.v), (72, [], .int .i64 P.n), (73, [], .int .i64 y.1)]) (fun y => Cl w [] (ownL 3 s71.v y.2 :: ownL 3 sre.v rl :: ownL 28 s62.v (endsL P.m G) :: G.map rowG)) (fun y => y.1 ≤ P.n ∧ y.2.length = P.n + 1 ∧ ∀ j, j ≤ P.n → nth y.2 j = if j ≤ y.1 then P.S p j else 0) (fun y => P.n - y.1) (0, List.replicate (P.n + 1) 0) ⟨Nat.zero_le _, by simp, fun j hj => by rw [nth_get (by simp; omega)]; simp; intro e; rw [e]; rfl⟩ ?_ ?_ ?_
          · exact (by exact .cons rfl (.cons rfl (.cons rfl (.cons rfl (.cons rfl (.cons rfl (.cons rfl (.cons rfl (.cons rfl (.cons rfl (.cons rfl .nil)))))))))))
          · intro w' hw; exact hw
          rintro ⟨k, sl⟩ ⟨hk, hsl, hs⟩
          dsimp only at hk hsl hs ⊢
          refine cw_seq (cw_region (sr rfl rfl rfl ((q_lss rfl rfl rfl)) (sw_nil (post_then (cw_seq ?_)))))
          refine cw_cond rfl (fun h => ?_) (fun h => ?_)
          · skip
            have hk' : k < P.n := by simp only [decide_eq_true_eq] at h; omega
            have hrf := stb_map hf fun _ h => h.r k hk'
            have hvf := ok.fv k hk'
            have hlen := ok.eq k p hk' hpm
            have hd := dist_bd hvf hvp
            have hSb := CutP.S_bd ok hpm (f := k) (by omega)
            have hsk := hs k (by omega)
            rw [if_pos (Nat.le_refl _)] at hsk
            refine cw_skip (post_then (cw_seq (cw_block (cw_seq (cw_region (sr rfl rfl rfl ((q_move rfl rfl)) (sr rfl rfl rfl ((q_assign rfl rfl)) (sw_nil (post_then (cw_region_a (Cl w [] [ownL 3 s71.v sl]) [18] mixed_Tryz ?_))))))))))
            refine aw_pure 0 rfl (by kernel_rfl) (by kernel_rfl) (by kernel_rfl) (by kernel_rfl) (by kernel_rfl) rfl rfl rfl (q_move rfl rfl) ?_
            refine aw_pure 1 rfl (by kernel_rfl) (by kernel_rfl) (by kernel_rfl) (by kernel_rfl) (by kernel_rfl) rfl rfl rfl (q_move rfl rfl) ?_
            refine aw_pure 2 rfl (by kernel_rfl) (by kernel_rfl) (by kernel_rfl) (by kernel_rfl) (by kernel_rfl) rfl rfl rfl (q_add rfl rfl rfl (by intro hc; omega)) ?_
            refine aw_pure 3 rfl (by kernel_rfl) (by kernel_rfl) (by kernel_rfl) (by kernel_rfl) (by kernel_rfl) rfl rfl rfl (q_move rfl rfl) ?_
            refine aw_pure 4 rfl (by kernel_rfl) (by kernel_rfl) (by kernel_rfl) (by kernel_rfl) (by kernel_rfl) rfl rfl rfl (q_move rfl rfl) ?_
            refine aw_take 5 (fun w h => Cl.sel (by exact .take 0 rfl (.nil _)) w h) rfl (by kernel_rfl) (by kernel_rfl) (by kernel_rfl) (by kernel_rfl) (by kernel_rfl) (by kernel_rfl) rfl rfl rfl (q_indexN rfl rfl rfl (by exact fun w hw => rd_own hw (by exact .head _)) (by intro hc; omega)) ?_
            refine aw_take 6 (fun w h => Cl.sel (by exact .take 0 rfl (.nil _)) w h) rfl (by kernel_rfl) (by kernel_rfl) (by kernel_rfl) (by kernel_rfl) (by kernel_rfl) (by kernel_rfl) rfl rfl rfl (q_loadEl rfl rfl rfl (by exact fun w hw => rd_own hw (by exact .head _)) (by intro hc; omega)) ?_
            refine aw_pure 7 rfl (by kernel_rfl) (by kernel_rfl) (by kernel_rfl) (by kernel_rfl) (by kernel_rfl) rfl rfl rfl (q_move rfl rfl) ?_
            refine aw_pure 8 rfl (by kernel_rfl) (by kernel_rfl) (by kernel_rfl) (by kernel_rfl) (by kernel_rfl) rfl rfl rfl (q_move rfl rfl) ?_
            refine aw_take 9 (fun w h => Cl.sel (by exact .take 0 rfl (.nil _)) w h) rfl (by kernel_rfl) (by kernel_rfl) (by kernel_rfl) (by kernel_rfl) (by kernel_rfl) (by kernel_rfl) rfl rfl rfl (q_indexN rfl rfl rfl (by exact fun w hw => Stb.cl (by assumption) hw) (by intro hc; omega)) ?_
            refine aw_take 10 (fun w h => Cl.sel (by exact .take 0 rfl (.nil _)) w h) rfl (by kernel_rfl) (by kernel_rfl) (by kernel_rfl) (by kernel_rfl) (by kernel_rfl) (by kernel_rfl) rfl rfl rfl (q_loadEl rfl rfl rfl (by exact fun w hw => Stb.cl (by assumption) hw) (by intro hc; omega)) ?_
            refine aw_pure 11 rfl (by kernel_rfl) (by kernel_rfl) (by kernel_rfl) (by kernel_rfl) (by kernel_rfl) rfl rfl rfl (q_move rfl rfl) ?_
            refine aw_pure 12 rfl (by kernel_rfl) (by kernel_rfl) (by kernel_rfl) (by kernel_rfl) (by kernel_rfl) rfl rfl rfl (q_move rfl rfl) ?_
            refine aw_take 13 (fun w h => Cl.sel (by exact .take 0 rfl (.nil _)) w h) rfl (by kernel_rfl) (by kernel_rfl) (by kernel_rfl) (by kernel_rfl) (by kernel_rfl) (by kernel_rfl) rfl rfl rfl (q_indexN rfl rfl rfl (by exact fun w hw => Stb.cl (by assumption) hw) (by intro hc; omega)) ?_
            refine aw_take 14 (fun w h => Cl.sel (by exact .take 0 rfl (.nil _)) w h) rfl (by kernel_rfl) (by kernel_rfl) (by kernel_rfl) (by kernel_rfl) (by kernel_rfl) (by kernel_rfl) rfl rfl rfl (q_loadEl rfl rfl rfl (by exact fun w hw => Stb.cl (by assumption) hw) (by intro hc; omega)) ?_
            refine aw_q 15 (by kernel_rfl) rfl rfl rfl rfl (q_call (CanCall.mk Tryz.call72) rfl (.cons rfl inferInstance (.cons rfl inferInstance (.nil))) (fun _ w hw => callq hw (distance_spec _ _ _ _ w (stb_arg hw hrf) (stb_arg hw hrp) hvf hvp hlen))) (by intro hb; exact (fun w h => Cl.sel (by exact .take 0 rfl (.nil _)) w h)) ?_
            refine aw_pure 16 rfl (by kernel_rfl) (by kernel_rfl) (by kernel_rfl) (by kernel_rfl) (by kernel_rfl) rfl rfl rfl (q_add rfl rfl rfl (by intro hc; omega)) ?_
            refine aw_take 17 (fun w h => Cl.sel (by exact .take 0 rfl (.nil _)) w h) rfl (by kernel_rfl) (by kernel_rfl) (by kernel_rfl) (by kernel_rfl) (by kernel_rfl) (by kernel_rfl) rfl rfl rfl (q_indexN rfl rfl rfl (by exact fun w hw => rd_own hw (by exact .head _)) (by intro hc; (simp only [List.length_set, List.length_append, List.length_cons, List.length_nil, List.length_replicate, List.length_take, List.length_drop, List.length_map]; omega))) ?_
            refine aw_one0 18 (by kernel_rfl) rfl rfl rfl (e_storeEl1 (i := 0) rfl rfl rfl rfl rfl (by (simp only [List.length_set, List.length_append, List.length_cons, List.length_nil, List.length_replicate, List.length_take, List.length_drop, List.length_map]; omega))) (by intro hb; (exact absurd hb (by decide))) ?_
            refine aw_end (by kernel_rfl) ?_
            refine post_blk (post_then (cw_region ?_))
            refine sr rfl rfl rfl ((q_add rfl rfl rfl (by intro hc; omega))) ?_
            refine sr rfl rfl rfl ((q_move rfl rfl)) (sw_nil ?_)
            refine post_next (k + 1, sl.set (k + 1) (nth sl k + dist (nth P.fl k) (nth P.pl p))) (by exact .cons rfl (.cons rfl (.cons rfl (.cons rfl (.cons rfl (.cons rfl (.cons rfl (.cons rfl (.cons rfl (.cons rfl (.cons rfl .nil))))))))))) (fun w3 hw3 => ?_) ⟨by simp only; omega, by simp [hsl], fun j hj => ?_⟩ (by simp only; omega)
            · exact hw3
            · simp only
              rw [nth_setP _ _ _ _ (by omega)]
              by_cases e : j = k + 1
              · rw [if_pos e, if_pos (by omega), e, hsk]; rfl
              · rw [if_neg e, hs j hj]
                by_cases e2 : j ≤ k
                · rw [if_pos e2, if_pos (by omega)]
                · rw [if_neg e2, if_neg (by omega)]
          · skip
            have hk' : k = P.n := by simp only [decide_eq_false_iff_not] at h; omega
            subst hk'
            have hs2 : ∀ j, j ≤ P.n → nth sl j = P.S p j := fun j hj => by rw [hs j hj, if_pos hj]
            have hsb : ∀ j, 0 ≤ nth sl j ∧ nth sl j ≤ 1600000000 := fun j => by
              by_cases hj : j ≤ P.n
              · rw [hs2 j hj]
                have := CutP.S_bd ok hpm hj
                omega
              · simp only [nth, List.getD, List.getElem?_eq_none (show sl.length ≤ j by omega)]
                simp
            have hrb : ∀ j, nth rl j = 9223372036854775807 ∨ (0 ≤ nth rl j ∧ nth rl j ≤ 1600000000) := fun j => by
              by_cases hj : j ≤ P.n
              · rw [hr.2 j hj]
                cases hD : P.D G.length j with
                | none => exact .inl rfl
                | some v =>
                  have := CutP.D_bd ok (by omega) hj hD
                  right; simp only [CutP.oM, Option.getD_some]; omega
              · right
                simp only [nth, List.getD, List.getElem?_eq_none (show rl.length ≤ j by rw [hr.1]; omega)]
                simp
            have hBb : ∀ lo, (CutP.bestI (P.B G.length lo) = 9223372036854775807 ∧ CutP.atI (P.B G.length lo) = -1 ∧ P.B G.length lo = none) ∨ (0 ≤ CutP.bestI (P.B G.length lo) ∧ CutP.bestI (P.B G.length lo) ≤ 3200000000 ∧ 0 ≤ CutP.atI (P.B G.length lo) ∧ CutP.atI (P.B G.length lo) ≤ P.n) := fun lo => by
              cases hB : P.B G.length lo with
              | none => exact .inl ⟨rfl, rfl, rfl⟩
              | some y =>
                obtain ⟨v, g⟩ := y
                obtain ⟨h5, h6, _⟩ := bst_spec hB
                simp only [CutP.V, Option.map_eq_some_iff] at h6
                obtain ⟨u, h7, h8⟩ := h6
                have h9 := CutP.D_bd ok (by omega) (by omega) h7
                have h10 := CutP.S_bd ok (p := P.m - (G.length + 1)) (f := g) (by omega) (by omega)
                right
                simp only [CutP.bestI, CutP.atI]
                omega
            refine cw_exit (post_then_x (post_then_x (post_blk_eq (post_then (cw_seq (cw_region (sr rfl rfl rfl ((q_move rfl rfl)) ?_)))))))
            refine sr rfl rfl rfl ((q_add rfl rfl rfl (by intro hc; omega))) ?_
            refine sw_x rfl rfl rfl (e_make (α := Int) (zero := 0) rfl rfl rfl rfl rfl (by omega) (by omega) (by decide)) (fun s97 => ?_)
            refine sr rfl rfl rfl ((q_assign rfl rfl)) (sw_nil (post_then (cw_seq (cw_region (sr rfl rfl rfl ((q_move rfl rfl)) (sr rfl rfl rfl ((q_move rfl rfl)) (sr rfl rfl rfl ((q_move rfl rfl)) ?_)))))))
            refine sr rfl rfl rfl ((q_add rfl rfl rfl (by intro hc; omega))) ?_
            refine sw_x rfl rfl rfl (e_make (α := Int) (zero := 0) rfl rfl rfl rfl rfl (by omega) (by omega) (by decide)) (fun s102 => ?_)
            have hel := endsL_len (m := P.m) (G := G) (by omega)
            refine sr rfl rfl rfl ((q_indexN rfl rfl rfl (by exact fun w hw => rd_own hw (by exact .tail _ (.tail _ (.tail _ (.tail _ (.head _)))))) (by intro hc; omega))) ?_
            refine sw_eff0 rfl rfl (e_storeEl1 (i := 4) rfl rfl rfl rfl rfl (by omega)) ?_
            refine sw_nil (post_then (cw_seq (cw_region (sr rfl rfl rfl ((q_assign rfl rfl)) (sr rfl rfl rfl ((q_assign rfl rfl)) (sw_nil (post_then (cw_seq (cw_seq (cw_region (sr rfl rfl rfl ((q_move rfl rfl)) (sr rfl rfl rfl ((q_assign rfl rfl)) (sw_nil (post_then (cw_block ?_)))))))))))))))
            have hset : (endsL P.m G).set p s102 = endsL P.m ((s102, []) :: G) := by rw [← hpe]; exact endsL_set hq' (s102, [])
            have hel2 : ((endsL P.m G).set p s102).length = P.m := by rw [List.length_set, hel]
            have hrow : nth ((endsL P.m G).set p s102) p = s102 := by rw [nth_setP _ _ _ _ (by omega), if_pos rfl]
            refine cw_loop (S := Nat × (List Int × List Int)) (fun y => [(0, [], sf.v), (1, [], sp.v), (2, [], .int .i64 P.L), (10, [], .int .i64 P.n), (11, [], .int .i64 P.m), (12, [], sre.v), (14, [], s62.v), (15, [], .int .i64 p), (16, [], s71.v), (18, [], s97.v), (19, [], .int .i64 (CutP.bestI (P.B G.length (y.1 + P.L)))), (20, [], .int .i64 (CutP.atI (P.B G.length (y.1 + P.L)))), (21, [], .int .i64 ((y.1 : Int) - 1))])
              (fun y => Cl w [] (ownL 3 s102.v y.2.2 :: ownL 3 s97.v y.2.1 :: ownL 3 s71.v sl :: ownL 3 sre.v rl :: ownL 28 s62.v ((endsL P.m G).set p s102) :: G.map rowG))
              (fun y => y.1 ≤ P.n + 1 ∧ y.2.1.length = P.n + 1 ∧ y.2.2.length = P.n + 1 ∧ (∀ j, y.1 ≤ j → j ≤ P.n → nth y.2.1 j = CutP.oM (P.D (G.length + 1) j)) ∧ ∀ j, y.1 ≤ j → j ≤ P.n → nth y.2.2 j = CutP.atI (P.B G.length (j + P.L))) (fun y => y.1) (P.n + 1, (List.replicate (P.n + 1) 0, List.replicate (P.n + 1) 0)) ⟨Nat.le_refl _, by simp, by simp, fun j a b => by simp only at a; omega, fun j a b => by simp only at a; omega⟩ ?_ ?_ ?_
            · have hout := CutP.B_out P G.length (P.n + 1 + P.L) (by omega)
              simp only [hout]
              exact (by exact .cons rfl (.cons rfl (.cons rfl (.cons rfl (.cons rfl (.cons rfl (.cons rfl (.cons rfl (.cons rfl (.cons rfl (.cons rfl (.cons rfl (.cons' rfl (by congr 1; first | omega | (simp only; omega)) .nil)))))))))))))
            · intro w' hw; exact hw
            rintro ⟨f1, now, row⟩ ⟨hf1, hnl, hrl, hnow, hrw⟩
            dsimp only at hf1 hnl hrl hnow hrw ⊢
            refine cw_seq (cw_seq (cw_region (sr rfl rfl rfl ((q_move rfl rfl)) (sr rfl rfl rfl ((q_geq rfl rfl rfl)) (sw_nil (post_then ?_))))))
            refine cw_cond rfl (fun h => ?_) (fun h => ?_)
            · skip
              obtain ⟨f, rfl⟩ : ∃ f, f1 = f + 1 := ⟨f1 - 1, by simp only [decide_eq_true_eq] at h; omega⟩
              have ef : (((f + 1 : Nat) : Int) - 1) = (f : Int) := by omega
              rw [ef]
              have hrl2 := hr.1
              have hrg := hrb (f + P.L)
              have hsg := hsb (f + P.L)
              have hBf := hBb (f + 1 + P.L)
              have hBf2 := hBb (f + P.L)
              have hsf := hsb f
              have em : P.m - (G.length + 1) = p := by omega
              have eL : f + 1 + P.L = f + P.L + 1 := by omega
              refine cw_skip (post_then (cw_seq (cw_block (cw_seq (cw_seq (cw_region (sr rfl rfl rfl ((q_move rfl rfl)) (sr rfl rfl rfl ((q_move rfl rfl)) ?_))))))))
              refine sr rfl rfl rfl ((q_add rfl rfl rfl (by intro hc; omega))) ?_
              refine sr rfl rfl rfl ((q_assign rfl rfl)) (sw_nil (post_then (cw_seq ?_)))
              refine cw_region_q mixed_Tryz (by kernel_rfl) ?_
              refine qr rfl rfl rfl ((q_move rfl rfl)) (qr rfl rfl rfl ((q_move rfl rfl)) (qr rfl rfl rfl ((q_leq rfl rfl rfl)) (qr rfl rfl rfl ((q_move rfl rfl)) (qr rfl rfl rfl ((q_move rfl rfl)) (qr rfl rfl rfl ((q_move rfl rfl)) ?_)))))
              refine qr rfl rfl rfl ((q_indexN rfl rfl rfl (by exact fun w hw => rd_own hw (by exact .tail _ (.tail _ (.tail _ (.head _))))) (by intro hc; (simp only [AllT.iff, List.all_cons, List.all_nil, id, Bool.and_eq_true, Bool.not_eq_true', decide_eq_true_eq, decide_eq_false_iff_not, and_true] at hc; omega)))) ?_
              refine qr rfl rfl rfl ((q_loadEl rfl rfl rfl (by exact fun w hw => rd_own hw (by exact .tail _ (.tail _ (.tail _ (.head _))))) (by intro hc; (simp only [AllT.iff, List.all_cons, List.all_nil, id, Bool.and_eq_true, Bool.not_eq_true', decide_eq_true_eq, decide_eq_false_iff_not, and_true] at hc; omega)))) ?_
              refine qr rfl rfl rfl ((q_lss rfl rfl rfl)) (qr rfl rfl rfl ((q_and2 rfl rfl rfl)) (qr rfl rfl rfl ((q_move rfl rfl)) (qr rfl rfl rfl ((q_move rfl rfl)) (qr rfl rfl rfl ((q_move rfl rfl)) ?_))))
              refine qr rfl rfl rfl ((q_indexN rfl rfl rfl (by exact fun w hw => rd_own hw (by exact .tail _ (.tail _ (.head _)))) (by intro hc; (simp only [AllT.iff, List.all_cons, List.all_nil, id, Bool.and_eq_true, Bool.not_eq_true', decide_eq_true_eq, decide_eq_false_iff_not, and_true] at hc; omega)))) ?_
              refine qr rfl rfl rfl ((q_loadEl rfl rfl rfl (by exact fun w hw => rd_own hw (by exact .tail _ (.tail _ (.head _)))) (by intro hc; (simp only [AllT.iff, List.all_cons, List.all_nil, id, Bool.and_eq_true, Bool.not_eq_true', decide_eq_true_eq, decide_eq_false_iff_not, and_true] at hc; omega)))) ?_
              refine qr rfl rfl rfl ((q_move rfl rfl)) (qr rfl rfl rfl ((q_move rfl rfl)) ?_)
              refine qr rfl rfl rfl ((q_indexN rfl rfl rfl (by exact fun w hw => rd_own hw (by exact .tail _ (.tail _ (.tail _ (.head _))))) (by intro hc; (simp only [AllT.iff, List.all_cons, List.all_nil, id, Bool.and_eq_true, Bool.not_eq_true', decide_eq_true_eq, decide_eq_false_iff_not, and_true] at hc; omega)))) ?_
              refine qr rfl rfl rfl ((q_loadEl rfl rfl rfl (by exact fun w hw => rd_own hw (by exact .tail _ (.tail _ (.tail _ (.head _))))) (by intro hc; (simp only [AllT.iff, List.all_cons, List.all_nil, id, Bool.and_eq_true, Bool.not_eq_true', decide_eq_true_eq, decide_eq_false_iff_not, and_true] at hc; omega)))) ?_
              refine qr rfl rfl rfl ((q_add rfl rfl rfl (by intro hc; (simp only [AllT.iff, List.all_cons, List.all_nil, id, Bool.and_eq_true, Bool.not_eq_true', decide_eq_true_eq, decide_eq_false_iff_not, and_true] at hc; omega)))) ?_
              refine qr rfl rfl rfl ((q_move rfl rfl)) (qr rfl rfl rfl ((q_leq rfl rfl rfl)) (qr rfl rfl rfl ((q_and2 rfl rfl rfl)) (qw_end (post_then ?_))))
              refine cw_cut (S := Unit) (fun _ => [(0, [], sf.v), (1, [], sp.v), (2, [], .int .i64 P.L), (10, [], .int .i64 P.n), (11, [], .int .i64 P.m), (12, [], sre.v), (14, [], s62.v), (15, [], .int .i64 p), (16, [], s71.v), (18, [], s97.v), (19, [], .int .i64 (CutP.bestI (P.B G.length (f + P.L)))), (20, [], .int .i64 (CutP.atI (P.B G.length (f + P.L)))), (21, [], .int .i64 f)])
                (fun _ => Cl w [] (ownL 3 s102.v row :: ownL 3 s97.v now :: ownL 3 s71.v sl :: ownL 3 sre.v rl :: ownL 28 s62.v ((endsL P.m G).set p s102) :: G.map rowG)) (fun _ => True) ?_ ?_
              · refine cw_cond rfl (fun h5 => ?_) (fun h5 => ?_)
                · skip
                  have h6 : (f + P.L ≤ P.n ∧ nth rl (f + P.L) < 9223372036854775807) ∧ nth sl (f + P.L) + nth rl (f + P.L) ≤ CutP.bestI (P.B G.length (f + 1 + P.L)) := by
                    simp only [Bool.and_eq_true, decide_eq_true_eq] at h5
                    exact ⟨⟨by omega, h5.1.2⟩, h5.2⟩
                  have hB : P.B G.length (f + P.L) = some (nth sl (f + P.L) + nth rl (f + P.L), f + P.L) := by
                    rw [CutP.B_step P _ _ h6.1.1]
                    have h7 := hr.2 (f + P.L) h6.1.1
                    cases hD : P.D G.length (f + P.L) with
                    | none => rw [hD] at h7; rw [h7] at h6; simp [CutP.oM] at h6
                    | some v =>
                      rw [hD] at h7
                      have hV : P.V G.length (f + P.L) = some (nth sl (f + P.L) + nth rl (f + P.L)) := by
                        simp only [CutP.V, hD, Option.map_some, em, hs2 _ h6.1.1, h7]; rfl
                      rw [hV]
                      rw [eL] at h6
                      cases hB2 : P.B G.length (f + P.L + 1) with
                      | none => rfl
                      | some y =>
                        obtain ⟨b, g⟩ := y
                        rw [hB2] at h6
                        simp only [CutP.bestI] at h6
                        simp only
                        rw [if_pos h6.2]
                  refine cw_region_q mixed_Tryz (by kernel_rfl) ?_
                  refine qr rfl rfl rfl ((q_move rfl rfl)) (qr rfl rfl rfl ((q_move rfl rfl)) ?_)
                  refine qr rfl rfl rfl ((q_indexN rfl rfl rfl (by exact fun w hw => rd_own hw (by exact .tail _ (.tail _ (.head _)))) (by intro hc; omega))) ?_
                  refine qr rfl rfl rfl ((q_loadEl rfl rfl rfl (by exact fun w hw => rd_own hw (by exact .tail _ (.tail _ (.head _)))) (by intro hc; omega))) ?_
                  refine qr rfl rfl rfl ((q_move rfl rfl)) (qr rfl rfl rfl ((q_move rfl rfl)) ?_)
                  refine qr rfl rfl rfl ((q_indexN rfl rfl rfl (by exact fun w hw => rd_own hw (by exact .tail _ (.tail _ (.tail _ (.head _))))) (by intro hc; omega))) ?_
                  refine qr rfl rfl rfl ((q_loadEl rfl rfl rfl (by exact fun w hw => rd_own hw (by exact .tail _ (.tail _ (.tail _ (.head _))))) (by intro hc; omega))) ?_
                  refine qr rfl rfl rfl ((q_add rfl rfl rfl (by intro hc; omega))) ?_
                  refine qr rfl rfl rfl ((q_move rfl rfl)) (qr rfl rfl rfl ((q_assign rfl rfl)) (qr rfl rfl rfl ((q_assign rfl rfl)) (qw_end ?_)))
                  refine post_meet () ?_ (fun _ h => h) trivial
                  rw [hB]
                  exact (by exact .cons rfl (.cons rfl (.cons rfl (.cons rfl (.cons rfl (.cons rfl (.cons rfl (.cons rfl (.cons rfl (.cons rfl (.cons rfl (.cons rfl (.cons rfl .nil)))))))))))))
                · skip
                  have hB : P.B G.length (f + P.L) = P.B G.length (f + 1 + P.L) := by
                    by_cases h8 : f + P.L ≤ P.n
                    · rw [CutP.B_step P _ _ h8, eL]
                      have h7 := hr.2 (f + P.L) h8
                      have h9 : ((f : Int) + P.L ≤ P.n) := by omega
                      cases hD : P.D G.length (f + P.L) with
                      | none =>
                        have hV : P.V G.length (f + P.L) = none := by simp [CutP.V, hD]
                        rw [hV]
                      | some v =>
                        rw [hD] at h7
                        have hV : P.V G.length (f + P.L) = some (nth sl (f + P.L) + nth rl (f + P.L)) := by
                          simp only [CutP.V, hD, Option.map_some, em, hs2 _ h8, h7]; rfl
                        rw [hV]
                        have hDb := CutP.D_bd ok (by omega) h8 hD
                        have h10 : nth rl (f + P.L) = v := h7
                        have h11 : ¬ nth sl (f + P.L) + nth rl (f + P.L) ≤ CutP.bestI (P.B G.length (f + P.L + 1)) := by
                          intro hc
                          rw [← eL] at hc
                          have h12 : nth rl (f + P.L) < 9223372036854775807 := by omega
                          have e13 : ((f : Int) + P.L).toNat = f + P.L := by omega
                          simp only [e13, h9, h12, hc, decide_true, Bool.and_true] at h5
                          cases h5
                        cases hB2 : P.B G.length (f + P.L + 1) with
                        | none => rw [hB2] at h11; simp only [CutP.bestI] at h11; omega
                        | some y =>
                          obtain ⟨b, g⟩ := y
                          rw [hB2] at h11
                          simp only [CutP.bestI] at h11
                          simp only
                          rw [if_neg h11]
                    · rw [CutP.B_out P _ _ (by omega), CutP.B_out P _ _ (by omega)]
                  refine cw_skip ?_
                  refine post_meet () ?_ (fun _ h => h) trivial
                  rw [hB]
                  exact (by exact .cons rfl (.cons rfl (.cons rfl (.cons rfl (.cons rfl (.cons rfl (.cons rfl (.cons rfl (.cons rfl (.cons rfl (.cons rfl (.cons rfl (.cons rfl .nil)))))))))))))
              · intro _ _
                refine post_then (cw_seq (cw_region (sr rfl rfl rfl ((q_move rfl rfl)) (sr rfl rfl rfl ((q_move rfl rfl)) (sr rfl rfl rfl ((q_move rfl rfl)) (sr rfl rfl rfl ((q_move rfl rfl)) ?_))))))
                refine sr rfl rfl rfl ((q_indexN rfl rfl rfl (by exact fun w hw => rd_own hw (by exact .tail _ (.tail _ (.tail _ (.tail _ (.head _)))))) (by intro hc; omega))) ?_
                refine sr rfl rfl rfl ((q_loadElY hrow rfl rfl rfl (by exact fun w hw => rd_own hw (by exact .tail _ (.tail _ (.tail _ (.tail _ (.head _)))))) (by intro hc; omega))) ?_
                refine sr rfl rfl rfl ((q_move rfl rfl)) (sr rfl rfl rfl ((q_move rfl rfl)) ?_)
                refine sr rfl rfl rfl ((q_indexN rfl rfl rfl (by exact fun w hw => rd_own hw (by exact .tail _ (.head _))) (by intro hc; omega))) ?_
                refine sw_eff0 rfl rfl (e_storeEl1 (i := 1) rfl rfl rfl rfl rfl (by omega)) ?_
                refine sr rfl rfl rfl ((q_indexN rfl rfl rfl (by exact fun w hw => rd_own hw (by exact .head _)) (by intro hc; omega))) ?_
                refine sw_eff0 rfl rfl (e_storeEl1 (i := 0) rfl rfl rfl rfl rfl (by omega)) ?_
                refine sw_nil (post_then (cw_seq (cw_region (sr rfl rfl rfl ((q_move rfl rfl)) (sr rfl rfl rfl ((q_geq rfl rfl rfl)) (sw_nil (post_then ?_)))))))
                have hDe := CutP.D_succ P G.length f
                rw [em] at hDe
                refine cw_cond rfl (fun h5 => ?_) (fun h5 => ?_)
                · skip
                  have h6 : 0 ≤ CutP.atI (P.B G.length (f + P.L)) := by simpa using h5
                  obtain ⟨v, g, hB⟩ : ∃ v g, P.B G.length (f + P.L) = some (v, g) := by
                    cases hB : P.B G.length (f + P.L) with
                    | none => rw [hB] at h6; simp [CutP.atI] at h6
                    | some y => exact ⟨y.1, y.2, rfl⟩
                  have hv : CutP.bestI (P.B G.length (f + P.L)) - nth sl f = CutP.oM (P.D (G.length + 1) f) := by
                    rw [hDe, hB, hs2 f (by omega)]; rfl
                  have hlen2 : (now.set f 9223372036854775807).length = P.n + 1 := by simp [hnl]
                  refine cw_region (sr rfl rfl rfl ((q_move rfl rfl)) (sr rfl rfl rfl ((q_move rfl rfl)) (sr rfl rfl rfl ((q_move rfl rfl)) (sr rfl rfl rfl ((q_move rfl rfl)) (sr rfl rfl rfl ((q_move rfl rfl)) ?_)))))
                  refine sr rfl rfl rfl ((q_indexN rfl rfl rfl (by exact fun w hw => rd_own hw (by exact .tail _ (.tail _ (.head _)))) (by intro hc; omega))) ?_
                  refine sr rfl rfl rfl ((q_loadEl rfl rfl rfl (by exact fun w hw => rd_own hw (by exact .tail _ (.tail _ (.head _)))) (by intro hc; omega))) ?_
                  refine sr rfl rfl rfl ((q_sub rfl rfl rfl (by intro hc; omega))) ?_
                  refine sr rfl rfl rfl ((q_indexN rfl rfl rfl (by exact fun w hw => rd_own hw (by exact .tail _ (.head _))) (by intro hc; omega))) ?_
                  refine sw_eff0 rfl rfl (e_storeEl1 (i := 1) rfl rfl rfl rfl rfl (by omega)) ?_
                  refine sw_nil (post_blk (post_then (cw_region (sr rfl rfl rfl ((q_move rfl rfl)) ?_))))
                  refine sr rfl rfl rfl ((q_sub rfl rfl rfl (by intro hc; omega))) ?_
                  refine sr rfl rfl rfl ((q_assign rfl rfl)) (sw_nil ?_)
                  refine post_next (f, ((now.set f 9223372036854775807).set f (CutP.bestI (P.B G.length (f + P.L)) - nth sl f), row.set f (CutP.atI (P.B G.length (f + P.L))))) (by exact .cons rfl (.cons rfl (.cons rfl (.cons rfl (.cons rfl (.cons rfl (.cons rfl (.cons rfl (.cons rfl (.cons rfl (.cons rfl (.cons rfl (.cons rfl .nil))))))))))))) (fun _ h => h) ⟨by simp only; omega, by simp [hnl], by simp [hrl], fun j a b => ?_, fun j a b => ?_⟩ (by simp only; omega)
                  · simp only at a ⊢
                    rw [List.set_set, nth_setP _ _ _ _ (by omega)]
                    by_cases e : j = f
                    · rw [if_pos e, hv, e]
                    · rw [if_neg e]; exact hnow j (by omega) b
                  · simp only at a ⊢
                    rw [nth_setP _ _ _ _ (by omega)]
                    by_cases e : j = f
                    · rw [if_pos e, e]
                    · rw [if_neg e]; exact hrw j (by omega) b
                · skip
                  have h6 : ¬ 0 ≤ CutP.atI (P.B G.length (f + P.L)) := by simpa using h5
                  have hB : P.B G.length (f + P.L) = none := by
                    cases hB : P.B G.length (f + P.L) with
                    | none => rfl
                    | some y => obtain ⟨v, g⟩ := y; rw [hB] at h6; simp only [CutP.atI] at h6; omega
                  refine cw_skip (post_blk (post_then (cw_region (sr rfl rfl rfl ((q_move rfl rfl)) ?_))))
                  refine sr rfl rfl rfl ((q_sub rfl rfl rfl (by intro hc; omega))) ?_
                  refine sr rfl rfl rfl ((q_assign rfl rfl)) (sw_nil ?_)
                  refine post_next (f, (now.set f 9223372036854775807, row.set f (CutP.atI (P.B G.length (f + P.L))))) (by exact .cons rfl (.cons rfl (.cons rfl (.cons rfl (.cons rfl (.cons rfl (.cons rfl (.cons rfl (.cons rfl (.cons rfl (.cons rfl (.cons rfl (.cons rfl .nil))))))))))))) (fun _ h => h) ⟨by simp only; omega, by simp [hnl], by simp [hrl], fun j a b => ?_, fun j a b => ?_⟩ (by simp only; omega)
                  · simp only at a ⊢
                    rw [nth_setP _ _ _ _ (by omega)]
                    by_cases e : j = f
                    · rw [if_pos e, e, hDe, hB]; rfl
                    · rw [if_neg e]; exact hnow j (by omega) b
                  · simp only at a ⊢
                    rw [nth_setP _ _ _ _ (by omega)]
                    by_cases e : j = f
                    · rw [if_pos e, e]
                    · rw [if_neg e]; exact hrw j (by omega) b
            · skip
              have hf0 : f1 = 0 := by simp only [decide_eq_false_iff_not] at h; omega
              subst hf0
              refine cw_exit (post_then_x (post_then_x (post_blk_eq (post_then (cw_region (sr rfl rfl rfl ((q_move rfl rfl)) (sr rfl rfl rfl ((q_assign rfl rfl)) (sw_nil (post_blk (post_then (cw_region (sr rfl rfl rfl ((q_move rfl rfl)) ?_))))))))))))
              refine sr rfl rfl rfl ((q_sub rfl rfl rfl (by intro hc; omega))) ?_
              refine sr rfl rfl rfl ((q_assign rfl rfl)) (sw_nil ?_)
              refine post_next ⟨s97, now, (s102, row) :: G⟩ ?_ (fun w3 hw3 => ?_) ⟨by simp only [List.length_cons]; omega, ⟨hnl, fun j hj => hnow j (Nat.zero_le _) hj⟩, fun i hi => ?_⟩ (by simp only [List.length_cons]; omega)
              · exact Le.cons rfl (Le.cons rfl (Le.cons rfl (Le.cons rfl (Le.cons rfl (Le.cons rfl (Le.cons rfl (Le.cons' rfl (by congr 1; simp only [List.length_cons]; omega) Le.nil)))))))
              · rw [hset] at hw3
                exact (hw3.perm perm_row).tail.tail
              · simp only [List.length_cons] at hi ⊢
                cases i with
                | zero => exact ⟨hrl, fun j hj => hrw j (Nat.zero_le _) hj⟩
                | succ i =>
                  have h5 := he i (by omega)
                  have e5 : G.length + 1 - 1 - (i + 1) = G.length - 1 - i := by omega
                  rw [e5]
                  exact h5
        · skip
          have hqm : G.length = P.m := by simp only [decide_eq_false_iff_not] at h; omega
          rw [hqm] at hr
          have hel := endsL_len (m := P.m) (G := G) (by omega)
          obtain ⟨v0, hv0⟩ := CutP.D_some ok (q := P.m) (f := 0) (Nat.le_refl _) (Nat.zero_le _) (by omega) (fun e => by rw [hN2 e])
          refine cw_c (C' := Cl w [] (ownL 3 (SlV.v ⟨none, 0, 0⟩) ([] : List Int) :: ownL 3 sre.v rl :: ownL 28 s62.v (endsL P.m G) :: G.map rowG)) (fun w' hw => hw.addNil (α := Int) 3) (cw_exit (post_then_x (post_then_x (post_blk_eq (post_then (cw_seq (cw_region (sr rfl rfl rfl ((q_assign rfl rfl)) (sw_nil (post_then (cw_seq (cw_region (sr rfl rfl rfl ((q_assign rfl rfl)) (sw_nil (post_then (cw_seq (cw_seq (cw_region (sr rfl rfl rfl ((q_move rfl rfl)) (sr rfl rfl rfl ((q_move rfl rfl)) (sw_nil (post_then (cw_block ?_)))))))))))))))))))))))
          refine cw_loop (S := Nat × ((SlV × List Int) × Nat)) (fun y => [(11, [], .int .i64 P.m), (12, [], sre.v), (14, [], s62.v), (23, [], y.2.1.1.v), (24, [], .int .i64 y.2.2), (167, [], .int .i64 P.m), (168, [], .int .i64 y.1)]) (fun y => Cl w [] (ownL 3 y.2.1.1.v y.2.1.2 :: ownL 3 sre.v rl :: ownL 28 s62.v (endsL P.m G) :: G.map rowG)) (fun y => y.1 ≤ P.m ∧ y.2.2 ≤ P.n ∧ y.2.1.2.length = y.1 ∧ y.2.1.2 ++ P.pth (P.m - y.1) y.2.2 = P.pth P.m 0 ∧ ∃ v, P.D (P.m - y.1) y.2.2 = some v) (fun y => P.m - y.1) (0, ((⟨none, 0, 0⟩, []), 0)) ⟨Nat.zero_le _, Nat.zero_le _, rfl, rfl, v0, hv0⟩ ?_ ?_ ?_
          · exact (by exact .cons rfl (.cons rfl (.cons rfl (.cons rfl (.cons rfl (.cons rfl (.cons rfl .nil)))))))
          · intro w' hw; exact hw
          rintro ⟨k, ⟨⟨s23, out⟩, f⟩⟩ ⟨hk, hf0, hol, hpt, hDv⟩
          dsimp only at hk hf0 hol hpt hDv ⊢
          refine cw_seq (cw_region (sr rfl rfl rfl ((q_lss rfl rfl rfl)) (sw_nil (post_then (cw_seq ?_)))))
          refine cw_cond rfl (fun h6 => ?_) (fun h6 => ?_)
          · skip
            have hk' : k < P.m := by simp only [decide_eq_true_eq] at h6; omega
            obtain ⟨q, hqe⟩ : ∃ q, P.m - k = q + 1 := ⟨P.m - k - 1, by omega⟩
            obtain ⟨v, hv⟩ := hDv
            rw [hqe, CutP.D_succ] at hv
            obtain ⟨b, g, hB⟩ : ∃ b g, P.B q (f + P.L) = some (b, g) := by
              cases hB : P.B q (f + P.L) with
              | none => rw [hB] at hv; cases hv
              | some y => exact ⟨y.1, y.2, rfl⟩
            obtain ⟨hb1, hb2, _⟩ := bst_spec hB
            have hgn : g ≤ P.n := by omega
            have hDg : ∃ u, P.D q g = some u := by
              simp only [CutP.V, Option.map_eq_some_iff] at hb2
              obtain ⟨u, hu, _⟩ := hb2
              exact ⟨u, hu⟩
            have hek := he k (by omega)
            rw [show G.length - 1 - k = q by omega] at hek
            have hnk : nth (endsL P.m G) k = (nth G k).1 := by
              have := endsL_nth (m := P.m) (G := G) (by omega) (i := k) (by omega)
              rw [show P.m - G.length + k = k by omega] at this; exact this
            have hval : nth (nth G k).2 f = (g : Int) := by rw [hek.2 f hf0, hB]; rfl
            have hgm : rowG (nth G k) ∈ G.map rowG := List.mem_map_of_mem (by rw [nth_get (by omega)]; exact List.getElem_mem _)
            have hgl := hek.1
            refine cw_skip (post_then (cw_seq (cw_block (cw_seq (cw_region (sr rfl rfl rfl ((q_move rfl rfl)) (sr rfl rfl rfl ((q_assign rfl rfl)) (sw_nil (post_then (cw_seq (cw_region (sr rfl rfl rfl ((q_move rfl rfl)) (sr rfl rfl rfl ((q_move rfl rfl)) (sr rfl rfl rfl ((q_move rfl rfl)) ?_))))))))))))))
            refine sr rfl rfl rfl ((q_indexN rfl rfl rfl (by exact fun w hw => rd_own hw (by exact .tail _ (.tail _ (.head _)))) (by intro hc; omega))) ?_
            refine sr rfl rfl rfl ((q_loadElY hnk rfl rfl rfl (by exact fun w hw => rd_own hw (by exact .tail _ (.tail _ (.head _)))) (by intro hc; omega))) ?_
            refine sr rfl rfl rfl ((q_move rfl rfl)) ?_
            refine sr rfl rfl rfl ((q_indexN (xs := (nth G k).2) rfl rfl rfl (fun w h => rd_own (e := 3) h (.tail _ (.tail _ (.tail _ hgm)))) (fun _ => by omega))) ?_
            refine sr rfl rfl rfl ((q_loadElY (xs := (nth G k).2) hval rfl rfl rfl (fun w h => rd_own (e := 3) h (.tail _ (.tail _ (.tail _ hgm)))) (fun _ => by omega))) ?_
            refine sr rfl rfl rfl ((q_move rfl rfl)) ?_
            refine sr rfl rfl rfl ((q_sub rfl rfl rfl (by intro hc; omega))) ?_
            refine sw_x rfl rfl rfl (e_build1 (α := Int) rfl rfl rfl rfl) (fun s181 => ?_)
            refine sw_x rfl rfl rfl (e_append (i := 1) rfl (.cons rfl inferInstance (.cons rfl inferInstance (.nil))) rfl rfl (by exact fun w hw => rd_own hw (by exact .head _)) (by simp only [List.length_set, List.length_append, List.length_cons, List.length_nil, List.length_replicate, List.length_take, List.length_drop, List.length_map]; omega) rfl) (fun s182 => ?_)
            refine sr rfl rfl rfl ((q_assign rfl rfl)) (sw_nil (post_then (cw_region (sr rfl rfl rfl ((q_move rfl rfl)) (sr rfl rfl rfl ((q_move rfl rfl)) ?_)))))
            refine sr rfl rfl rfl ((q_indexN rfl rfl rfl (by exact fun w hw => rd_own hw (by exact .tail _ (.tail _ (.tail _ (.head _))))) (by intro hc; omega))) ?_
            refine sr rfl rfl rfl ((q_loadElY hnk rfl rfl rfl (by exact fun w hw => rd_own hw (by exact .tail _ (.tail _ (.tail _ (.head _))))) (by intro hc; omega))) ?_
            refine sr rfl rfl rfl ((q_move rfl rfl)) ?_
            refine sr rfl rfl rfl ((q_indexN (xs := (nth G k).2) rfl rfl rfl (fun w h => rd_own (e := 3) h (.tail _ (.tail _ (.tail _ (.tail _ hgm))))) (fun _ => by omega))) ?_
            refine sr rfl rfl rfl ((q_loadElY (xs := (nth G k).2) hval rfl rfl rfl (fun w h => rd_own (e := 3) h (.tail _ (.tail _ (.tail _ (.tail _ hgm))))) (fun _ => by omega))) ?_
            refine sr rfl rfl rfl ((q_assign rfl rfl)) (sw_nil (post_blk (post_then (cw_region ?_))))
            refine sr rfl rfl rfl ((q_add rfl rfl rfl (by intro hc; omega))) ?_
            refine sr rfl rfl rfl ((q_move rfl rfl)) (sw_nil ?_)
            refine post_next (k + 1, ((s182, out ++ [(g : Int) - f]), g)) (by exact .cons rfl (.cons rfl (.cons rfl (.cons rfl (.cons rfl (.cons rfl (.cons rfl .nil))))))) (fun w3 hw3 => hw3.tail) ⟨by simp only; omega, hgn, by simp [hol], ?_, ?_⟩ (by simp only; omega)
            · simp only
              rw [← hpt, hqe, CutP.pth, hB, show P.m - (k + 1) = q by omega]
              simp
            · simp only
              rw [show P.m - (k + 1) = q by omega]; exact hDg
          · skip
            have hk' : k = P.m := by simp only [decide_eq_false_iff_not] at h6; omega
            subst hk'
            rw [Nat.sub_self, CutP.pth, List.append_nil] at hpt
            have h0 := hr.2 0 (Nat.zero_le _)
            have hrl0 := hr.1
            rw [hv0] at h0
            refine cw_exit (post_then_x (post_then_x (post_blk_eq (post_then (cw_seq ?_)))))
            refine cw_region_q mixed_Tryz (by kernel_rfl) ?_
            refine qr rfl rfl rfl ((q_move rfl rfl)) (qr rfl rfl rfl ((q_move rfl rfl)) ?_)
            refine qr rfl rfl rfl ((q_indexN rfl rfl rfl (by exact fun w hw => rd_own hw (by exact .tail _ (.head _))) (by intro hc; (simp only [List.length_set, List.length_append, List.length_cons, List.length_nil, List.length_replicate, List.length_take, List.length_drop, List.length_map]; omega)))) ?_
            refine qr rfl rfl rfl ((q_loadEl rfl rfl rfl (by exact fun w hw => rd_own hw (by exact .tail _ (.head _))) (by intro hc; (simp only [List.length_set, List.length_append, List.length_cons, List.length_nil, List.length_replicate, List.length_take, List.length_drop, List.length_map]; omega)))) ?_
            refine qr rfl rfl rfl ((q_assign rfl rfl)) (qr rfl rfl rfl ((q_assign rfl rfl)) (qr rfl rfl rfl ((q_assign rfl rfl)) (qw_end (post_then (cw_ret (post_ret3 rfl (resOk_tmp rfl) (resOk_tmp rfl) (resOk_tmp rfl) ?_))))))
            refine fun w' hw => ⟨(s23, out), ?_, hpt, (fun w h => Cl.sel (by exact .take 0 rfl (.nil _)) w h) _ hw⟩
            rw [hv0]
            rw [h0]
            rfl
end Go.Proofs.YtomjbfeafodfbaaGreat
