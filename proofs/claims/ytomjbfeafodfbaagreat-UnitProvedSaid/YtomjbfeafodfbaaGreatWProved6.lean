import Derived.Test.YtomjbfeafodfbaaGreatWProved5

set_option autoImplicit false
set_option linter.unusedSimpArgs false
set_option linter.unusedVariables false
set_option maxRecDepth 100000
namespace Go.Proofs.YtomjbfeafodfbaaGreat
open Go.Sx
open Enc (enc val)
theorem at_q {P : Program} {ops : Array Oper} {C : World → Prop} {n : Fr} {E : Env} {Q : Exit → Act → World → Prop} {S : World → Prop} {m : List Nat} {f : Nat} {listed : Array Bool} (i : Nat) {o : Oper} {d : Nat} {v : Value} (hi : ops[i]? = some o) (hg : o.guard = none) (hd : o.dst = some d) (hn : Nat.ble (d + 1) n.sz = true)
    (hop : OpQ P n E C [] o v) (hS : m.contains i = false → ∀ w, C w → S w) (h : AW P ops Q S m f (listed.setIfInBounds i true) n ((d, [], v) :: E) C) : AWat P ops Q S m f listed i n E C :=
  at_one i hi hg hd hn hop.eff (fun hb v w hx => hS hb w hx.2) fun _ => aw_imp fun hv => by subst hv; exact h
def prodTo (p : List Un) (tgt : List Wan) : Nat → Nat
  | 0 => 1
  | i + 1 => prodTo p tgt i * (idxs p p.length (nth tgt i).phone).length
def fewB (p : List Un) (tgt : List Wan) (m : Nat) : Bool := (List.range tgt.length).all fun i => decide (prodTo p tgt (i + 1) ≤ m)
theorem few_no {p : List Un} {tgt : List Wan} {m i : Nat} (hi : i < tgt.length) (h : m < prodTo p tgt (i + 1)) : fewB p tgt m = false := List.all_eq_false.2 ⟨i, by simpa using hi, by simp; omega⟩
theorem few_yes {p : List Un} {tgt : List Wan} {m : Nat} (h : ∀ i, i < tgt.length → prodTo p tgt (i + 1) ≤ m) : fewB p tgt m = true := List.all_eq_true.2 fun i hi => by simpa using h i (by simpa using hi)
theorem few_at {p : List Un} {tgt : List Wan} {m : Nat} (hm : 1 ≤ m) (h : fewB p tgt m = true) (i : Nat) (hi : i ≤ tgt.length) : prodTo p tgt i ≤ m := by
  cases i with
  | zero => exact hm
  | succ i =>
    have := List.all_eq_true.1 h i (by simp; omega)
    simpa using this
theorem pre_count (p : List Un) (tgt : List Wan) (x : Wts) : ∀ i, ((tsk p tgt x).pre i).length = prodTo p tgt i
  | 0 => rfl
  | i + 1 => by
    rw [Tsk.pre, prodTo, ← pre_count p tgt x i]
    generalize (tsk p tgt x).pre i = l
    induction l with
    | nil => simp
    | cons s r ih => rw [List.flatMap_cons, List.length_append, List.length_map, ih, List.length_cons, Nat.succ_mul]; exact Nat.add_comm _ _
theorem few_spec (sp tp : SlV) (p : List Un) (tgt : List Wan) (w : World) (hp : p.length ≤ 2000) (hvl : Stb w [] (RdL sp.v p)) (htp : Stb w [] (RdL tp.v tgt)) :
    Calls Tryz.prog 25 #[sp.v, tp.v, .int .i64 200] w fun e w' => e = .returned (.bool (fewB p tgt 200)) ∧ Cl w [] [] w' := by
  have hL := rd_len htp.here
  refine calls_cw (vs := [_, _, _]) Tryz.func25 rfl Tryz.ntmps25 rfl (Cl.start0 w) (cw_seq (cw_region (sr rfl rfl rfl ((q_assign rfl rfl)) (sw_nil (post_then (cw_seq (cw_region (sr rfl rfl rfl ((q_assign rfl rfl)) (sw_nil (post_then (cw_seq (cw_seq (cw_region (sr rfl rfl rfl ((q_assign rfl rfl)) (sw_nil (post_then (cw_block ?_)))))))))))))))))
  refine cw_loop (S := Nat) (fun i => [(0, [], sp.v), (1, [], tp.v), (2, [], .int .i64 200), (7, [], .int .i64 (prodTo p tgt i)), (8, [], .int .i64 i)]) (fun _ => Cl w [] []) (fun i => i ≤ tgt.length ∧ prodTo p tgt i ≤ 200 ∧ ∀ j, j < i → prodTo p tgt (j + 1) ≤ 200) (fun i => tgt.length - i) 0 ⟨Nat.zero_le _, by simp [prodTo], fun j hj => by omega⟩ (by exact .cons rfl (.cons rfl (.cons rfl (.cons rfl (.cons rfl .nil))))) (fun _ h => h) ?_
  rintro i ⟨hi, h200, hall⟩
  refine cw_seq (cw_seq (cw_region (sr rfl rfl rfl ((q_move rfl rfl)) (sr rfl rfl rfl ((q_move rfl rfl)) ?_))))
  refine sr rfl rfl rfl ((q_len rfl (.cons rfl inferInstance (.nil)) (by exact fun w hw => Stb.cl (by assumption) hw))) ?_
  refine sr rfl rfl rfl ((q_lss rfl rfl rfl)) (sw_nil (post_then ?_))
  refine cw_cond rfl (fun h => ?_) (fun h => ?_)
  · skip
    have hi' : i < tgt.length := by simp only [decide_eq_true_eq] at h; omega
    refine cw_skip (post_then (cw_seq (cw_block (cw_seq (cw_region (sr rfl rfl rfl ((q_assign rfl rfl)) (sw_nil (post_then (cw_seq (cw_seq (cw_region (sr rfl rfl rfl ((q_assign rfl rfl)) (sw_nil (post_then (cw_block ?_)))))))))))))))
    refine cw_loop (S := Nat) (fun u => [(0, [], sp.v), (1, [], tp.v), (2, [], .int .i64 200), (7, [], .int .i64 (prodTo p tgt i)), (8, [], .int .i64 i), (9, [], .int .i64 (idxs p u (nth tgt i).phone).length), (10, [], .int .i64 u)]) (fun _ => Cl w [] []) (fun u => u ≤ p.length) (fun u => p.length - u) 0 (Nat.zero_le _) (by exact .cons rfl (.cons rfl (.cons rfl (.cons rfl (.cons rfl (.cons rfl (.cons rfl .nil))))))) (fun _ h => h) ?_
    intro u hu
    have hul := idxs_len p u (nth tgt i).phone
    have hss := congrArg List.length (idxs_succ p u (nth tgt i).phone)
    rw [List.length_append] at hss
    refine cw_seq (cw_seq (cw_region (sr rfl rfl rfl ((q_move rfl rfl)) (sr rfl rfl rfl ((q_move rfl rfl)) ?_))))
    refine sr rfl rfl rfl ((q_len rfl (.cons rfl inferInstance (.nil)) (by exact fun w hw => Stb.cl (by assumption) hw))) ?_
    refine sr rfl rfl rfl ((q_lss rfl rfl rfl)) (sw_nil (post_then ?_))
    refine cw_cond rfl (fun h2 => ?_) (fun h2 => ?_)
    · skip
      have hu' : u < p.length := by simp only [decide_eq_true_eq] at h2; omega
      refine cw_skip (post_then (cw_seq (cw_block (cw_seq ?_))))
      refine cw_region_q mixed_Tryz (by kernel_rfl) ?_
      refine qr rfl rfl rfl ((q_move rfl rfl)) (qr rfl rfl rfl ((q_move rfl rfl)) ?_)
      refine qr rfl rfl rfl ((q_indexN rfl rfl rfl (by exact fun w hw => Stb.cl (by assumption) hw) (by intro hc; omega))) ?_
      refine qr rfl rfl rfl ((q_fieldEl rfl rfl (by exact fun w hw => Stb.cl (by assumption) hw) (by intro hc; omega))) ?_
      refine qr rfl rfl rfl ((q_loadF rfl rfl rfl (by exact fun w hw => Stb.cl (by assumption) hw) (by intro hc; omega) rfl)) ?_
      refine qr rfl rfl rfl ((q_move rfl rfl)) (qr rfl rfl rfl ((q_move rfl rfl)) ?_)
      refine qr rfl rfl rfl ((q_indexN rfl rfl rfl (by exact fun w hw => Stb.cl (by assumption) hw) (by intro hc; omega))) ?_
      refine qr rfl rfl rfl ((q_fieldEl rfl rfl (by exact fun w hw => Stb.cl (by assumption) hw) (by intro hc; omega))) ?_
      refine qr rfl rfl rfl ((q_loadF rfl rfl rfl (by exact fun w hw => Stb.cl (by assumption) hw) (by intro hc; omega) rfl)) ?_
      refine qr rfl rfl rfl ((q_eqlStr rfl rfl rfl Tryz.underlying9)) (qw_end (post_then ?_))
      refine cw_cond rfl (fun h3 => ?_) (fun h3 => ?_)
      · skip
        rw [if_pos (by simpa using h3), List.length_singleton] at hss
        refine cw_region (sr rfl rfl rfl ((q_move rfl rfl)) ?_)
        refine sr rfl rfl rfl ((q_add rfl rfl rfl (by intro hc; omega))) ?_
        refine sr rfl rfl rfl ((q_assign rfl rfl)) (sw_nil (post_blk (post_then (cw_region (sr rfl rfl rfl ((q_move rfl rfl)) ?_)))))
        refine sr rfl rfl rfl ((q_add rfl rfl rfl (by intro hc; omega))) ?_
        refine sr rfl rfl rfl ((q_assign rfl rfl)) (sw_nil ?_)
        refine post_next (u + 1) ?_ (fun _ h => h) (by omega) (by omega)
        rw [hss]
        exact (by exact .cons rfl (.cons rfl (.cons rfl (.cons rfl (.cons rfl (.cons rfl (.cons rfl .nil)))))))
      · skip
        rw [if_neg (by simpa using h3), List.length_nil, Nat.add_zero] at hss
        refine cw_skip (post_blk (post_then (cw_region (sr rfl rfl rfl ((q_move rfl rfl)) ?_))))
        refine sr rfl rfl rfl ((q_add rfl rfl rfl (by intro hc; omega))) ?_
        refine sr rfl rfl rfl ((q_assign rfl rfl)) (sw_nil ?_)
        refine post_next (u + 1) ?_ (fun _ h => h) (by omega) (by omega)
        rw [hss]
        exact (by exact .cons rfl (.cons rfl (.cons rfl (.cons rfl (.cons rfl (.cons rfl (.cons rfl .nil)))))))
    · skip
      have hu' : u = p.length := by simp only [decide_eq_false_iff_not] at h2; omega
      subst hu'
      have hm : prodTo p tgt i * (idxs p p.length (nth tgt i).phone).length ≤ 200 * 2000 := Nat.mul_le_mul h200 (by omega)
      have hc : ((prodTo p tgt i : Nat) : Int) * ((idxs p p.length (nth tgt i).phone).length : Int) = ((prodTo p tgt (i + 1) : Nat) : Int) := by rw [prodTo]; push_cast; rfl
      have hc2 : prodTo p tgt (i + 1) ≤ 200 * 2000 := hm
      have hc3 : -9223372036854775808 ≤ ((prodTo p tgt i : Nat) : Int) * ((idxs p p.length (nth tgt i).phone).length : Int) ∧ ((prodTo p tgt i : Nat) : Int) * ((idxs p p.length (nth tgt i).phone).length : Int) ≤ 9223372036854775807 := by rw [hc]; omega
      refine cw_exit (post_then_x (post_then_x (post_blk_eq (post_then (cw_seq (cw_region (sr rfl rfl rfl ((q_move rfl rfl)) (sr rfl rfl rfl ((q_move rfl rfl)) ?_))))))))
      refine sr rfl rfl rfl ((q_mul rfl rfl rfl (by intro hc; omega))) ?_
      refine sr rfl rfl rfl ((q_assign rfl rfl)) (sw_nil (post_then (cw_seq (cw_region (sr rfl rfl rfl ((q_move rfl rfl)) (sr rfl rfl rfl ((q_move rfl rfl)) (sr rfl rfl rfl ((q_gtr rfl rfl rfl)) (sw_nil (post_then ?_)))))))))
      rw [hc]
      refine cw_cond rfl (fun h3 => ?_) (fun h3 => ?_)
      · skip
        have h4 : 200 < prodTo p tgt (i + 1) := by simp only [decide_eq_true_eq] at h3; omega
        refine cw_seq (cw_region (sr rfl rfl rfl ((q_assign rfl rfl)) (sw_nil (post_then (cw_ret (post_blk_r (post_then_r (post_then_r (post_blk_r (post_then_r (post_ret1 rfl (resOk_tmp rfl) ?_)))))))))))
        exact fun w' hw => ⟨by rw [few_no hi' h4], (fun w h => Cl.sel (by exact .nil _) w h) _ hw⟩
      · skip
        have h4 : prodTo p tgt (i + 1) ≤ 200 := by simp only [decide_eq_false_iff_not] at h3; omega
        refine cw_skip (post_blk (post_then (cw_region (sr rfl rfl rfl ((q_move rfl rfl)) ?_))))
        refine sr rfl rfl rfl ((q_add rfl rfl rfl (by intro hc; omega))) ?_
        refine sr rfl rfl rfl ((q_assign rfl rfl)) (sw_nil ?_)
        refine post_next (i + 1) (by exact .cons rfl (.cons rfl (.cons rfl (.cons rfl (.cons rfl .nil))))) (fun _ h => h) ⟨by omega, h4, fun j hj => ?_⟩ (by omega)
        by_cases e : j = i
        · rw [e]; exact h4
        · exact hall j (by omega)
  · skip
    have hi' : i = tgt.length := by simp only [decide_eq_false_iff_not] at h; omega
    subst hi'
    refine cw_exit (post_then_x (post_then_x (post_blk_eq (post_then (cw_seq (cw_region (sr rfl rfl rfl ((q_assign rfl rfl)) (sw_nil (post_then (cw_ret (post_ret1 rfl (resOk_tmp rfl) ?_)))))))))))
    exact fun w' hw => ⟨by rw [few_yes hall], (fun w h => Cl.sel (by exact .nil _) w h) _ hw⟩
structure LX where
  i : Nat
  s : SlV
  L : List (SlV × List Int)
structure NX where
  k : Nat
  s : SlV
  N : List (SlV × List Int)
theorem row_mem {w0 w : World} {fp : List Nat} {H : List Asn} {G : List (SlV × List Int)} (hw : Cl w0 fp H w) (hm : ∀ g ∈ G, rowG g ∈ H) {k : Nat} (hk : k < G.length) : RdL (nth (G.map Prod.fst) k).v (nth G k).2 w := by
  have e : nth (G.map Prod.fst) k = (nth G k).1 := by rw [nth_get (by simpa using hk), nth_get hk]; simp
  rw [e]
  exact rd_own (e := 3) hw (hm (nth G k) (nth_mem hk))
theorem snd_nth {G : List (SlV × List Int)} {l : List (List Int)} (h : G.map Prod.snd = l) {k : Nat} (hk : k < G.length) : nth l k = (nth G k).2 := by
  subst h
  rw [nth_get (by simpa using hk), nth_get hk]; simp
theorem perm_last {α : Type} {X A B C : α} {R S : List α} : (X :: A :: B :: C :: (R ++ S)).Perm (A :: B :: C :: (R ++ (S ++ [X]))) := by
  rw [← List.append_assoc]
  exact (List.perm_append_comm (l₁ := [X]) (l₂ := A :: B :: C :: (R ++ S)))
structure OX where
  i : Nat
  s : SlV
  O : List Sq
structure OutOk (t : Tsk) (L : List (SlV × List Int)) (i : Nat) (O : List Sq) : Prop where
  srt : (O.map keyS).Pairwise seqLt
  prm : (O.map keyS).Perm ((L.take i).map fun g => (g.2, t.tc 0 g.2))
  mem : ∀ q ∈ O, (q.us, q.ul) ∈ L
theorem OutOk.len {t : Tsk} {L : List (SlV × List Int)} {i : Nat} {O : List Sq} (h : OutOk t L i O) : O.length ≤ i := by
  have := h.prm.length_eq
  simp only [List.length_map, List.length_take] at this
  omega
theorem keyS_nth {O : List Sq} {j : Nat} (hj : j < O.length) : nth (O.map keyS) j = keyS (nth O j) := by
  rw [nth_get (by simpa using hj), nth_get hj]; simp
theorem out_step {t : Tsk} (hr : t.Rise) {L : List (SlV × List Int)} (hL : L.map Prod.snd = t.pre t.T) {i : Nat} (hi : i < L.length) {O : List Sq} (hO : OutOk t L i O) {q : Sq} (q1 : q.us = (nth L i).1) (q2 : q.ul = (nth L i).2) (q3 : q.cost = t.tc 0 q.ul) {k : Nat} (hk : k ≤ O.length)
    (hhi : ∀ j, k ≤ j → j < O.length → q.cost < (nth O j).cost) (hlo : 0 < k → ¬ q.cost < (nth O (k - 1)).cost) : OutOk t L (i + 1) (O.take k ++ [q] ++ O.drop k) := by
  have hLi : L[i] = (q.us, q.ul) := by rw [← nth_get hi, q1, q2]
  have hkey : (O.take k ++ [q] ++ O.drop k).map keyS = (O.map keyS).take k ++ [keyS q] ++ (O.map keyS).drop k := by simp [List.map_take, List.map_drop]
  have hlp : (t.pre t.T).Pairwise (fun a b => lexLt a b = true) := by rw [← t.pre_all]; exact t.tl_lex hr t.T
  refine ⟨?_, ?_, fun x hx => ?_⟩
  · rw [hkey]
    refine ins_sorted hO.srt (fun o ho => ?_) (by simpa using hk) (fun j h1 h2 => ?_) ?_
    · have ho2 := hO.prm.mem_iff.1 ho
      obtain ⟨g, hg, rfl⟩ := List.mem_map.1 ho2
      obtain ⟨j, hj, rfl⟩ := List.getElem_of_mem hg
      rw [List.length_take] at hj
      have h3 := List.pairwise_iff_getElem.1 hlp j i (by rw [← hL]; simp; omega) (by rw [← hL]; simpa using hi) (by omega)
      simp only [← hL, List.getElem_map, hLi] at h3
      simpa [keyS] using h3
    · rw [List.length_map] at h2
      rw [keyS_nth h2]
      exact hhi j h1 h2
    · by_cases h0 : k = 0
      · exact .inl h0
      · refine .inr ?_
        rw [keyS_nth (by omega)]
        have := hlo (by omega)
        simp only [keyS]
        omega
  · rw [List.take_succ_eq_append_getElem hi, hkey, List.map_append]
    have h1 : ((O.map keyS).take k ++ [keyS q] ++ (O.map keyS).drop k).Perm (O.map keyS ++ [keyS q]) := by
      rw [List.append_assoc]
      refine ((List.perm_append_comm (l₁ := [keyS q])).append_left _).trans ?_
      rw [← List.append_assoc, List.take_append_drop]
    refine h1.trans (hO.prm.append ?_)
    rw [hLi]
    simp [keyS, q3]
  · rcases List.mem_append.1 hx with hx | hx
    · rcases List.mem_append.1 hx with hx | hx
      · exact hO.mem x (List.mem_of_mem_take hx)
      · rw [List.mem_singleton.1 hx, ← hLi]; exact List.getElem_mem hi
    · exact hO.mem x (List.mem_of_mem_drop hx)
theorem out_all {t : Tsk} {L : List (SlV × List Int)} (hL : L.map Prod.snd = t.pre t.T) {O : List Sq} (hO : OutOk t L L.length O) : t.allS (O.map keyS) := by
  refine ⟨hO.srt, hO.prm.trans ?_⟩
  rw [List.take_length, t.pre_all, ← hL, List.map_map]
  exact .refl _
theorem pre_seq {p : List Un} {tgt : List Wan} {x : Wts} {s : List Int} (h : s ∈ (tsk p tgt x).pre tgt.length) : seqB p tgt s = true := by
  have hl := (tsk p tgt x).pre_len _ s h
  exact seq_yes hl fun k hk => by
    have := (tsk p tgt x).pre_mem _ s h k (by omega)
    exact decide_eq_true this
theorem cl_mid {w0 w : World} {fp : List Nat} {A B C : Asn} {R : List Asn} (h : Cl w0 fp (A :: B :: C :: R) w) : Cl w0 fp (A :: R) w := cl_drop (F := A :: R) (G := [B, C]) (h.perm (.cons _ (List.perm_append_comm (l₁ := [B, C]) (l₂ := R))))
set_option maxHeartbeats 2000000 in
theorem refSeqs_spec (sp tp : SlV) (p : List Un) (tgt : List Wan) (x : Wts) (w : World) (hvo : VoRd w sp p) (htp : Stb w [] (RdL tp.v tgt)) (hE : beginE p tgt x = 0) (hfew : fewB p tgt 200 = true) :
    Calls Tryz.prog 27 #[sp.v, tp.v, val x] w fun e w' => ∃ y : SlV × (List Sq × List (SlV × List Int)), e = .returned y.1.v ∧ ((tsk p tgt x).allS (y.2.1.map keyS) ∧ ∀ q ∈ y.2.1, (q.us, q.ul) ∈ y.2.2) ∧ Cl w [] (ownL 30 y.1.v y.2.1 :: y.2.2.map rowG) w' := by
  have hvl := hvo.l
  have hL := rd_len hvl.here
  have hL2 := rd_len htp.here
  obtain ⟨m1, m2, hv1, hv2, hv3⟩ := beginE_ok hE
  have eT : (tsk p tgt x).T = tgt.length := rfl
  have hrise : (tsk p tgt x).Rise := fun i => idxs_rise p _ p.length
  have hcnt : ∀ i, i ≤ tgt.length → ((tsk p tgt x).pre i).length ≤ 200 := fun i hi => by rw [pre_count]; exact few_at (by omega) hfew i hi
  refine calls_cw (vs := [_, _, _]) Tryz.func27 rfl Tryz.ntmps27 rfl (Cl.start0 w) (cw_seq (cw_region ?_))
  refine sw_x rfl rfl rfl (e_box rfl rfl rfl) (fun b5 => ?_)
  refine sr rfl rfl rfl ((q_assign rfl rfl)) (sw_nil (post_then (cw_seq (cw_region ?_))))
  refine sw_x rfl rfl rfl (e_build1 (α := SlV) (x := ⟨none, 0, 0⟩) rfl rfl rfl rfl) (fun s16 => ?_)
  refine sr rfl rfl rfl ((q_assign rfl rfl)) (sw_nil (post_then (cw_seq (cw_seq (cw_region (sr rfl rfl rfl ((q_assign rfl rfl)) (sw_nil (post_then (cw_block ?_)))))))))
  refine cw_loop (S := LX) (fun y => [(0, [], sp.v), (1, [], tp.v), (5, [], .pointer (some ⟨b5, 0, none⟩)), (7, [], y.s.v), (8, [], .int .i64 y.i)]) (fun y => Cl w [] (ownL 28 y.s.v (y.L.map Prod.fst) :: blk b5 (enc x) 25 :: y.L.map rowG)) (fun y => y.i ≤ tgt.length ∧ y.L.map Prod.snd = (tsk p tgt x).pre y.i) (fun y => tgt.length - y.i) ⟨0, s16, [(⟨none, 0, 0⟩, [])]⟩ ⟨Nat.zero_le _, rfl⟩ (by exact .cons rfl (.cons rfl (.cons rfl (.cons rfl (.cons rfl .nil))))) (fun w' h => ((h.addNil (α := Int) 3).perm (List.perm_append_comm (l₁ := [ownL (α := Int) 3 (.slice none 0 0) []])))) ?_
  rintro ⟨i, sl, L⟩ ⟨hi, hLp⟩
  dsimp only at hi hLp ⊢
  have hLl : L.length ≤ 200 := by have := congrArg List.length hLp; rw [List.length_map] at this; have := hcnt i hi; omega
  refine cw_seq (cw_seq (cw_region (sr rfl rfl rfl ((q_move rfl rfl)) (sr rfl rfl rfl ((q_move rfl rfl)) ?_))))
  refine sr rfl rfl rfl ((q_len rfl (.cons rfl inferInstance (.nil)) (by exact fun w hw => Stb.cl (by assumption) hw))) ?_
  refine sr rfl rfl rfl ((q_lss rfl rfl rfl)) (sw_nil (post_then ?_))
  refine cw_cond rfl (fun h => ?_) (fun h => ?_)
  · skip
    have hi' : i < tgt.length := by simp only [decide_eq_true_eq] at h; omega
    refine cw_skip (post_then (cw_seq (cw_block (cw_seq (cw_region (sr rfl rfl rfl ((q_assign rfl rfl)) (sw_nil (post_then (cw_seq (cw_seq (cw_region (sr rfl rfl rfl ((q_assign rfl rfl)) (sw_nil (post_then (cw_block ?_)))))))))))))))
    refine cw_loop (S := NX) (fun y => [(0, [], sp.v), (1, [], tp.v), (5, [], .pointer (some ⟨b5, 0, none⟩)), (7, [], sl.v), (8, [], .int .i64 i), (9, [], y.s.v), (10, [], .int .i64 y.k)]) (fun y => Cl w [] (ownL 28 y.s.v (y.N.map Prod.fst) :: ownL 28 sl.v (L.map Prod.fst) :: blk b5 (enc x) 25 :: (L.map rowG ++ y.N.map rowG))) (fun y => y.k ≤ L.length ∧ y.N.map Prod.snd = (((tsk p tgt x).pre i).take y.k).flatMap fun s => ((tsk p tgt x).us i).map fun u => s ++ [u]) (fun y => L.length - y.k) ⟨0, ⟨none, 0, 0⟩, []⟩ ⟨Nat.zero_le _, by simp⟩ (by exact .cons rfl (.cons rfl (.cons rfl (.cons rfl (.cons rfl (.cons rfl (.cons rfl .nil))))))) (fun w' h => by simp only [List.map_nil, List.append_nil]; exact h.addNil (α := SlV) 28) ?_
    rintro ⟨k, sn, N⟩ ⟨hk, hN⟩
    dsimp only at hk hN ⊢
    refine cw_seq (cw_seq (cw_region (sr rfl rfl rfl ((q_move rfl rfl)) (sr rfl rfl rfl ((q_move rfl rfl)) ?_))))
    refine sr rfl rfl rfl ((q_len rfl (.cons rfl inferInstance (.nil)) (by exact fun w hw => rd_own hw (by exact .tail _ (.head _))))) ?_
    refine sr rfl rfl rfl ((q_lss rfl rfl rfl)) (sw_nil (post_then ?_))
    refine cw_cond rfl (fun h2 => ?_) (fun h2 => ?_)
    · skip
      have hk' : k < L.length := by simp only [List.length_map, decide_eq_true_eq] at h2; omega
      have hkp : k < ((tsk p tgt x).pre i).length := by rw [← hLp, List.length_map]; exact hk'
      have hNl : N.length ≤ 200 * 2000 := by
        have e := congrArg List.length hN
        rw [List.length_map] at e
        have h5 : ∀ (l : List (List Int)), (l.flatMap fun s => ((tsk p tgt x).us i).map fun u => s ++ [u]).length = l.length * (idxs p p.length (nth tgt i).phone).length := fun l => by
          induction l with
          | nil => simp
          | cons s r ih => rw [List.flatMap_cons, List.length_append, List.length_map, ih, List.length_cons, Nat.succ_mul]; exact Nat.add_comm _ _
        rw [h5] at e
        rw [e]
        have := idxs_len p p.length (nth tgt i).phone
        exact Nat.mul_le_mul (by rw [List.length_take]; omega) (by omega)
      have hLk : nth ((tsk p tgt x).pre i) k = (nth L k).2 := snd_nth hLp hk'
      have hlk : (nth L k).2.length = i := by rw [← hLk]; exact (tsk p tgt x).pre_len i _ (nth_mem hkp)
      refine cw_skip (post_then (cw_seq (cw_block (cw_seq (cw_region (sr rfl rfl rfl ((q_assign rfl rfl)) (sw_nil (post_then (cw_block ?_)))))))))
      refine cw_loop (S := NX) (fun y => [(0, [], sp.v), (1, [], tp.v), (5, [], .pointer (some ⟨b5, 0, none⟩)), (7, [], sl.v), (8, [], .int .i64 i), (9, [], y.s.v), (10, [], .int .i64 k), (11, [], .int .i64 y.k)]) (fun y => Cl w [] (ownL 28 y.s.v (y.N.map Prod.fst) :: ownL 28 sl.v (L.map Prod.fst) :: blk b5 (enc x) 25 :: (L.map rowG ++ y.N.map rowG))) (fun y => y.k ≤ p.length ∧ y.N.map Prod.snd = N.map Prod.snd ++ (idxs p y.k (nth tgt i).phone).map fun u => (nth L k).2 ++ [u]) (fun y => p.length - y.k) ⟨0, sn, N⟩ ⟨Nat.zero_le _, by simp [idxs]⟩ (by exact .cons rfl (.cons rfl (.cons rfl (.cons rfl (.cons rfl (.cons rfl (.cons rfl (.cons rfl .nil)))))))) (fun w' h => h) ?_
      rintro ⟨u, sm, M⟩ ⟨hu, hM⟩
      dsimp only at hu hM ⊢
      have hss := idxs_succ p u (nth tgt i).phone
      have hMl : M.length ≤ 200 * 2000 + 2000 := by
        have e := congrArg List.length hM
        rw [List.length_map, List.length_append, List.length_map, List.length_map] at e
        have := idxs_len p u (nth tgt i).phone
        omega
      refine cw_seq (cw_seq (cw_region (sr rfl rfl rfl ((q_move rfl rfl)) (sr rfl rfl rfl ((q_move rfl rfl)) ?_))))
      refine sr rfl rfl rfl ((q_len rfl (.cons rfl inferInstance (.nil)) (by exact fun w hw => Stb.cl (by assumption) hw))) ?_
      refine sr rfl rfl rfl ((q_lss rfl rfl rfl)) (sw_nil (post_then ?_))
      refine cw_cond rfl (fun h3 => ?_) (fun h3 => ?_)
      · skip
        have hu' : u < p.length := by simp only [decide_eq_true_eq] at h3; omega
        refine cw_skip (post_then (cw_seq (cw_block (cw_seq ?_))))
        refine cw_region_q mixed_Tryz (by kernel_rfl) ?_
        refine qr rfl rfl rfl ((q_move rfl rfl)) (qr rfl rfl rfl ((q_move rfl rfl)) ?_)
        refine qr rfl rfl rfl ((q_indexN rfl rfl rfl (by exact fun w hw => Stb.cl (by assumption) hw) (by intro hc; omega))) ?_
        refine qr rfl rfl rfl ((q_fieldEl rfl rfl (by exact fun w hw => Stb.cl (by assumption) hw) (by intro hc; omega))) ?_
        refine qr rfl rfl rfl ((q_loadF rfl rfl rfl (by exact fun w hw => Stb.cl (by assumption) hw) (by intro hc; omega) rfl)) ?_
        refine qr rfl rfl rfl ((q_move rfl rfl)) (qr rfl rfl rfl ((q_move rfl rfl)) ?_)
        refine qr rfl rfl rfl ((q_indexN rfl rfl rfl (by exact fun w hw => Stb.cl (by assumption) hw) (by intro hc; omega))) ?_
        refine qr rfl rfl rfl ((q_fieldEl rfl rfl (by exact fun w hw => Stb.cl (by assumption) hw) (by intro hc; omega))) ?_
        refine qr rfl rfl rfl ((q_loadF rfl rfl rfl (by exact fun w hw => Stb.cl (by assumption) hw) (by intro hc; omega) rfl)) ?_
        refine qr rfl rfl rfl ((q_eqlStr rfl rfl rfl Tryz.underlying9)) (qw_end (post_then ?_))
        refine cw_cond rfl (fun h4 => ?_) (fun h4 => ?_)
        · skip
          rw [if_pos (by simpa using h4)] at hss
          refine cw_c (C' := Cl w [] (ownL 3 (SlV.v ⟨none, 0, 0⟩) ([] : List Int) :: ownL 28 sm.v (M.map Prod.fst) :: ownL 28 sl.v (L.map Prod.fst) :: blk b5 (enc x) 25 :: (L.map rowG ++ M.map rowG))) (fun w' h => h.addNil (α := Int) 3) (cw_region (sr rfl rfl rfl ((q_move rfl rfl)) (sr rfl rfl rfl ((q_move rfl rfl)) (sr rfl rfl rfl ((q_move rfl rfl)) ?_))))
          refine sr rfl rfl rfl ((q_indexN rfl rfl rfl (by exact fun w hw => rd_own hw (by exact .tail _ (.tail _ (.head _)))) (by intro hc; (simp only [List.length_set, List.length_append, List.length_cons, List.length_nil, List.length_replicate, List.length_take, List.length_drop, List.length_map]; omega)))) ?_
          refine sr rfl rfl rfl ((q_loadEl rfl rfl rfl (by exact fun w hw => rd_own hw (by exact .tail _ (.tail _ (.head _)))) (by intro hc; (simp only [List.length_set, List.length_append, List.length_cons, List.length_nil, List.length_replicate, List.length_take, List.length_drop, List.length_map]; omega)))) ?_
          refine sw_x rfl rfl rfl (e_append (i := 0) rfl (.cons rfl inferInstance (.cons rfl inferInstance (.nil))) rfl rfl (fun w1 h1 => row_mem h1 (fun g hg => .tail _ (.tail _ (.tail _ (.tail _ (List.mem_append_left _ (List.mem_map_of_mem hg)))))) hk') (by rw [hlk]; simp; omega) rfl) (fun s51 => ?_)
          refine sr rfl rfl rfl ((q_move rfl rfl)) ?_
          refine sw_x rfl rfl rfl (e_build1 (α := Int) rfl rfl rfl rfl) (fun s53 => ?_)
          refine sw_x rfl rfl rfl (e_append (i := 1) rfl (.cons rfl inferInstance (.cons rfl inferInstance (.nil))) rfl rfl (by exact fun w hw => rd_own hw (by exact .head _)) (by simp [hlk]; omega) rfl) (fun s54 => ?_)
          refine sw_x rfl rfl rfl (e_build1 (α := SlV) rfl rfl rfl rfl) (fun s55 => ?_)
          refine sw_x rfl rfl rfl (e_append (i := 3) rfl (.cons rfl inferInstance (.cons rfl inferInstance (.nil))) rfl rfl (by exact fun w hw => rd_own hw (by exact .head _)) (by simp; omega) rfl) (fun s56 => ?_)
          refine sr rfl rfl rfl ((q_assign rfl rfl)) (sw_nil (post_blk (post_then (cw_region (sr rfl rfl rfl ((q_move rfl rfl)) ?_)))))
          refine sr rfl rfl rfl ((q_add rfl rfl rfl (by intro hc; omega))) ?_
          refine sr rfl rfl rfl ((q_assign rfl rfl)) (sw_nil ?_)
          refine post_next ⟨u + 1, s56, M ++ [(s54, (nth L k).2 ++ [(u : Int)])]⟩ (by exact .cons rfl (.cons rfl (.cons rfl (.cons rfl (.cons rfl (.cons rfl (.cons rfl (.cons rfl .nil)))))))) (fun w3 hw3 => ?_) ⟨by simp only; omega, ?_⟩ (by simp only; omega)
          · simp only [List.map_append, List.map_cons, List.map_nil]
            exact hw3.tail.tail.perm perm_last
          · simp only [List.map_append, List.map_cons, List.map_nil]
            rw [hM, hss, List.map_append, List.append_assoc]
            rfl
        · skip
          rw [if_neg (by simpa using h4), List.append_nil] at hss
          refine cw_skip (post_blk (post_then (cw_region (sr rfl rfl rfl ((q_move rfl rfl)) ?_))))
          refine sr rfl rfl rfl ((q_add rfl rfl rfl (by intro hc; omega))) ?_
          refine sr rfl rfl rfl ((q_assign rfl rfl)) (sw_nil ?_)
          exact post_next ⟨u + 1, sm, M⟩ (by exact .cons rfl (.cons rfl (.cons rfl (.cons rfl (.cons rfl (.cons rfl (.cons rfl (.cons rfl .nil)))))))) (fun _ h => h) ⟨by simp only; omega, by dsimp only; rw [hss]; exact hM⟩ (by simp only; omega)
      · skip
        have hu' : u = p.length := by simp only [decide_eq_false_iff_not] at h3; omega
        subst hu'
        refine cw_exit (post_then_x (post_then_x (post_blk_eq (post_blk (post_then (cw_region (sr rfl rfl rfl ((q_move rfl rfl)) ?_)))))))
        refine sr rfl rfl rfl ((q_add rfl rfl rfl (by intro hc; omega))) ?_
        refine sr rfl rfl rfl ((q_assign rfl rfl)) (sw_nil ?_)
        refine post_next ⟨k + 1, sm, M⟩ (by exact .cons rfl (.cons rfl (.cons rfl (.cons rfl (.cons rfl (.cons rfl (.cons rfl .nil))))))) (fun _ h => h) ⟨by simp only; omega, ?_⟩ (by simp only; omega)
        dsimp only
        rw [List.take_succ_eq_append_getElem hkp, List.flatMap_append, ← hN, hM, ← nth_get hkp, hLk]
        simp only [List.flatMap_cons, List.flatMap_nil, List.append_nil]
        rfl
    · skip
      have hk' : k = L.length := by simp only [List.length_map, decide_eq_false_iff_not] at h2; omega
      subst hk'
      refine cw_exit (post_then_x (post_then_x (post_blk_eq (post_then (cw_region (sr rfl rfl rfl ((q_move rfl rfl)) (sr rfl rfl rfl ((q_assign rfl rfl)) (sw_nil (post_blk (post_then (cw_region (sr rfl rfl rfl ((q_move rfl rfl)) ?_))))))))))))
      refine sr rfl rfl rfl ((q_add rfl rfl rfl (by intro hc; omega))) ?_
      refine sr rfl rfl rfl ((q_assign rfl rfl)) (sw_nil ?_)
      refine post_next ⟨i + 1, sn, N⟩ (by exact .cons rfl (.cons rfl (.cons rfl (.cons rfl (.cons rfl .nil))))) (fun w3 hw3 => ?_) ⟨by simp only; omega, ?_⟩ (by simp only; omega)
      · have h5 : Cl w [] (ownL 28 sl.v (L.map Prod.fst) :: (L.map rowG ++ (ownL 28 sn.v (N.map Prod.fst) :: blk b5 (enc x) 25 :: N.map rowG))) w3 := hw3.perm ((List.Perm.swap _ _ _).trans (.cons _ ((List.perm_middle (l₁ := L.map rowG) (a := ownL 28 sn.v (N.map Prod.fst)) (l₂ := blk b5 (enc x) 25 :: N.map rowG)).trans (.cons _ List.perm_middle)).symm))
        exact (cl_drop (F := ownL 28 sn.v (N.map Prod.fst) :: blk b5 (enc x) 25 :: N.map rowG) (G := L.map rowG) (h5.tail.perm List.perm_append_comm))
      · dsimp only
        rw [hN, show L.length = ((tsk p tgt x).pre i).length by rw [← hLp, List.length_map], List.take_length]
        rfl
  · skip
    have hi' : i = tgt.length := by simp only [decide_eq_false_iff_not] at h; omega
    subst hi'
    refine cw_exit (post_then_x (post_then_x (post_blk_eq (post_then (cw_seq (cw_region (sr rfl rfl rfl ((q_assign rfl rfl)) (sw_nil (post_then (cw_seq (cw_seq (cw_region (sr rfl rfl rfl ((q_assign rfl rfl)) (sw_nil (post_then (cw_block ?_))))))))))))))))
    refine cw_loop (S := OX) (fun y => [(0, [], sp.v), (1, [], tp.v), (5, [], .pointer (some ⟨b5, 0, none⟩)), (7, [], sl.v), (12, [], y.s.v), (13, [], .int .i64 y.i)]) (fun y => Cl w [] (ownL 30 y.s.v y.O :: ownL 28 sl.v (L.map Prod.fst) :: blk b5 (enc x) 25 :: L.map rowG)) (fun y => y.i ≤ L.length ∧ OutOk (tsk p tgt x) L y.i y.O) (fun y => L.length - y.i) ⟨0, ⟨none, 0, 0⟩, []⟩ ⟨Nat.zero_le _, .nil, by simp, fun q hq => by cases hq⟩ (by exact .cons rfl (.cons rfl (.cons rfl (.cons rfl (.cons rfl (.cons rfl .nil)))))) (fun w' h => h.addNil (α := Sq) 30) ?_
    rintro ⟨i, so, O⟩ ⟨hi, hO⟩
    dsimp only at hi hO ⊢
    have hOl := hO.len
    refine cw_seq (cw_seq (cw_region (sr rfl rfl rfl ((q_move rfl rfl)) (sr rfl rfl rfl ((q_move rfl rfl)) ?_))))
    refine sr rfl rfl rfl ((q_len rfl (.cons rfl inferInstance (.nil)) (by exact fun w hw => rd_own hw (by exact .tail _ (.head _))))) ?_
    refine sr rfl rfl rfl ((q_lss rfl rfl rfl)) (sw_nil (post_then ?_))
    refine cw_cond rfl (fun h => ?_) (fun h => ?_)
    · skip
      have hi' : i < L.length := by simp only [List.length_map, decide_eq_true_eq] at h; omega
      have hip : i < ((tsk p tgt x).pre tgt.length).length := by rw [← hLp, List.length_map]; exact hi'
      have hLk : nth ((tsk p tgt x).pre tgt.length) i = (nth L i).2 := snd_nth hLp hi'
      have hsq : seqB p tgt (nth L i).2 = true := by rw [← hLk]; exact pre_seq (nth_mem hip)
      have e1 : nth (L.map Prod.fst) i = (nth L i).1 := by rw [nth_get (by simpa using hi'), nth_get hi']; simp
      obtain ⟨q, hq⟩ : ∃ q : Sq, q = ⟨(nth L i).1, (tsk p tgt x).tc 0 (nth L i).2, (nth L i).2⟩ := ⟨_, rfl⟩
      have hqc : q.cost = (tsk p tgt x).tc 0 q.ul := by rw [hq]
      have q1 : q.us = (nth L i).1 := by rw [hq]
      have q2 : q.ul = (nth L i).2 := by rw [hq]
      refine cw_skip (post_then (cw_seq (cw_block (cw_seq ?_))))
      refine cw_cut (S := Nat) (fun b14 => [(0, [], sp.v), (1, [], tp.v), (5, [], .pointer (some ⟨b5, 0, none⟩)), (7, [], sl.v), (12, [], so.v), (13, [], .int .i64 i), (14, [], .pointer (some ⟨b14, 0, none⟩))]) (fun b14 => Cl w [] (blk b14 (enc q) 30 :: ownL 30 so.v O :: ownL 28 sl.v (L.map Prod.fst) :: blk b5 (enc x) 25 :: L.map rowG)) (fun _ => True) ?_ ?_
      · refine cw_region_a (Cl w [] (ownL 30 so.v O :: ownL 28 sl.v (L.map Prod.fst) :: blk b5 (enc x) 25 :: L.map rowG)) [14] mixed_Tryz ?_
        refine aw_pure 0 rfl (by kernel_rfl) (by kernel_rfl) (by kernel_rfl) (by kernel_rfl) (by kernel_rfl) rfl rfl rfl (q_move rfl rfl) ?_
        refine aw_pure 1 rfl (by kernel_rfl) (by kernel_rfl) (by kernel_rfl) (by kernel_rfl) (by kernel_rfl) rfl rfl rfl (q_move rfl rfl) ?_
        refine aw_take 2 (fun w h => h) rfl (by kernel_rfl) (by kernel_rfl) (by kernel_rfl) (by kernel_rfl) (by kernel_rfl) (by kernel_rfl) rfl rfl rfl (q_indexN rfl rfl rfl (by exact fun w hw => rd_own hw (by exact .tail _ (.head _))) (by intro hc; (simp only [List.length_set, List.length_append, List.length_cons, List.length_nil, List.length_replicate, List.length_take, List.length_drop, List.length_map]; omega))) ?_
        refine aw_take 3 (fun w h => h) rfl (by kernel_rfl) (by kernel_rfl) (by kernel_rfl) (by kernel_rfl) (by kernel_rfl) (by kernel_rfl) rfl rfl rfl (q_loadEl rfl rfl rfl (by exact fun w hw => rd_own hw (by exact .tail _ (.head _))) (by intro hc; (simp only [List.length_set, List.length_append, List.length_cons, List.length_nil, List.length_replicate, List.length_take, List.length_drop, List.length_map]; omega))) ?_
        refine aw_pure 4 rfl (by kernel_rfl) (by kernel_rfl) (by kernel_rfl) (by kernel_rfl) (by kernel_rfl) rfl rfl rfl (q_move rfl rfl) ?_
        refine aw_pure 5 rfl (by kernel_rfl) (by kernel_rfl) (by kernel_rfl) (by kernel_rfl) (by kernel_rfl) rfl rfl rfl (q_move rfl rfl) ?_
        refine aw_take 6 (fun w h => h) rfl (by kernel_rfl) (by kernel_rfl) (by kernel_rfl) (by kernel_rfl) (by kernel_rfl) (by kernel_rfl) rfl rfl rfl (q_loadA rfl rfl (by exact .tail _ (.tail _ (.head _))) rfl) ?_
        refine aw_pure 7 rfl (by kernel_rfl) (by kernel_rfl) (by kernel_rfl) (by kernel_rfl) (by kernel_rfl) rfl rfl rfl (q_move rfl rfl) ?_
        refine aw_pure 8 rfl (by kernel_rfl) (by kernel_rfl) (by kernel_rfl) (by kernel_rfl) (by kernel_rfl) rfl rfl rfl (q_move rfl rfl) ?_
        refine aw_take 9 (fun w h => h) rfl (by kernel_rfl) (by kernel_rfl) (by kernel_rfl) (by kernel_rfl) (by kernel_rfl) (by kernel_rfl) rfl rfl rfl (q_indexN rfl rfl rfl (by exact fun w hw => rd_own hw (by exact .tail _ (.head _))) (by intro hc; (simp only [List.length_set, List.length_append, List.length_cons, List.length_nil, List.length_replicate, List.length_take, List.length_drop, List.length_map]; omega))) ?_
        refine aw_take 10 (fun w h => h) rfl (by kernel_rfl) (by kernel_rfl) (by kernel_rfl) (by kernel_rfl) (by kernel_rfl) (by kernel_rfl) rfl rfl rfl (q_loadEl rfl rfl rfl (by exact fun w hw => rd_own hw (by exact .tail _ (.head _))) (by intro hc; (simp only [List.length_set, List.length_append, List.length_cons, List.length_nil, List.length_replicate, List.length_take, List.length_drop, List.length_map]; omega))) ?_
        refine aw_two 11 13 (by kernel_rfl) ?_ ?_
        · skip
          refine at_q 11 rfl rfl rfl rfl (q_call (CanCall.mk Tryz.call59) rfl (.cons rfl inferInstance (.cons rfl inferInstance (.cons rfl inferInstance (.cons rfl inferInstance (.nil))))) (fun _ w hw => callq hw (refCost_spec sp tp (nth (L.map Prod.fst) i) p tgt x (nth L i).2 w (hvo.arg hw) (stb_arg hw htp) (by rw [e1]; exact stb_own (e := 3) hw (.tail _ (.tail _ (.tail _ (List.mem_map_of_mem (f := rowG) (nth_mem hi')))))) hE hsq))) (fun _ w h => h) ?_
          refine aw_pure 12 rfl (by kernel_rfl) (by kernel_rfl) (by kernel_rfl) (by kernel_rfl) (by kernel_rfl) rfl rfl rfl (q_build rfl (.cons rfl inferInstance (.cons rfl inferInstance (.nil))) rfl) ?_
          refine aw_x 13 (by kernel_rfl) rfl rfl rfl rfl (e_alloc rfl) (fun _ b w h => h.tail) (fun b14 => ?_)
          refine aw_one0 14 (by kernel_rfl) rfl rfl rfl (e_store (i := 0) rfl rfl rfl rfl rfl rfl rfl rfl) (fun hb => absurd hb (by decide)) ?_
          refine aw_end (by kernel_rfl) ?_
          exact post_meet b14 (by exact .cons rfl (.cons rfl (.cons rfl (.cons rfl (.cons rfl (.cons rfl (.cons rfl .nil))))))) (fun w' h => by rw [hq]; rw [e1] at h; exact h) trivial
        · skip
          refine at_x 13 rfl rfl rfl rfl (e_alloc rfl) (fun _ b w h => h.tail) (fun b14 => ?_)
          refine aw_q 11 (by kernel_rfl) rfl rfl rfl rfl (q_call (CanCall.mk Tryz.call59) rfl (.cons rfl inferInstance (.cons rfl inferInstance (.cons rfl inferInstance (.cons rfl inferInstance (.nil))))) (fun _ w hw => callq hw (refCost_spec sp tp (nth (L.map Prod.fst) i) p tgt x (nth L i).2 w (hvo.arg hw) (stb_arg hw htp) (by rw [e1]; exact stb_own (e := 3) hw (.tail _ (.tail _ (.tail _ (.tail _ (List.mem_map_of_mem (f := rowG) (nth_mem hi'))))))) hE hsq))) (fun _ w h => h.tail) ?_
          refine aw_pure 12 rfl (by kernel_rfl) (by kernel_rfl) (by kernel_rfl) (by kernel_rfl) (by kernel_rfl) rfl rfl rfl (q_build rfl (.cons rfl inferInstance (.cons rfl inferInstance (.nil))) rfl) ?_
          refine aw_one0 14 (by kernel_rfl) rfl rfl rfl (e_store (i := 0) rfl rfl rfl rfl rfl rfl rfl rfl) (fun hb => absurd hb (by decide)) ?_
          refine aw_end (by kernel_rfl) ?_
          exact post_meet b14 (by exact .cons rfl (.cons rfl (.cons rfl (.cons rfl (.cons rfl (.cons rfl (.cons rfl .nil))))))) (fun w' h => by rw [hq]; rw [e1] at h; exact h) trivial
      intro b14 _
      refine post_then (cw_seq (cw_region (sr rfl rfl rfl ((q_move rfl rfl)) ?_)))
      refine sr rfl rfl rfl ((q_len rfl (.cons rfl inferInstance (.nil)) (by exact fun w hw => rd_own hw (by exact .tail _ (.head _))))) ?_
      refine sr rfl rfl rfl ((q_assign rfl rfl)) (sw_nil (post_then (cw_seq (cw_block ?_))))
      refine cw_loop (S := Nat) (fun k => [(0, [], sp.v), (1, [], tp.v), (5, [], .pointer (some ⟨b5, 0, none⟩)), (7, [], sl.v), (12, [], so.v), (13, [], .int .i64 i), (14, [], .pointer (some ⟨b14, 0, none⟩)), (15, [], .int .i64 k)]) (fun _ => Cl w [] (blk b14 (enc q) 30 :: ownL 30 so.v O :: ownL 28 sl.v (L.map Prod.fst) :: blk b5 (enc x) 25 :: L.map rowG)) (fun k => k ≤ O.length ∧ ∀ j, k ≤ j → j < O.length → q.cost < (nth O j).cost) (fun k => k) O.length ⟨Nat.le_refl _, fun j h1 h2 => by omega⟩ (by exact .cons rfl (.cons rfl (.cons rfl (.cons rfl (.cons rfl (.cons rfl (.cons rfl (.cons rfl .nil)))))))) (fun _ h => h) ?_
      rintro k ⟨hk1, hk2⟩
      have e : ((k : Int) - 1).toNat = k - 1 := by omega
      refine cw_seq (cw_seq ?_)
      refine cw_region_q mixed_Tryz (by kernel_rfl) ?_
      refine qr rfl rfl rfl ((q_move rfl rfl)) (qr rfl rfl rfl ((q_gtr rfl rfl rfl)) (qr rfl rfl rfl ((q_move rfl rfl)) (qr rfl rfl rfl ((q_move rfl rfl)) (qr rfl rfl rfl ((q_move rfl rfl)) ?_))))
      refine qr rfl rfl rfl ((q_sub rfl rfl rfl (by intro hc; omega))) ?_
      refine qr rfl rfl rfl ((q_index rfl rfl rfl (by exact fun w hw => rd_own hw (by exact .tail _ (.head _))) (by intro hc; (simp only [AllT.iff, List.all_cons, List.all_nil, id, Bool.and_eq_true, Bool.not_eq_true', decide_eq_true_eq, decide_eq_false_iff_not, and_true] at hc; omega)))) ?_
      refine qr rfl rfl rfl ((q_fieldEl rfl rfl (by exact fun w hw => rd_own hw (by exact .tail _ (.head _))) (by intro hc; (simp only [AllT.iff, List.all_cons, List.all_nil, id, Bool.and_eq_true, Bool.not_eq_true', decide_eq_true_eq, decide_eq_false_iff_not, and_true] at hc; omega)))) ?_
      refine qr rfl rfl rfl ((q_loadF rfl rfl rfl (by exact fun w hw => rd_own hw (by exact .tail _ (.head _))) (by intro hc; (simp only [AllT.iff, List.all_cons, List.all_nil, id, Bool.and_eq_true, Bool.not_eq_true', decide_eq_true_eq, decide_eq_false_iff_not, and_true] at hc; omega)) rfl)) ?_
      refine qr rfl rfl rfl ((q_fieldAddr rfl rfl)) ?_
      refine qr rfl rfl rfl ((q_loadC rfl rfl (by exact .head _) rfl)) ?_
      refine qr rfl rfl rfl ((q_gtr rfl rfl rfl)) (qr rfl rfl rfl ((q_and2 rfl rfl rfl)) (qw_end (post_then ?_)))
      refine cw_cond rfl (fun h2 => ?_) (fun h2 => ?_)
      · skip
        have h7 : 0 < k ∧ q.cost < (nth O (k - 1)).cost := by
          simp only [Bool.and_eq_true, decide_eq_true_eq] at h2
          rw [e] at h2
          exact ⟨by omega, h2.2⟩
        refine cw_skip (post_then (cw_block (cw_region (sr rfl rfl rfl ((q_move rfl rfl)) ?_))))
        refine sr rfl rfl rfl ((q_sub rfl rfl rfl (by intro hc; omega))) ?_
        refine sr rfl rfl rfl ((q_assign rfl rfl)) (sw_nil (post_blk ?_))
        refine post_next (k - 1) (by exact .cons rfl (.cons rfl (.cons rfl (.cons rfl (.cons rfl (.cons rfl (.cons rfl (.cons' rfl (by congr 1; first | omega | (simp only; omega)) .nil)))))))) (fun _ h => h) ⟨by omega, fun j h5 h6 => ?_⟩ (by omega)
        by_cases ek : j = k - 1
        · rw [ek]; exact h7.2
        · exact hk2 j (by omega) h6
      · skip
        have h7 : 0 < k → ¬ q.cost < (nth O (k - 1)).cost := fun h0 hx => by
          rw [e] at h2
          simp [h0, hx] at h2
        refine cw_exit (post_then_x (post_then_x (post_blk_eq (post_then (cw_c (C' := Cl w [] (ownL 30 (SlV.v ⟨none, 0, 0⟩) ([] : List Sq) :: blk b14 (enc q) 30 :: ownL 30 so.v O :: ownL 28 sl.v (L.map Prod.fst) :: blk b5 (enc x) 25 :: L.map rowG)) (fun w' h => h.addNil (α := Sq) 30) ?_)))))
        have hA : ∀ {H : List Asn} {w1 : World}, Cl w [] H w1 → ownL 30 so.v O ∈ H → RdL (so.sub 2 0 ((k : Int)).toNat).v (O.take k) w1 := fun h1 h2 => rd_sub (a := 0) (b := k) (rd_own (e := 30) h1 h2) (Nat.zero_le _) (by omega)
        have hB : ∀ {H : List Asn} {w1 : World}, Cl w [] H w1 → ownL 30 so.v O ∈ H → RdL (so.sub 2 ((k : Int)).toNat O.length).v (O.drop k) w1 := fun h1 h2 => by
          have := rd_sub (a := k) (b := O.length) (rd_own (e := 30) h1 h2) (by omega) (Nat.le_refl _)
          rwa [List.take_length] at this
        have htk : (O.take k).length = k := by simp; omega
        have hdk : (O.drop k).length = O.length - k := by simp
        refine cw_region_a (Cl w [] [blk b14 (enc q) 30, ownL 30 so.v O]) [] mixed_Tryz ?_
        refine aw_pure 0 rfl (by kernel_rfl) (by kernel_rfl) (by kernel_rfl) (by kernel_rfl) (by kernel_rfl) rfl rfl rfl (q_move rfl rfl) ?_
        refine aw_pure 1 rfl (by kernel_rfl) (by kernel_rfl) (by kernel_rfl) (by kernel_rfl) (by kernel_rfl) rfl rfl rfl (q_move rfl rfl) ?_
        refine aw_take 2 (fun w h => cl_drop (F := [blk b14 (enc q) 30, ownL 30 so.v O]) h.tail) rfl (by kernel_rfl) (by kernel_rfl) (by kernel_rfl) (by kernel_rfl) (by kernel_rfl) (by kernel_rfl) rfl rfl rfl (q_sliceH rfl rfl rfl (by exact fun w hw => rd_own hw (by exact .tail _ (.head _))) (by intro hc; omega)) ?_
        refine aw_take 4 (fun w h => cl_drop (F := [blk b14 (enc q) 30, ownL 30 so.v O]) h.tail) rfl (by kernel_rfl) (by kernel_rfl) (by kernel_rfl) (by kernel_rfl) (by kernel_rfl) (by kernel_rfl) rfl rfl rfl (q_loadA rfl rfl (by exact .head _) rfl) ?_
        refine aw_pure 7 rfl (by kernel_rfl) (by kernel_rfl) (by kernel_rfl) (by kernel_rfl) (by kernel_rfl) rfl rfl rfl (q_move rfl rfl) ?_
        refine aw_pure 8 rfl (by kernel_rfl) (by kernel_rfl) (by kernel_rfl) (by kernel_rfl) (by kernel_rfl) rfl rfl rfl (q_move rfl rfl) ?_
        refine aw_take 9 (fun w h => cl_drop (F := [blk b14 (enc q) 30, ownL 30 so.v O]) h.tail) rfl (by kernel_rfl) (by kernel_rfl) (by kernel_rfl) (by kernel_rfl) (by kernel_rfl) (by kernel_rfl) rfl rfl rfl (q_sliceL rfl rfl rfl (by exact fun w hw => rd_own hw (by exact .tail _ (.head _))) (by intro hc; omega)) ?_
        refine aw_two 3 5 (by kernel_rfl) ?_ ?_
        · skip
          refine at_x 3 rfl rfl rfl rfl (e_append (i := 0) rfl (.cons rfl inferInstance (.cons rfl inferInstance (.nil))) rfl rfl (fun w1 h1 => hA h1 (by exact .tail _ (.tail _ (.head _)))) (by simp only [List.length_nil, htk]; omega) rfl) (fun _ x w h => by first | exact cl_drop (F := [blk b14 (enc q) 30, ownL 30 so.v O]) h.tail | exact cl_drop (F := [blk b14 (enc q) 30, ownL 30 so.v O]) h.tail.tail) (fun s97 => ?_)
          refine aw_x 5 (by kernel_rfl) rfl rfl rfl rfl (e_build1 (α := Sq) (x := q) rfl rfl rfl rfl) (fun _ x w h => by first | exact cl_drop (F := [blk b14 (enc q) 30, ownL 30 so.v O]) h.tail | exact cl_drop (F := [blk b14 (enc q) 30, ownL 30 so.v O]) h.tail.tail) (fun s99 => ?_)
          refine aw_x 6 (by kernel_rfl) rfl rfl rfl rfl (e_append (i := 1) rfl (.cons rfl inferInstance (.cons rfl inferInstance (.nil))) rfl rfl (by exact fun w hw => rd_own hw (by exact .head _)) (by simp only [List.length_append, List.length_cons, List.length_nil, htk]; omega) rfl) (fun _ x w h => by first | exact cl_drop (F := [blk b14 (enc q) 30, ownL 30 so.v O]) h.tail | exact cl_drop (F := [blk b14 (enc q) 30, ownL 30 so.v O]) h.tail.tail) (fun s100 => ?_)
          refine aw_x 10 (by kernel_rfl) rfl rfl rfl rfl (e_append (i := 1) rfl (.cons rfl inferInstance (.cons rfl inferInstance (.nil))) rfl rfl (fun w1 h1 => hB h1 (by exact .tail _ (.tail _ (.tail _ (.head _))))) (by simp only [List.length_append, List.length_cons, List.length_nil, htk, hdk]; omega) rfl) (fun _ x w h => by first | exact cl_drop (F := [blk b14 (enc q) 30, ownL 30 so.v O]) h.tail | exact cl_drop (F := [blk b14 (enc q) 30, ownL 30 so.v O]) h.tail.tail) (fun s104 => ?_)
          refine aw_pure 11 rfl (by kernel_rfl) (by kernel_rfl) (by kernel_rfl) (by kernel_rfl) (by kernel_rfl) rfl rfl rfl (q_assign rfl rfl) ?_
          refine aw_end (by kernel_rfl) ?_
          refine post_blk (post_then (cw_region (sr rfl rfl rfl ((q_move rfl rfl)) ?_)))
          refine sr rfl rfl rfl ((q_add rfl rfl rfl (by intro hc; omega))) ?_
          refine sr rfl rfl rfl ((q_assign rfl rfl)) (sw_nil ?_)
          refine post_next ⟨i + 1, s104, O.take k ++ [q] ++ O.drop k⟩ (by exact .cons rfl (.cons rfl (.cons rfl (.cons rfl (.cons rfl (.cons rfl .nil)))))) (fun w3 hw3 => ?_) ⟨by simp only; omega, out_step hrise hLp hi' hO q1 q2 hqc hk1 hk2 h7⟩ (by simp only; omega)
          exact cl_mid hw3.tail
        · skip
          refine at_x 5 rfl rfl rfl rfl (e_build1 (α := Sq) (x := q) rfl rfl rfl rfl) (fun _ x w h => by first | exact cl_drop (F := [blk b14 (enc q) 30, ownL 30 so.v O]) h.tail | exact cl_drop (F := [blk b14 (enc q) 30, ownL 30 so.v O]) h.tail.tail) (fun s99 => ?_)
          refine aw_x 3 (by kernel_rfl) rfl rfl rfl rfl (e_append (i := 1) rfl (.cons rfl inferInstance (.cons rfl inferInstance (.nil))) rfl rfl (fun w1 h1 => hA h1 (by exact .tail _ (.tail _ (.tail _ (.head _))))) (by simp only [List.length_nil, htk]; omega) rfl) (fun _ x w h => by first | exact cl_drop (F := [blk b14 (enc q) 30, ownL 30 so.v O]) h.tail | exact cl_drop (F := [blk b14 (enc q) 30, ownL 30 so.v O]) h.tail.tail) (fun s97 => ?_)
          refine aw_x 6 (by kernel_rfl) rfl rfl rfl rfl (e_append (i := 1) rfl (.cons rfl inferInstance (.cons rfl inferInstance (.nil))) rfl rfl (by exact fun w hw => rd_own hw (by exact .head _)) (by simp only [List.length_append, List.length_cons, List.length_nil, htk]; omega) rfl) (fun _ x w h => by first | exact cl_drop (F := [blk b14 (enc q) 30, ownL 30 so.v O]) h.tail | exact cl_drop (F := [blk b14 (enc q) 30, ownL 30 so.v O]) h.tail.tail) (fun s100 => ?_)
          refine aw_x 10 (by kernel_rfl) rfl rfl rfl rfl (e_append (i := 1) rfl (.cons rfl inferInstance (.cons rfl inferInstance (.nil))) rfl rfl (fun w1 h1 => hB h1 (by exact .tail _ (.tail _ (.tail _ (.head _))))) (by simp only [List.length_append, List.length_cons, List.length_nil, htk, hdk]; omega) rfl) (fun _ x w h => by first | exact cl_drop (F := [blk b14 (enc q) 30, ownL 30 so.v O]) h.tail | exact cl_drop (F := [blk b14 (enc q) 30, ownL 30 so.v O]) h.tail.tail) (fun s104 => ?_)
          refine aw_pure 11 rfl (by kernel_rfl) (by kernel_rfl) (by kernel_rfl) (by kernel_rfl) (by kernel_rfl) rfl rfl rfl (q_assign rfl rfl) ?_
          refine aw_end (by kernel_rfl) ?_
          refine post_blk (post_then (cw_region (sr rfl rfl rfl ((q_move rfl rfl)) ?_)))
          refine sr rfl rfl rfl ((q_add rfl rfl rfl (by intro hc; omega))) ?_
          refine sr rfl rfl rfl ((q_assign rfl rfl)) (sw_nil ?_)
          refine post_next ⟨i + 1, s104, O.take k ++ [q] ++ O.drop k⟩ (by exact .cons rfl (.cons rfl (.cons rfl (.cons rfl (.cons rfl (.cons rfl .nil)))))) (fun w3 hw3 => ?_) ⟨by simp only; omega, out_step hrise hLp hi' hO q1 q2 hqc hk1 hk2 h7⟩ (by simp only; omega)
          exact cl_mid hw3.tail
    · skip
      have hi' : i = L.length := by simp only [List.length_map, decide_eq_false_iff_not] at h; omega
      subst hi'
      refine cw_exit (post_then_x (post_then_x (post_blk_eq (post_then (cw_seq (cw_region (sr rfl rfl rfl ((q_move rfl rfl)) (sr rfl rfl rfl ((q_assign rfl rfl)) (sw_nil (post_then (cw_ret (post_ret1 rfl (resOk_tmp rfl) ?_))))))))))))
      exact fun w3 hw3 => ⟨(so, (O, L)), rfl, ⟨out_all hLp hO, hO.mem⟩, cl_mid hw3⟩
end Go.Proofs.YtomjbfeafodfbaaGreat

set_option autoImplicit false
set_option maxRecDepth 100000
namespace Go.Proofs.YtomjbfeafodfbaaGreat
open Go.Sx
open Enc (enc val)
theorem small_pw {p : List Un} {tgt : List Wan} {a b : Nat} (ha : a ≤ 10) (hb : b ≤ 8) (hp : p.length ≤ a) (ht : tgt.length ≤ b) : (p.length + 1) ^ tgt.length ≤ 500000000 :=
  Nat.le_trans (Nat.pow_le_pow_left (show p.length + 1 ≤ 11 by omega) _) (Nat.le_trans (Nat.pow_le_pow_right (by omega) (show tgt.length ≤ 8 by omega)) (by decide))
theorem best_perm {α : Type} (A B X : α) (R S : List α) : (A :: (R ++ X :: B :: S)).Perm (X :: B :: A :: (S ++ R)) := (List.perm_append_comm (l₁ := A :: R) (l₂ := X :: B :: S)).trans (.cons _ (.cons _ List.perm_middle))
theorem best_fail (sp tp : SlV) (p : List Un) (tgt : List Wan) (x : Wts) (n : Int) (w : World) (hvo : VoRd w sp p) (htp : Stb w [] (RdL tp.v tgt)) (htg : ∀ t ∈ tgt, WaRd t) (hB : bestE p tgt x n ≠ 0) :
    Calls Tryz.prog 26 #[sp.v, tp.v, val x, .int .i64 n] w fun e w' => ∃ u : Unit, e = .returned (.tuple #[.slice none 0 0, .int .i64 (bestE p tgt x n)]) ∧ True ∧ Cl w [] [] w' := by
  by_cases hE : beginE p tgt x = 0
  · exact best_no sp tp p tgt x n w hvo htp htg hE hB
  · exact best_bad sp tp p tgt x n w hvo htp htg hE
theorem begin_best {p : List Un} {tgt : List Wan} {x : Wts} {n : Int} (h : beginE p tgt x ≠ 0) : bestE p tgt x n = beginE p tgt x := by
  by_cases h4 : beginE p tgt x = 4
  · rw [bestE, if_pos h4, h4]
  · rw [bestE, if_neg h4, if_pos (.inl h)]
    unfold beginE at h h4 ⊢
    split
    · rename_i h1; rw [if_pos h1] at h4; exact absurd rfl h4
    · rename_i h1; rw [if_neg h1] at h
      split
      · rename_i h2; rw [if_pos h2] at h; exact absurd rfl h
      · rfl
theorem bestE_at {p : List Un} {tgt : List Wan} {x : Wts} {n : Int} (h : beginE p tgt x = 0) : bestE p tgt x n = if inB n 1 50 = false then 2 else if possP p tgt then 0 else 5 := by simp [bestE, h]
theorem bestE_zero {p : List Un} {tgt : List Wan} {x : Wts} {n : Int} (h : bestE p tgt x n = 0) : beginE p tgt x = 0 ∧ (∃ m : Nat, n = m ∧ 1 ≤ m ∧ m ≤ 50) ∧ possP p tgt = true := by
  have hE : beginE p tgt x = 0 := by
    by_cases hE : beginE p tgt x = 0
    · exact hE
    · rw [begin_best hE] at h; exact absurd h hE
  rw [bestE_at hE] at h
  refine ⟨hE, ?_⟩
  cases h1 : inB n 1 50
  · rw [h1] at h; simp at h
  · cases h2 : possP p tgt
    · rw [h1, h2] at h; simp at h
    · simp only [inB, Bool.and_eq_true, decide_eq_true_eq] at h1
      exact ⟨⟨n.toNat, by omega, by omega, by omega⟩, rfl⟩
theorem poss_at {p : List Un} {tgt : List Wan} (h : possP p tgt = true) {i : Nat} (hi : i < tgt.length) : idxs p p.length (nth tgt i).phone ≠ [] := by
  have := List.all_eq_true.1 h i (by simpa using hi)
  simpa using this
theorem poss_nil {p : List Un} {tgt : List Wan} {x : Wts} (h : possP p tgt = false) : (tsk p tgt x).tl tgt.length = [] := by
  obtain ⟨i, hi, h2⟩ := List.all_eq_false.1 h
  simp only [List.mem_range] at hi
  have h3 : idxs p p.length (nth tgt i).phone = [] := by simpa using h2
  have := Tsk.tl_nil (t := tsk p tgt x) hi h3
  exact this
theorem poss_ne {p : List Un} {tgt : List Wan} {x : Wts} (h : possP p tgt = true) : (tsk p tgt x).tl tgt.length ≠ [] := Tsk.tl_ne (t := tsk p tgt x) (fun i hi => poss_at h hi) tgt.length (Nat.le_refl _)
set_option maxHeartbeats 2000000 in
theorem lawBest (sp tp : SlV) (p : List Un) (tgt : List Wan) (x : Wts) (n : Int) (w : World) (hvo : VoIn w sp p) (htp : Stb w [] (RdL tp.v tgt)) :
    Calls Tryz.prog 4 #[sp.v, tp.v, val x, .int .i64 n] w fun e w' => e = .returned (.bool true) ∧ Cl w [] [] w' := by
  refine calls_cw (vs := [_, _, _, _]) Tryz.func4 rfl Tryz.ntmps4 rfl (Cl.start0 w) (cw_seq (cw_region ?_))
  refine sw_x rfl rfl rfl (e_box rfl rfl rfl) (fun b6 => ?_)
  refine sr rfl rfl rfl ((q_assign rfl rfl)) (sw_nil (post_then (cw_seq (cw_seq (cw_region (sr rfl rfl rfl ((q_move rfl rfl)) (sr rfl rfl rfl ((q_move rfl rfl)) (sw_step rfl rfl rfl (q_call (CanCall.mk Tryz.call17) rfl (.cons rfl inferInstance (.cons rfl inferInstance (.cons rfl inferInstance (.cons rfl inferInstance (.nil))))) (fun _ w hw => callq hw (small_spec sp tp p tgt 10 8 w (voIn_arg hw hvo) (stb_arg hw htp)))) (sr rfl rfl rfl ((q_not rfl rfl)) (sr rfl rfl rfl ((q_move rfl rfl)) (sr rfl rfl rfl ((q_move rfl rfl)) (sr rfl rfl rfl ((q_move rfl rfl)) ?_))))))))))))
  refine sr rfl rfl rfl ((q_loadA rfl rfl (by exact .head _) rfl)) ?_
  refine sw_step rfl rfl rfl (q_call (CanCall.mk Tryz.call20) rfl (.cons rfl inferInstance (.cons rfl inferInstance (.cons rfl inferInstance (.nil)))) (fun hc w hw => callq hw (wrong_spec sp tp p tgt x w ((small_vo hvo (by simpa [AllT] using hc)).arg hw) (stb_arg hw htp) (small_ta (by simpa [AllT] using hc))))) ?_
  refine sr rfl rfl rfl ((q_eql rfl rfl rfl)) (sr rfl rfl rfl ((q_move rfl rfl)) (sr rfl rfl rfl ((q_move rfl rfl)) (sr rfl rfl rfl ((q_move rfl rfl)) ?_)))
  refine sw_step rfl rfl rfl (q_call (CanCall.mk Tryz.call25) rfl (.cons rfl inferInstance (.cons rfl inferInstance (.cons rfl inferInstance (.nil)))) (fun hc w hw => callq hw (few_spec sp tp p tgt w (beginE_ok (p := p) (tgt := tgt) (x := x) (by simp [AllT] at hc; exact hc.1)).1 (stb_arg hw (rd_stb hvo.l)) (stb_arg hw htp)))) ?_
  refine sr rfl rfl rfl ((q_not rfl rfl)) (sr rfl rfl rfl ((q_and2 rfl rfl rfl)) (sr rfl rfl rfl ((q_or2 rfl rfl rfl)) (sw_nil (post_then ?_))))
  refine cw_cond rfl (fun h => ?_) (fun h => ?_)
  · skip
    refine cw_seq (cw_region (sw_step rfl rfl rfl (q_call (CanCall.mk Tryz.call18) rfl (.nil) (fun _ w hw => callq hw (known_spec w))) (sr rfl rfl rfl ((q_assign rfl rfl)) (sw_nil (post_then (cw_ret (post_then_r (post_ret1 rfl (resOk_tmp rfl) ?_))))))))
    exact fun w' hw => ⟨rfl, (fun w h => Cl.sel (by exact .nil _) w h) _ hw⟩
  · skip
    simp only [Bool.or_eq_false_iff, Bool.and_eq_false_iff, Bool.not_eq_false', decide_eq_false_iff_not] at h
    obtain ⟨hs, hf⟩ := h
    have hvr : VoRd w sp p := small_vo hvo hs
    have hta := small_ta hs
    obtain ⟨n1, n2, n3, n4⟩ := small_n hs
    refine cw_skip (post_then (cw_seq (cw_region (sr rfl rfl rfl ((q_move rfl rfl)) (sr rfl rfl rfl ((q_move rfl rfl)) ?_)))))
    refine sr rfl rfl rfl ((q_loadA rfl rfl (by exact .head _) rfl)) ?_
    refine sr rfl rfl rfl ((q_move rfl rfl)) ?_
    by_cases hB : bestE p tgt x n = 0
    · obtain ⟨hE, ⟨m, rfl, hm1, hm2⟩, hP⟩ := bestE_zero hB
      have hfew : fewB p tgt 200 = true := by
        rcases hf with hf | hf
        · exact absurd hE hf
        · exact hf
      obtain ⟨m1, m2, -⟩ := beginE_ok hE
      have hbig : (p.length + 1) ^ tgt.length ≤ 500000000 := small_pw (a := 10) (b := 8) (by omega) (by omega) (by omega) (by omega)
      refine sw_x rfl rfl rfl (e_call (CanCall.mk Tryz.call26) rfl (.cons rfl inferInstance (.cons rfl inferInstance (.cons rfl inferInstance (.cons rfl inferInstance (.nil))))) (fun w hw => best_yes sp tp p tgt x m w (hvr.arg hw) (stb_arg hw htp) hta hE ⟨hm1, hm2⟩ hP hbig)) (fun y => ?_)
      refine sw_imp fun hy => ?_
      obtain ⟨so, ⟨outs, lq⟩⟩ := y
      dsimp only at hy ⊢
      obtain ⟨hbf, hend, hlen⟩ := hy
      refine sw_le (C' := Cl w [] (blk b6 (enc x) 25 :: ownL 30 so.v outs :: outs.map sqA)) (fun w' h => h.perm (List.perm_append_comm (l₁ := ownL 30 so.v outs :: outs.map sqA) (l₂ := [blk b6 (enc x) 25]))) (sr rfl rfl rfl ((q_move rfl rfl)) (sr rfl rfl rfl ((q_extract rfl rfl rfl)) (sr rfl rfl rfl ((q_extract rfl rfl rfl)) (sr rfl rfl rfl ((q_assign rfl rfl)) (sr rfl rfl rfl ((q_assign rfl rfl)) (sw_nil (post_then (cw_seq (cw_region (sr rfl rfl rfl ((q_move rfl rfl)) (sr rfl rfl rfl ((q_move rfl rfl)) ?_)))))))))))
      refine sr rfl rfl rfl ((q_loadA rfl rfl (by exact .head _) rfl)) ?_
      refine sw_step rfl rfl rfl (q_call (CanCall.mk Tryz.call20) rfl (.cons rfl inferInstance (.cons rfl inferInstance (.cons rfl inferInstance (.nil)))) (fun _ w hw => callq hw (wrong_spec sp tp p tgt x w (hvr.arg hw) (stb_arg hw htp) hta))) (sr rfl rfl rfl ((q_assign rfl rfl)) (sw_nil (post_then (cw_seq (cw_seq (cw_region (sr rfl rfl rfl ((q_move rfl rfl)) (sr rfl rfl rfl ((q_eql rfl rfl rfl)) (sr rfl rfl rfl ((q_move rfl rfl)) (sr rfl rfl rfl ((q_move rfl rfl)) (sr rfl rfl rfl ((q_lss rfl rfl rfl)) (sr rfl rfl rfl ((q_move rfl rfl)) (sr rfl rfl rfl ((q_move rfl rfl)) (sr rfl rfl rfl ((q_gtr rfl rfl rfl)) (sr rfl rfl rfl ((q_or2 rfl rfl rfl)) (sr rfl rfl rfl ((q_and2 rfl rfl rfl)) (sw_nil (post_then ?_))))))))))))))))))
      rw [hE]
      refine cw_cond rfl (fun h5 => ?_) (fun h5 => ?_)
      · skip
        exfalso
        simp at h5
        omega
      · skip
        clear h5
        refine cw_skip (post_then (cw_seq (cw_seq (cw_region (sr rfl rfl rfl ((q_move rfl rfl)) (sr rfl rfl rfl ((q_neq rfl rfl rfl)) (sw_nil (post_then ?_))))))))
        refine cw_cond rfl (fun h6 => ?_) (fun h6 => ?_)
        · skip
          simp at h6
        · skip
          clear h6
          refine cw_skip (post_then (cw_seq (cw_region (sr rfl rfl rfl ((q_move rfl rfl)) (sr rfl rfl rfl ((q_move rfl rfl)) ?_)))))
          refine sr rfl rfl rfl ((q_loadA rfl rfl (by exact .head _) rfl)) ?_
          refine sw_x rfl rfl rfl (e_call (CanCall.mk Tryz.call27) rfl (.cons rfl inferInstance (.cons rfl inferInstance (.cons rfl inferInstance (.nil)))) (fun w hw => refSeqs_spec sp tp p tgt x w (hvr.arg hw) (stb_arg hw htp) hE hfew)) (fun z => ?_)
          refine sw_imp fun hz => ?_
          obtain ⟨sa, ⟨O, L⟩⟩ := z
          dsimp only at hz ⊢
          obtain ⟨hall, hmem⟩ := hz
          refine sw_le (C' := Cl w [] (blk b6 (enc x) 25 :: ownL 30 so.v outs :: ownL 30 sa.v O :: (outs.map sqA ++ L.map rowG))) (fun w' h => h.perm (best_perm _ _ _ _ _)) ?_
          have hne := poss_ne (x := x) hP
          have hOne : O ≠ [] := fun h0 => by
            have := hall.2.length_eq
            rw [h0] at this
            simp only [List.map_nil, List.length_nil, List.length_map] at this
            exact hne (List.eq_nil_of_length_eq_zero this.symm)
          have hO0 : 0 < O.length := List.length_pos_iff.2 hOne
          have htake := Tsk.allS_bf hall hbf
          have hmin := Tsk.allS_len hall hbf (n := m) (by simpa using hend) (by simpa using hlen)
          simp only [List.length_map] at htake hmin
          have hOl : outs.length ≤ O.length := by omega
          refine sr rfl rfl rfl ((q_assign rfl rfl)) (sw_nil (post_then (cw_seq (cw_seq (cw_region (sr rfl rfl rfl ((q_move rfl rfl)) ?_))))))
          refine sr rfl rfl rfl ((q_len rfl (.cons rfl inferInstance (.nil)) (by exact fun w hw => rd_own hw (by exact .tail _ (.tail _ (.head _)))))) ?_
          refine sr rfl rfl rfl ((q_eql rfl rfl rfl)) (sw_nil (post_then ?_))
          refine cw_cond rfl (fun h7 => ?_) (fun h7 => ?_)
          · skip
            exfalso
            exact hOne (by simpa using h7)
          · skip
            clear h7
            refine cw_skip (post_then (cw_seq (cw_seq (cw_region (sr rfl rfl rfl ((q_move rfl rfl)) (sr rfl rfl rfl ((q_neq rfl rfl rfl)) (sr rfl rfl rfl ((q_move rfl rfl)) (sr rfl rfl rfl ((q_move rfl rfl)) ?_))))))))
            refine sr rfl rfl rfl ((q_len rfl (.cons rfl inferInstance (.nil)) (by exact fun w hw => rd_own hw (by exact .tail _ (.head _))))) ?_
            refine sr rfl rfl rfl ((q_move rfl rfl)) (sr rfl rfl rfl ((q_move rfl rfl)) ?_)
            refine sr rfl rfl rfl ((q_len rfl (.cons rfl inferInstance (.nil)) (by exact fun w hw => rd_own hw (by exact .tail _ (.tail _ (.head _)))))) ?_
            refine sr rfl rfl rfl ((q_min rfl (.cons rfl inferInstance (.cons rfl inferInstance (.nil))))) (sr rfl rfl rfl ((q_neq rfl rfl rfl)) (sr rfl rfl rfl ((q_or2 rfl rfl rfl)) (sw_nil (post_then ?_))))
            refine cw_cond rfl (fun h8 => ?_) (fun h8 => ?_)
            · skip
              exfalso
              simp at h8
              omega
            · skip
              clear h8
              refine cw_skip (post_then (cw_seq (cw_seq (cw_region (sr rfl rfl rfl ((q_assign rfl rfl)) (sw_nil (post_then (cw_block ?_))))))))
              refine cw_loop (S := Nat) (fun i => [(0, [], sp.v), (1, [], tp.v), (3, [], .int .i64 m), (6, [], .pointer (some ⟨b6, 0, none⟩)), (9, [], so.v), (12, [], sa.v), (13, [], .int .i64 i)]) (fun _ => Cl w [] (blk b6 (enc x) 25 :: ownL 30 so.v outs :: ownL 30 sa.v O :: (outs.map sqA ++ L.map rowG))) (fun i => i ≤ outs.length) (fun i => outs.length - i) 0 (Nat.zero_le _) (by exact .cons rfl (.cons rfl (.cons rfl (.cons rfl (.cons rfl (.cons rfl (.cons rfl .nil))))))) (fun _ h => h) ?_
              intro i hi
              refine cw_seq (cw_seq (cw_region (sr rfl rfl rfl ((q_move rfl rfl)) (sr rfl rfl rfl ((q_move rfl rfl)) ?_))))
              refine sr rfl rfl rfl ((q_len rfl (.cons rfl inferInstance (.nil)) (by exact fun w hw => rd_own hw (by exact .tail _ (.head _))))) ?_
              refine sr rfl rfl rfl ((q_lss rfl rfl rfl)) (sw_nil (post_then ?_))
              refine cw_cond rfl (fun h9 => ?_) (fun h9 => ?_)
              · skip
                have hi' : i < outs.length := by simp only [decide_eq_true_eq] at h9; omega
                have hkey : keyS (nth outs i) = keyS (nth O i) := by
                  rw [← keyS_nth hi', ← keyS_nth (by omega), ← htake, nth_get (by simp; omega), nth_get (by simp; omega)]
                  simp
                have ec : (nth outs i).cost = (nth O i).cost := congrArg Prod.snd hkey
                have eu : (nth outs i).ul = (nth O i).ul := congrArg Prod.fst hkey
                refine cw_skip (post_then (cw_seq (cw_block (cw_seq ?_))))
                refine cw_region_q mixed_Tryz (by kernel_rfl) ?_
                refine qr rfl rfl rfl ((q_move rfl rfl)) (qr rfl rfl rfl ((q_move rfl rfl)) ?_)
                refine qr rfl rfl rfl ((q_indexN rfl rfl rfl (by exact fun w hw => rd_own hw (by exact .tail _ (.head _))) (by intro hc; omega))) ?_
                refine qr rfl rfl rfl ((q_fieldEl rfl rfl (by exact fun w hw => rd_own hw (by exact .tail _ (.head _))) (by intro hc; omega))) ?_
                refine qr rfl rfl rfl ((q_loadF rfl rfl rfl (by exact fun w hw => rd_own hw (by exact .tail _ (.head _))) (by intro hc; omega) rfl)) ?_
                refine qr rfl rfl rfl ((q_move rfl rfl)) (qr rfl rfl rfl ((q_move rfl rfl)) ?_)
                refine qr rfl rfl rfl ((q_indexN rfl rfl rfl (by exact fun w hw => rd_own hw (by exact .tail _ (.tail _ (.head _)))) (by intro hc; omega))) ?_
                refine qr rfl rfl rfl ((q_fieldEl rfl rfl (by exact fun w hw => rd_own hw (by exact .tail _ (.tail _ (.head _)))) (by intro hc; omega))) ?_
                refine qr rfl rfl rfl ((q_loadF rfl rfl rfl (by exact fun w hw => rd_own hw (by exact .tail _ (.tail _ (.head _)))) (by intro hc; omega) rfl)) ?_
                refine qr rfl rfl rfl ((q_neq rfl rfl rfl)) (qr rfl rfl rfl ((q_move rfl rfl)) (qr rfl rfl rfl ((q_move rfl rfl)) (qr rfl rfl rfl ((q_move rfl rfl)) ?_)))
                refine qr rfl rfl rfl ((q_indexN rfl rfl rfl (by exact fun w hw => rd_own hw (by exact .tail _ (.head _))) (by intro hc; omega))) ?_
                refine qr rfl rfl rfl ((q_fieldEl rfl rfl (by exact fun w hw => rd_own hw (by exact .tail _ (.head _))) (by intro hc; omega))) ?_
                refine qr rfl rfl rfl ((q_loadF rfl rfl rfl (by exact fun w hw => rd_own hw (by exact .tail _ (.head _))) (by intro hc; omega) rfl)) ?_
                refine qr rfl rfl rfl ((q_move rfl rfl)) (qr rfl rfl rfl ((q_move rfl rfl)) ?_)
                refine qr rfl rfl rfl ((q_indexN rfl rfl rfl (by exact fun w hw => rd_own hw (by exact .tail _ (.tail _ (.head _)))) (by intro hc; omega))) ?_
                refine qr rfl rfl rfl ((q_fieldEl rfl rfl (by exact fun w hw => rd_own hw (by exact .tail _ (.tail _ (.head _)))) (by intro hc; omega))) ?_
                refine qr rfl rfl rfl ((q_loadF rfl rfl rfl (by exact fun w hw => rd_own hw (by exact .tail _ (.tail _ (.head _)))) (by intro hc; omega) rfl)) ?_
                refine qw_step rfl rfl rfl (q_call (CanCall.mk Tryz.call23) rfl (.cons rfl inferInstance (.cons rfl inferInstance (.nil))) (fun _ w hw => callq hw (same_true (nth outs i).us.v (nth O i).us.v (nth outs i).ul (nth O i).ul eu w (stb_own (e := 3) hw (.tail _ (.tail _ (.tail _ (List.mem_append_left _ (List.mem_map_of_mem (f := sqA) (nth_mem hi'))))))) (stb_own (e := 3) hw (.tail _ (.tail _ (.tail _ (List.mem_append_right _ (List.mem_map_of_mem (f := rowG) (hmem _ (nth_mem (show i < O.length by omega)))))))))) )) ?_
                refine qr rfl rfl rfl ((q_not rfl rfl)) (qr rfl rfl rfl ((q_or2 rfl rfl rfl)) (qw_end (post_then ?_)))
                refine cw_cond rfl (fun h10 => ?_) (fun h10 => ?_)
                · skip
                  exfalso
                  simp [ec] at h10
                · skip
                  refine cw_skip (post_blk (post_then (cw_region (sr rfl rfl rfl ((q_move rfl rfl)) ?_))))
                  refine sr rfl rfl rfl ((q_add rfl rfl rfl (by intro hc; omega))) ?_
                  refine sr rfl rfl rfl ((q_assign rfl rfl)) (sw_nil ?_)
                  exact post_next (i + 1) (by exact .cons rfl (.cons rfl (.cons rfl (.cons rfl (.cons rfl (.cons rfl (.cons rfl .nil))))))) (fun _ h => h) (by omega) (by omega)
              · skip
                refine cw_exit (post_then_x (post_then_x (post_blk_eq (post_then (cw_seq (cw_region (sr rfl rfl rfl ((q_move rfl rfl)) (sr rfl rfl rfl ((q_move rfl rfl)) ?_))))))))
                refine sr rfl rfl rfl ((q_loadA rfl rfl (by exact .head _) rfl)) ?_
                refine sw_x rfl rfl rfl (e_call (CanCall.mk Tryz.call19) rfl (.cons rfl inferInstance (.cons rfl inferInstance (.cons rfl inferInstance (.nil)))) (fun w hw => choose_yes sp tp p tgt x w (hvr.arg hw) (stb_arg hw htp) hta hE hP hbig)) (fun c => ?_)
                refine sw_imp fun hc => ?_
                obtain ⟨⟨s1, s2⟩, ⟨cells, q⟩⟩ := c
                dsimp only at hc ⊢
                obtain ⟨hT, hb1, hb2, hb3⟩ := hc
                obtain ⟨r, hr⟩ := Tsk.allS_first hall hb1 hb2 hb3
                have hk0 : keyS (nth O 0) = (q.ul, q.cost) := by
                  rw [← keyS_nth hO0, hr]; rfl
                have ec : q.cost = (nth O 0).cost := (congrArg Prod.snd hk0).symm
                have eu : q.ul = (nth O 0).ul := (congrArg Prod.fst hk0).symm
                refine sr rfl rfl rfl ((q_move rfl rfl)) (sr rfl rfl rfl ((q_extract rfl rfl rfl)) (sr rfl rfl rfl ((q_extract rfl rfl rfl)) (sr rfl rfl rfl ((q_extract rfl rfl rfl)) ?_)))
                refine sw_x rfl rfl rfl (e_alloc rfl) (fun b14 => ?_)
                refine sw_eff0 rfl rfl (e_store (i := 0) rfl rfl rfl rfl rfl rfl rfl rfl) (sr rfl rfl rfl ((q_assign rfl rfl)) (sr rfl rfl rfl ((q_assign rfl rfl)) (sw_nil (post_then (cw_seq (cw_c (C' := Cl w [] (blk b14 (enc q) 30 :: ownL 28 s1.v (rowsTo s2 p.length tgt.length tgt.length) :: ownL 3 s2.v cells :: ownL 3 q.us.v q.ul :: blk b6 (enc x) 25 :: ownL 30 so.v outs :: ownL 30 sa.v O :: (outs.map sqA ++ L.map rowG))) (fun w' h => h) ?_))))))
                refine cw_region_q mixed_Tryz (by kernel_rfl) ?_
                refine qr rfl rfl rfl ((q_move rfl rfl)) (qr rfl rfl rfl ((q_eql rfl rfl rfl)) (qr rfl rfl rfl ((q_move rfl rfl)) (qr rfl rfl rfl ((q_fieldAddr rfl rfl)) ?_)))
                refine qr rfl rfl rfl ((q_loadC rfl rfl (by exact .head _) rfl)) ?_
                refine qr rfl rfl rfl ((q_move rfl rfl)) ?_
                refine qr rfl rfl rfl ((q_indexN rfl rfl rfl (by exact fun w hw => rd_own hw (by exact .tail _ (.tail _ (.tail _ (.tail _ (.tail _ (.tail _ (.head _)))))))) (by intro hc; omega))) ?_
                refine qr rfl rfl rfl ((q_fieldEl rfl rfl (by exact fun w hw => rd_own hw (by exact .tail _ (.tail _ (.tail _ (.tail _ (.tail _ (.tail _ (.head _)))))))) (by intro hc; omega))) ?_
                refine qr rfl rfl rfl ((q_loadF rfl rfl rfl (by exact fun w hw => rd_own hw (by exact .tail _ (.tail _ (.tail _ (.tail _ (.tail _ (.tail _ (.head _)))))))) (by intro hc; omega) rfl)) ?_
                refine qr rfl rfl rfl ((q_eql rfl rfl rfl)) (qr rfl rfl rfl ((q_and2 rfl rfl rfl)) (qr rfl rfl rfl ((q_move rfl rfl)) (qr rfl rfl rfl ((q_fieldAddr rfl rfl)) ?_)))
                refine qr rfl rfl rfl ((q_loadC rfl rfl (by exact .head _) rfl)) ?_
                refine qr rfl rfl rfl ((q_move rfl rfl)) ?_
                refine qr rfl rfl rfl ((q_indexN rfl rfl rfl (by exact fun w hw => rd_own hw (by exact .tail _ (.tail _ (.tail _ (.tail _ (.tail _ (.tail _ (.head _)))))))) (by intro hc; omega))) ?_
                refine qr rfl rfl rfl ((q_fieldEl rfl rfl (by exact fun w hw => rd_own hw (by exact .tail _ (.tail _ (.tail _ (.tail _ (.tail _ (.tail _ (.head _)))))))) (by intro hc; omega))) ?_
                refine qr rfl rfl rfl ((q_loadF rfl rfl rfl (by exact fun w hw => rd_own hw (by exact .tail _ (.tail _ (.tail _ (.tail _ (.tail _ (.tail _ (.head _)))))))) (by intro hc; omega) rfl)) ?_
                refine qw_step rfl rfl rfl (q_call (CanCall.mk Tryz.call23) rfl (.cons rfl inferInstance (.cons rfl inferInstance (.nil))) (fun _ w hw => callq hw (same_true q.us.v (nth O 0).us.v q.ul (nth O 0).ul eu w (stb_own (e := 3) hw (by exact .tail _ (.tail _ (.tail _ (.head _))))) (stb_own (e := 3) hw (.tail _ (.tail _ (.tail _ (.tail _ (.tail _ (.tail _ (.tail _ (List.mem_append_right _ (List.mem_map_of_mem (f := rowG) (hmem _ (nth_mem hO0))))))))))))))) ?_
                refine qr rfl rfl rfl ((q_and2 rfl rfl rfl)) (qr rfl rfl rfl ((q_move rfl rfl)) (qw_step rfl rfl rfl (q_call (CanCall.mk Tryz.call18) rfl (.nil) (fun _ w hw => callq hw (known_spec w))) (qr rfl rfl rfl ((q_and2 rfl rfl rfl)) (qr rfl rfl rfl ((q_assign rfl rfl)) (qw_end (post_then (cw_ret (post_ret1 rfl (resOk_tmp rfl) ?_))))))))
                exact fun w' hw => ⟨by simp [ec], cl_drop (F := []) hw⟩
    · skip
      refine sw_x rfl rfl rfl (e_call (vf := fun _ : Unit => .tuple #[SlV.v ⟨none, 0, 0⟩, .int .i64 (bestE p tgt x n)]) (CanCall.mk Tryz.call26) rfl (.cons rfl inferInstance (.cons rfl inferInstance (.cons rfl inferInstance (.cons rfl inferInstance (.nil))))) (fun w hw => best_fail sp tp p tgt x n w (hvr.arg hw) (stb_arg hw htp) hta hB)) (fun u => ?_)
      refine sw_imp fun _ => (sr rfl rfl rfl ((q_move rfl rfl)) (sr rfl rfl rfl ((q_extract rfl rfl rfl)) (sr rfl rfl rfl ((q_extract rfl rfl rfl)) (sr rfl rfl rfl ((q_assign rfl rfl)) (sr rfl rfl rfl ((q_assign rfl rfl)) (sw_nil (post_then (cw_seq (cw_region (sr rfl rfl rfl ((q_move rfl rfl)) (sr rfl rfl rfl ((q_move rfl rfl)) ?_)))))))))))
      refine sr rfl rfl rfl ((q_loadA rfl rfl (by exact .head _) rfl)) ?_
      refine sw_step rfl rfl rfl (q_call (CanCall.mk Tryz.call20) rfl (.cons rfl inferInstance (.cons rfl inferInstance (.cons rfl inferInstance (.nil)))) (fun _ w hw => callq hw (wrong_spec sp tp p tgt x w (hvr.arg hw) (stb_arg hw htp) hta))) (sr rfl rfl rfl ((q_assign rfl rfl)) (sw_nil (post_then (cw_seq (cw_seq (cw_region (sr rfl rfl rfl ((q_move rfl rfl)) (sr rfl rfl rfl ((q_eql rfl rfl rfl)) (sr rfl rfl rfl ((q_move rfl rfl)) (sr rfl rfl rfl ((q_move rfl rfl)) (sr rfl rfl rfl ((q_lss rfl rfl rfl)) (sr rfl rfl rfl ((q_move rfl rfl)) (sr rfl rfl rfl ((q_move rfl rfl)) (sr rfl rfl rfl ((q_gtr rfl rfl rfl)) (sr rfl rfl rfl ((q_or2 rfl rfl rfl)) (sr rfl rfl rfl ((q_and2 rfl rfl rfl)) (sw_nil (post_then ?_))))))))))))))))))
      refine cw_cond rfl (fun h5 => ?_) (fun h5 => ?_)
      · skip
        have hE : beginE p tgt x = 0 := by
          simp only [Bool.and_eq_true, decide_eq_true_eq] at h5
          exact h5.1
        have e2 : bestE p tgt x n = 2 := by
          rw [bestE_at hE, if_pos]
          simp [hE] at h5
          simp [inB]
          omega
        refine cw_region (sr rfl rfl rfl ((q_assign rfl rfl)) (sw_nil (post_then (cw_seq (cw_seq (cw_region (sr rfl rfl rfl ((q_move rfl rfl)) (sr rfl rfl rfl ((q_neq rfl rfl rfl)) (sw_nil (post_then ?_))))))))))
        refine cw_cond rfl (fun h6 => ?_) (fun h6 => ?_)
        · skip
          refine cw_seq (cw_region (sr rfl rfl rfl ((q_move rfl rfl)) (sr rfl rfl rfl ((q_move rfl rfl)) (sr rfl rfl rfl ((q_eql rfl rfl rfl)) (sr rfl rfl rfl ((q_move rfl rfl)) (sr rfl rfl rfl ((q_move rfl rfl)) (sr rfl rfl rfl ((q_lenV rfl (.cons rfl inferInstance (.nil)))) (sr rfl rfl rfl ((q_eql rfl rfl rfl)) (sr rfl rfl rfl ((q_and2 rfl rfl rfl)) (sr rfl rfl rfl ((q_move rfl rfl)) (sw_step rfl rfl rfl (q_call (CanCall.mk Tryz.call18) rfl (.nil) (fun _ w hw => callq hw (known_spec w))) (sr rfl rfl rfl ((q_and2 rfl rfl rfl)) (sr rfl rfl rfl ((q_assign rfl rfl)) (sw_nil (post_then (cw_ret (post_then_r (post_ret1 rfl (resOk_tmp rfl) ?_))))))))))))))))))
          exact fun w' hw => ⟨by simp [e2], (fun w h => Cl.sel (by exact .nil _) w h) _ hw⟩
        · skip
          simp at h6
      · skip
        refine cw_skip (post_then (cw_seq (cw_seq (cw_region (sr rfl rfl rfl ((q_move rfl rfl)) (sr rfl rfl rfl ((q_neq rfl rfl rfl)) (sw_nil (post_then ?_))))))))
        refine cw_cond rfl (fun h6 => ?_) (fun h6 => ?_)
        · skip
          have hE : beginE p tgt x ≠ 0 := by simpa using h6
          refine cw_seq (cw_region (sr rfl rfl rfl ((q_move rfl rfl)) (sr rfl rfl rfl ((q_move rfl rfl)) (sr rfl rfl rfl ((q_eql rfl rfl rfl)) (sr rfl rfl rfl ((q_move rfl rfl)) (sr rfl rfl rfl ((q_move rfl rfl)) (sr rfl rfl rfl ((q_lenV rfl (.cons rfl inferInstance (.nil)))) (sr rfl rfl rfl ((q_eql rfl rfl rfl)) (sr rfl rfl rfl ((q_and2 rfl rfl rfl)) (sr rfl rfl rfl ((q_move rfl rfl)) (sw_step rfl rfl rfl (q_call (CanCall.mk Tryz.call18) rfl (.nil) (fun _ w hw => callq hw (known_spec w))) (sr rfl rfl rfl ((q_and2 rfl rfl rfl)) (sr rfl rfl rfl ((q_assign rfl rfl)) (sw_nil (post_then (cw_ret (post_then_r (post_ret1 rfl (resOk_tmp rfl) ?_))))))))))))))))))
          exact fun w' hw => ⟨by simp [begin_best hE], (fun w h => Cl.sel (by exact .nil _) w h) _ hw⟩
        · skip
          have hE : beginE p tgt x = 0 := by simpa using h6
          have hfew : fewB p tgt 200 = true := by
            rcases hf with hf | hf
            · exact absurd hE hf
            · exact hf
          have hn : inB n 1 50 = true := by
            simp [hE] at h5
            simp [inB]
            omega
          have hP : possP p tgt = false := by
            rw [bestE_at hE, hn] at hB
            simpa using hB
          have e5 : bestE p tgt x n = 5 := by rw [bestE_at hE, hn, hP]; rfl
          refine cw_skip (post_then (cw_seq (cw_region (sr rfl rfl rfl ((q_move rfl rfl)) (sr rfl rfl rfl ((q_move rfl rfl)) ?_)))))
          refine sr rfl rfl rfl ((q_loadA rfl rfl (by exact .head _) rfl)) ?_
          refine sw_x rfl rfl rfl (e_call (CanCall.mk Tryz.call27) rfl (.cons rfl inferInstance (.cons rfl inferInstance (.cons rfl inferInstance (.nil)))) (fun w hw => refSeqs_spec sp tp p tgt x w (hvr.arg hw) (stb_arg hw htp) hE hfew)) (fun z => ?_)
          refine sw_imp fun hz => ?_
          obtain ⟨sa, ⟨O, L⟩⟩ := z
          dsimp only at hz ⊢
          have hO : O = [] := by
            have := hz.1.2.length_eq
            have h0 : (tsk p tgt x).tl (tsk p tgt x).T = [] := poss_nil hP
            rw [h0] at this
            simp only [List.map_nil, List.length_nil, List.length_map] at this
            exact List.eq_nil_of_length_eq_zero this
          subst hO
          refine sw_le (C' := Cl w [] (ownL 30 sa.v ([] : List Sq) :: L.map rowG)) (fun w' h => cl_drop (F := ownL 30 sa.v ([] : List Sq) :: L.map rowG) h) (sr rfl rfl rfl ((q_assign rfl rfl)) (sw_nil (post_then (cw_seq (cw_seq (cw_region (sr rfl rfl rfl ((q_move rfl rfl)) ?_)))))))
          refine sr rfl rfl rfl ((q_len rfl (.cons rfl inferInstance (.nil)) (by exact fun w hw => rd_own hw (by exact .head _)))) ?_
          refine sr rfl rfl rfl ((q_eql rfl rfl rfl)) (sw_nil (post_then ?_))
          refine cw_cond rfl (fun h7 => ?_) (fun h7 => ?_)
          · skip
            refine cw_seq (cw_region (sr rfl rfl rfl ((q_move rfl rfl)) (sr rfl rfl rfl ((q_eql rfl rfl rfl)) (sr rfl rfl rfl ((q_move rfl rfl)) (sr rfl rfl rfl ((q_move rfl rfl)) (sr rfl rfl rfl ((q_lenV rfl (.cons rfl inferInstance (.nil)))) (sr rfl rfl rfl ((q_eql rfl rfl rfl)) (sr rfl rfl rfl ((q_and2 rfl rfl rfl)) (sr rfl rfl rfl ((q_move rfl rfl)) (sw_step rfl rfl rfl (q_call (CanCall.mk Tryz.call18) rfl (.nil) (fun _ w hw => callq hw (known_spec w))) (sr rfl rfl rfl ((q_and2 rfl rfl rfl)) (sr rfl rfl rfl ((q_assign rfl rfl)) (sw_nil (post_then (cw_ret (post_then_r (post_ret1 rfl (resOk_tmp rfl) ?_)))))))))))))))))
            exact fun w' hw => ⟨by simp [e5], cl_drop (F := []) hw⟩
          · skip
            simp at h7
end Go.Proofs.YtomjbfeafodfbaaGreat

set_option autoImplicit false
set_option maxRecDepth 100000
namespace Go.Proofs.YtomjbfeafodfbaaGreat
open Go.Sx
open Enc (enc val)
def rowR (p : List Un) (tgt : List Wan) (x : Wts) (i k : Nat) : List Int := (List.range p.length).map fun u => if u < k ∧ (u : Int) ∈ idxs p p.length (nth tgt i).phone then (tsk p tgt x).R (tgt.length - i) u else 0
theorem rowR_len (p : List Un) (tgt : List Wan) (x : Wts) (i k : Nat) : (rowR p tgt x i k).length = p.length := by simp [rowR]
theorem rowR_nth {p : List Un} {tgt : List Wan} {x : Wts} {i k u : Nat} (h : u < p.length) : nth (rowR p tgt x i k) u = if u < k ∧ (u : Int) ∈ idxs p p.length (nth tgt i).phone then (tsk p tgt x).R (tgt.length - i) u else 0 := by
  rw [nth_get (by rw [rowR_len]; exact h)]; simp [rowR]
theorem rowR_out {p : List Un} {tgt : List Wan} {x : Wts} {i k u : Nat} (h : ¬ u < p.length) : nth (rowR p tgt x i k) u = 0 := by
  simp only [nth, List.getD]; rw [List.getElem?_eq_none (by rw [rowR_len]; omega)]; rfl
theorem rowR_skip {p : List Un} {tgt : List Wan} {x : Wts} {i k : Nat} (h : ¬ (nth p k).phone = (nth tgt i).phone) : rowR p tgt x i (k + 1) = rowR p tgt x i k := by
  apply List.ext_getElem
  · simp [rowR]
  · intro u h1 h2
    simp only [rowR, List.getElem_map, List.getElem_range]
    by_cases e : u = k
    · subst e
      have : ¬ ((u : Int) ∈ idxs p p.length (nth tgt i).phone) := fun hm => h (by have := (TK.idx_mem.1 hm).2.2; simpa using this)
      simp [this]
    · have : (u < k + 1) ↔ (u < k) := by omega
      simp only [this]
theorem rowR_take {p : List Un} {tgt : List Wan} {x : Wts} {i k : Nat} (hk : k < p.length) (h : (nth p k).phone = (nth tgt i).phone) : (rowR p tgt x i k).set k ((tsk p tgt x).R (tgt.length - i) k) = rowR p tgt x i (k + 1) := by
  apply List.ext_getElem
  · simp [rowR]
  · intro u h1 h2
    rw [List.getElem_set]
    simp only [rowR, List.getElem_map, List.getElem_range]
    by_cases e : k = u
    · subst e
      have : (k : Int) ∈ idxs p p.length (nth tgt i).phone := TK.idx_mem.2 ⟨by omega, by omega, by simpa using h⟩
      simp [this]
    · rw [if_neg e]
      have : (u < k + 1) ↔ (u < k) := by omega
      simp only [this]
theorem rowR_zero (p : List Un) (tgt : List Wan) (x : Wts) (i : Nat) : List.replicate p.length (0 : Int) = rowR p tgt x i 0 := by
  apply List.ext_getElem
  · simp [rowR]
  · intro u h1 h2; simp [rowR]
theorem tsk_bd {p : List Un} {tgt : List Wan} {x : Wts} (hE : beginE p tgt x = 0) : (∀ i, i < tgt.length → ∀ u : Nat, u < p.length → 0 ≤ (tsk p tgt x).F i u ∧ (tsk p tgt x).F i u ≤ 102002000) ∧ ∀ u v : Nat, u < p.length → v < p.length → 0 ≤ (tsk p tgt x).J u v ∧ (tsk p tgt x).J u v ≤ 800000000 := by
  obtain ⟨h1, h2, hv1, hv2, hv3⟩ := beginE_ok hE
  refine ⟨fun i hi u hu => ?_, fun u v hu hv => ?_⟩
  · have ht := wa_ok (List.all_eq_true.1 hv2 _ (nth_mem hi))
    have := fitC_bd (wt_ok hv3) (vo_ok hv1 (nth_mem hu)) ht
    simpa [tsk] using this
  · have := joinC_bd (wt_ok hv3) (vo_ok hv1 (nth_mem hu)) (vo_ok hv1 (nth_mem hv))
    simpa [tsk] using this
/-- The rest from a target on: no sum is as great as the greatest int. -/
theorem tsk_R {p : List Un} {tgt : List Wan} {x : Wts} (hE : beginE p tgt x = 0) : ∀ (k i : Nat), i + k = tgt.length → 1 ≤ k → (∀ j, i < j → j < tgt.length → idxs p p.length (nth tgt j).phone ≠ []) → ∀ u : Nat, u < p.length → 0 ≤ (tsk p tgt x).R k u ∧ (tsk p tgt x).R k u ≤ 902002000 * k
  | 0, _, _, h, _, _, _ => by omega
  | k + 1, i, hik, _, hne, u, hu => by
    have hb := tsk_bd hE
    have hF := hb.1 i (by omega) u hu
    have eT : (tsk p tgt x).T = tgt.length := rfl
    rw [Tsk.R, eT, show tgt.length - (k + 1) = i by omega]
    by_cases h0 : k = 0
    · subst h0; rw [if_pos rfl]; omega
    · rw [if_neg h0, show tgt.length - k = i + 1 by omega]
      have hmem : ∀ v ∈ (tsk p tgt x).us (i + 1), ∃ m : Nat, v = m ∧ m < p.length := fun v hv => by
        have := TK.idx_mem.1 hv
        exact ⟨v.toNat, by omega, by omega⟩
      have hs : ∀ y ∈ ((tsk p tgt x).us (i + 1)).map (fun v => (tsk p tgt x).J u v + (tsk p tgt x).R k v), 0 ≤ y ∧ y ≤ 800000000 + 902002000 * k := fun y hy => by
        obtain ⟨v, hv, rfl⟩ := List.mem_map.1 hy
        obtain ⟨m, rfl, hm⟩ := hmem v hv
        have h1 := hb.2 u m hu hm
        have h2 := tsk_R hE k (i + 1) (by omega) (by omega) (fun j a b => hne j (by omega) b) m hm
        omega
      have hkT : tgt.length ≤ 500 := (beginE_ok hE).2.1
      have hm := minL_mem (l := ((tsk p tgt x).us (i + 1)).map fun v => (tsk p tgt x).J u v + (tsk p tgt x).R k v) (fun e => hne (i + 1) (by omega) (by omega) (List.map_eq_nil_iff.1 e)) (fun y hy => by have := hs y hy; omega)
      have := hs _ hm
      omega
theorem R_step {p : List Un} {tgt : List Wan} {x : Wts} {i : Nat} (hi : i < tgt.length) (u : Int) : (tsk p tgt x).R (tgt.length - i) u = fitC x (nth p u.toNat) (nth tgt i) + (if i + 1 = tgt.length then 0 else minL ((idxs p p.length (nth tgt (i + 1)).phone).map fun v => (tsk p tgt x).J u v + (tsk p tgt x).R (tgt.length - (i + 1)) v)) := by
  obtain ⟨k, hk⟩ : ∃ k, tgt.length - i = k + 1 := ⟨tgt.length - i - 1, by omega⟩
  rw [hk, Tsk.R]
  have eT : (tsk p tgt x).T = tgt.length := rfl
  rw [eT, show tgt.length - (k + 1) = i by omega, show tgt.length - (i + 1) = k by omega]
  by_cases h0 : k = 0
  · rw [if_pos h0, if_pos (by omega)]; rfl
  · rw [if_neg h0, if_neg (by omega), show tgt.length - k = i + 1 by omega]; rfl
/-- What the reference's least sum is for a row of the certificate. -/
theorem lst_row {p : List Un} {tgt : List Wan} {x : Wts} (hE : beginE p tgt x = 0) {i : Nat} (hi : i + 1 < tgt.length) (hne : ∀ j, i < j → j < tgt.length → idxs p p.length (nth tgt j).phone ≠ []) {u : Nat} (hu : u < p.length) :
    mn ((idxs p p.length (nth tgt (i + 1)).phone).map (lsum x p (rowR p tgt x (i + 1) p.length) u)) = minL ((idxs p p.length (nth tgt (i + 1)).phone).map fun v => (tsk p tgt x).J u v + (tsk p tgt x).R (tgt.length - (i + 1)) v) := by
  have he : (idxs p p.length (nth tgt (i + 1)).phone).map (lsum x p (rowR p tgt x (i + 1) p.length) u) = (idxs p p.length (nth tgt (i + 1)).phone).map fun v => (tsk p tgt x).J u v + (tsk p tgt x).R (tgt.length - (i + 1)) v := by
    apply List.map_congr_left
    intro v hv
    have hm := TK.idx_mem.1 hv
    have e : (v.toNat : Int) = v := by omega
    rw [lsum, rowR_nth (by omega), if_pos ⟨by omega, by rw [e]; exact hv⟩, jz, if_pos (by omega), e]
    have : (tsk p tgt x).J u v = joinC x (nth p ((u : Nat) : Int).toNat) (nth p v.toNat) := rfl
    rw [this]; omega
  rw [he, minL_mn]
  · simpa using hne (i + 1) (by omega) hi
  · intro y hy
    obtain ⟨v, hv, rfl⟩ := List.mem_map.1 hy
    have hm := TK.idx_mem.1 hv
    have e : (v.toNat : Int) = v := by omega
    have h1 := (tsk_bd hE).2 u v.toNat hu (by omega)
    have h2 := tsk_R hE (tgt.length - (i + 1)) (i + 1) (by omega) (by omega) (fun j a b => hne j (by omega) b) v.toNat (by omega)
    rw [e] at h1 h2
    have hkT : tgt.length ≤ 500 := (beginE_ok hE).2.1
    omega
structure CX where
  G : List (SlV × List Int)
theorem perm_r2 {α : Type} {R O B : α} {T : List α} : (R :: B :: O :: T).Perm (B :: O :: R :: T) := (List.Perm.swap B R _).trans (.cons B (.swap O R T))
theorem poss_no {p : List Un} {tgt : List Wan} {i : Nat} (hi : i < tgt.length) (h : idxs p p.length (nth tgt i).phone = []) : possP p tgt = false := List.all_eq_false.2 ⟨i, by simpa using hi, by simp [h]⟩
theorem poss_yes {p : List Un} {tgt : List Wan} : possP p tgt = true ↔ ∀ j, j < tgt.length → idxs p p.length (nth tgt j).phone ≠ [] := by simp [possP]
set_option maxHeartbeats 1000000 in
theorem refCert_spec (sp tp : SlV) (p : List Un) (tgt : List Wan) (x : Wts) (w : World) (hvo : VoRd w sp p) (htp : Stb w [] (RdL tp.v tgt)) (hE : beginE p tgt x = 0) :
    Calls Tryz.prog 21 #[sp.v, tp.v, val x] w fun e w' => ∃ y : SlV × List (SlV × List Int), e = .returned (.tuple #[y.1.v, .bool (possP p tgt)]) ∧ (possP p tgt = true → y.2.map Prod.snd = (List.range tgt.length).map fun i => rowR p tgt x i p.length) ∧ Cl w [] (if possP p tgt = true then ownL 28 y.1.v (y.2.map Prod.fst) :: y.2.map rowG else []) w' := by
  have hvl := hvo.l
  have hL := rd_len hvl.here
  obtain ⟨m1, m2, hv1, hv2, hv3⟩ := beginE_ok hE
  refine calls_cw (vs := [_, _, _]) Tryz.func21 rfl Tryz.ntmps21 rfl (Cl.start0 w) (cw_seq (cw_region ?_))
  refine sw_x rfl rfl rfl (e_box rfl rfl rfl) (fun b5 => ?_)
  refine sr rfl rfl rfl ((q_assign rfl rfl)) (sr rfl rfl rfl ((q_assign rfl rfl)) (sw_nil (post_then (cw_seq (cw_region (sr rfl rfl rfl ((q_move rfl rfl)) ?_))))))
  refine sr rfl rfl rfl ((q_len rfl (.cons rfl inferInstance (.nil)) (by exact fun w hw => Stb.cl (by assumption) hw))) ?_
  refine sw_x rfl rfl rfl (e_make (α := SlV) (zero := ⟨none, 0, 0⟩) rfl rfl rfl rfl rfl (by omega) (by omega) (by decide)) (fun s14 => ?_)
  rw [Int.toNat_natCast]
  refine sr rfl rfl rfl ((q_assign rfl rfl)) (sw_nil (post_then (cw_seq (cw_seq (cw_region (sr rfl rfl rfl ((q_move rfl rfl)) ?_))))))
  refine sr rfl rfl rfl ((q_len rfl (.cons rfl inferInstance (.nil)) (by exact fun w hw => Stb.cl (by assumption) hw))) ?_
  refine sr rfl rfl rfl ((q_sub rfl rfl rfl (by intro hc; omega))) ?_
  refine sr rfl rfl rfl ((q_assign rfl rfl)) (sw_nil (post_then (cw_block ?_)))
  refine cw_loop (S := CX) (fun y => [(0, [], sp.v), (1, [], tp.v), (5, [], .pointer (some ⟨b5, 0, none⟩)), (8, [], s14.v), (9, [], .int .i64 ((tgt.length : Int) - y.G.length - 1))]) (fun y => Cl w [] (ownL 28 s14.v (endsL tgt.length y.G) :: blk b5 (enc x) 25 :: y.G.map rowG)) (fun y => y.G.length ≤ tgt.length ∧ (∀ j, j < y.G.length → (nth y.G j).2 = rowR p tgt x (tgt.length - y.G.length + j) p.length) ∧ ∀ j, tgt.length - y.G.length ≤ j → j < tgt.length → idxs p p.length (nth tgt j).phone ≠ []) (fun y => tgt.length - y.G.length) ⟨[]⟩ ⟨Nat.zero_le _, fun j hj => by simp at hj, fun j a b => by simp at a; omega⟩ ?_ ?_ ?_
  · exact Le.cons rfl (Le.cons rfl (Le.cons rfl (Le.cons rfl (Le.cons' rfl (by first | rfl | (congr 1; simp)) Le.nil))))
  · intro w' hw
    have e0 : endsL tgt.length [] = List.replicate tgt.length ⟨none, 0, 0⟩ := by simp [endsL]
    simp only [List.map_nil, e0]
    exact hw
  rintro ⟨G⟩ ⟨hG, hrows, hne⟩
  dsimp only at hG hrows hne ⊢
  refine cw_seq (cw_seq (cw_region (sr rfl rfl rfl ((q_move rfl rfl)) (sr rfl rfl rfl ((q_geq rfl rfl rfl)) (sw_nil (post_then ?_))))))
  refine cw_cond rfl (fun h => ?_) (fun h => ?_)
  · skip
    have hG' : G.length < tgt.length := by simp only [decide_eq_true_eq] at h; omega
    obtain ⟨i, hie⟩ : ∃ i, tgt.length - G.length - 1 = i := ⟨_, rfl⟩
    have ei : ((tgt.length : Int) - G.length - 1) = (i : Int) := by omega
    have hi : i < tgt.length := by omega
    rw [ei]
    have hel := endsL_len (m := tgt.length) (G := G) (by omega)
    have ho := wa_ok (List.all_eq_true.1 hv2 _ (nth_mem hi))
    refine cw_skip (post_then (cw_seq (cw_block (cw_seq (cw_region (sr rfl rfl rfl ((q_move rfl rfl)) (sr rfl rfl rfl ((q_move rfl rfl)) (sr rfl rfl rfl ((q_move rfl rfl)) ?_))))))))
    refine sr rfl rfl rfl ((q_len rfl (.cons rfl inferInstance (.nil)) (by exact fun w hw => Stb.cl (by assumption) hw))) ?_
    refine sw_x rfl rfl rfl (e_make (α := Int) (zero := 0) rfl rfl rfl rfl rfl (by omega) (by omega) (by decide)) (fun s26 => ?_)
    rw [Int.toNat_natCast, rowR_zero p tgt x i]
    refine sr rfl rfl rfl ((q_indexN rfl rfl rfl (by exact fun w hw => rd_own hw (by exact .tail _ (.head _))) (by intro hc; omega))) ?_
    refine sw_eff0 rfl rfl (e_storeEl1 (i := 1) rfl rfl rfl rfl rfl (by omega)) ?_
    refine sw_nil (post_then (cw_seq (cw_region (sr rfl rfl rfl ((q_assign rfl rfl)) (sw_nil (post_then (cw_seq (cw_seq (cw_region (sr rfl rfl rfl ((q_assign rfl rfl)) (sw_nil (post_then (cw_block ?_)))))))))))))
    have hset : (endsL tgt.length G).set i s26 = endsL tgt.length ((s26, rowR p tgt x i p.length) :: G) := by rw [← hie]; exact endsL_set hG' (s26, rowR p tgt x i p.length)
    have hel2 : ((endsL tgt.length G).set i s26).length = tgt.length := by rw [List.length_set, hel]
    have hrow : nth ((endsL tgt.length G).set i s26) i = s26 := by rw [nth_setP _ _ _ _ (by omega), if_pos rfl]
    generalize hcv : (endsL tgt.length G).set i s26 = cv at hset hel2 hrow ⊢
    refine cw_loop (S := Nat) (fun u => [(0, [], sp.v), (1, [], tp.v), (5, [], .pointer (some ⟨b5, 0, none⟩)), (8, [], s14.v), (9, [], .int .i64 i), (10, [], .bool (!(idxs p u (nth tgt i).phone).isEmpty)), (11, [], .int .i64 u)]) (fun u => Cl w [] (ownL 3 s26.v (rowR p tgt x i u) :: ownL 28 s14.v cv :: blk b5 (enc x) 25 :: G.map rowG)) (fun u => u ≤ p.length) (fun u => p.length - u) 0 (Nat.zero_le _) (by exact .cons rfl (.cons rfl (.cons rfl (.cons rfl (.cons rfl (.cons rfl (.cons rfl .nil))))))) (fun _ h => h) ?_
    intro u hu
    have hss := idxs_succ p u (nth tgt i).phone
    have hrl := rowR_len p tgt x i u
    refine cw_seq (cw_seq (cw_region (sr rfl rfl rfl ((q_move rfl rfl)) (sr rfl rfl rfl ((q_move rfl rfl)) ?_))))
    refine sr rfl rfl rfl ((q_len rfl (.cons rfl inferInstance (.nil)) (by exact fun w hw => Stb.cl (by assumption) hw))) ?_
    refine sr rfl rfl rfl ((q_lss rfl rfl rfl)) (sw_nil (post_then ?_))
    refine cw_cond rfl (fun h2 => ?_) (fun h2 => ?_)
    · skip
      have hu' : u < p.length := by simp only [decide_eq_true_eq] at h2; omega
      refine cw_skip (post_then (cw_seq (cw_block (cw_seq (cw_seq ?_)))))
      refine cw_region_q mixed_Tryz (by kernel_rfl) ?_
      refine qr rfl rfl rfl ((q_move rfl rfl)) (qr rfl rfl rfl ((q_move rfl rfl)) ?_)
      refine qr rfl rfl rfl ((q_indexN rfl rfl rfl (by exact fun w hw => Stb.cl (by assumption) hw) (by intro hc; omega))) ?_
      refine qr rfl rfl rfl ((q_fieldEl rfl rfl (by exact fun w hw => Stb.cl (by assumption) hw) (by intro hc; omega))) ?_
      refine qr rfl rfl rfl ((q_loadF rfl rfl rfl (by exact fun w hw => Stb.cl (by assumption) hw) (by intro hc; omega) rfl)) ?_
      refine qr rfl rfl rfl ((q_move rfl rfl)) (qr rfl rfl rfl ((q_move rfl rfl)) ?_)
      refine qr rfl rfl rfl ((q_indexN rfl rfl rfl (by exact fun w hw => Stb.cl (by assumption) hw) (by intro hc; omega))) ?_
      refine qr rfl rfl rfl ((q_fieldEl rfl rfl (by exact fun w hw => Stb.cl (by assumption) hw) (by intro hc; omega))) ?_
      refine qr rfl rfl rfl ((q_loadF rfl rfl rfl (by exact fun w hw => Stb.cl (by assumption) hw) (by intro hc; omega) rfl)) ?_
      refine qr rfl rfl rfl ((q_neqStr rfl rfl rfl Tryz.underlying9)) (qw_end (post_then ?_))
      refine cw_cond rfl (fun h3 => ?_) (fun h3 => ?_)
      · skip
        have h4 : ¬ (nth p u).phone = (nth tgt i).phone := by simpa using h3
        rw [if_neg h4, List.append_nil] at hss
        refine cw_exit (post_then_x (post_blk_eq (post_then (cw_region (sr rfl rfl rfl ((q_move rfl rfl)) ?_)))))
        refine sr rfl rfl rfl ((q_add rfl rfl rfl (by intro hc; omega))) ?_
        refine sr rfl rfl rfl ((q_assign rfl rfl)) (sw_nil ?_)
        refine post_next (u + 1) ?_ (fun w3 hw3 => ?_) (by omega) (by omega)
        · simp only [hss]
          exact (by exact .cons rfl (.cons rfl (.cons rfl (.cons rfl (.cons rfl (.cons rfl (.cons rfl .nil)))))))
        · rw [rowR_skip h4]; exact hw3
      · skip
        have h4 : (nth p u).phone = (nth tgt i).phone := by simpa using h3
        rw [if_pos h4] at hss
        have hne2 : (idxs p (u + 1) (nth tgt i).phone).isEmpty = false := by rw [hss]; simp
        have hbf := fitC_bd (wt_ok hv3) (vo_ok hv1 (nth_mem hu')) ho
        refine cw_skip (post_then (cw_seq (cw_region (sr rfl rfl rfl ((q_assign rfl rfl)) (sw_nil (post_then (cw_seq (cw_region_a (Cl w [] [ownL 3 s26.v (rowR p tgt x i u), ownL 28 s14.v cv, blk b5 (enc x) 25]) [16] mixed_Tryz ?_))))))))
        refine aw_pure 0 rfl (by kernel_rfl) (by kernel_rfl) (by kernel_rfl) (by kernel_rfl) (by kernel_rfl) rfl rfl rfl (q_move rfl rfl) ?_
        refine aw_pure 1 rfl (by kernel_rfl) (by kernel_rfl) (by kernel_rfl) (by kernel_rfl) (by kernel_rfl) rfl rfl rfl (q_move rfl rfl) ?_
        refine aw_take 2 (fun w h => Cl.sel (by exact .take 0 rfl (.take 0 rfl (.take 0 rfl (.nil _)))) w h) rfl (by kernel_rfl) (by kernel_rfl) (by kernel_rfl) (by kernel_rfl) (by kernel_rfl) (by kernel_rfl) rfl rfl rfl (q_indexN rfl rfl rfl (by exact fun w hw => rd_own hw (by exact .tail _ (.head _))) (by intro hc; omega)) ?_
        refine aw_pure 4 rfl (by kernel_rfl) (by kernel_rfl) (by kernel_rfl) (by kernel_rfl) (by kernel_rfl) rfl rfl rfl (q_move rfl rfl) ?_
        refine aw_pure 5 rfl (by kernel_rfl) (by kernel_rfl) (by kernel_rfl) (by kernel_rfl) (by kernel_rfl) rfl rfl rfl (q_move rfl rfl) ?_
        refine aw_pure 6 rfl (by kernel_rfl) (by kernel_rfl) (by kernel_rfl) (by kernel_rfl) (by kernel_rfl) rfl rfl rfl (q_move rfl rfl) ?_
        refine aw_take 7 (fun w h => Cl.sel (by exact .take 0 rfl (.take 0 rfl (.take 0 rfl (.nil _)))) w h) rfl (by kernel_rfl) (by kernel_rfl) (by kernel_rfl) (by kernel_rfl) (by kernel_rfl) (by kernel_rfl) rfl rfl rfl (q_indexN rfl rfl rfl (by exact fun w hw => Stb.cl (by assumption) hw) (by intro hc; omega)) ?_
        refine aw_take 8 (fun w h => Cl.sel (by exact .take 0 rfl (.take 0 rfl (.take 0 rfl (.nil _)))) w h) rfl (by kernel_rfl) (by kernel_rfl) (by kernel_rfl) (by kernel_rfl) (by kernel_rfl) (by kernel_rfl) rfl rfl rfl (q_loadEl rfl rfl rfl (by exact fun w hw => Stb.cl (by assumption) hw) (by intro hc; omega)) ?_
        refine aw_pure 9 rfl (by kernel_rfl) (by kernel_rfl) (by kernel_rfl) (by kernel_rfl) (by kernel_rfl) rfl rfl rfl (q_move rfl rfl) ?_
        refine aw_pure 10 rfl (by kernel_rfl) (by kernel_rfl) (by kernel_rfl) (by kernel_rfl) (by kernel_rfl) rfl rfl rfl (q_move rfl rfl) ?_
        refine aw_take 11 (fun w h => Cl.sel (by exact .take 0 rfl (.take 0 rfl (.take 0 rfl (.nil _)))) w h) rfl (by kernel_rfl) (by kernel_rfl) (by kernel_rfl) (by kernel_rfl) (by kernel_rfl) (by kernel_rfl) rfl rfl rfl (q_indexN rfl rfl rfl (by exact fun w hw => Stb.cl (by assumption) hw) (by intro hc; omega)) ?_
        refine aw_take 12 (fun w h => Cl.sel (by exact .take 0 rfl (.take 0 rfl (.take 0 rfl (.nil _)))) w h) rfl (by kernel_rfl) (by kernel_rfl) (by kernel_rfl) (by kernel_rfl) (by kernel_rfl) (by kernel_rfl) rfl rfl rfl (q_loadEl rfl rfl rfl (by exact fun w hw => Stb.cl (by assumption) hw) (by intro hc; omega)) ?_
        refine aw_take 13 (fun w h => Cl.sel (by exact .take 0 rfl (.take 0 rfl (.take 0 rfl (.nil _)))) w h) rfl (by kernel_rfl) (by kernel_rfl) (by kernel_rfl) (by kernel_rfl) (by kernel_rfl) (by kernel_rfl) rfl rfl rfl (q_loadA rfl rfl (by exact .tail _ (.tail _ (.head _))) rfl) ?_
        refine aw_take 3 (fun w h => Cl.sel (by exact .take 0 rfl (.take 0 rfl (.take 0 rfl (.nil _)))) w h) rfl (by kernel_rfl) (by kernel_rfl) (by kernel_rfl) (by kernel_rfl) (by kernel_rfl) (by kernel_rfl) rfl rfl rfl (q_loadElY hrow rfl rfl rfl (by exact fun w hw => rd_own hw (by exact .tail _ (.head _))) (by intro hc; omega)) ?_
        refine aw_q 14 (by kernel_rfl) rfl rfl rfl rfl (q_call (CanCall.mk Tryz.call49) rfl (.cons rfl inferInstance (.cons rfl inferInstance (.cons rfl inferInstance (.nil)))) (fun _ w hw => callq hw (refTarget_spec (nth p u) (nth tgt i) x w (vo_ok hv1 (nth_mem hu')) ho (wt_ok hv3)))) (by intro hb; exact (fun w h => Cl.sel (by exact .take 0 rfl (.take 0 rfl (.take 0 rfl (.nil _)))) w h)) ?_
        refine aw_take 15 (fun w h => Cl.sel (by exact .take 0 rfl (.take 0 rfl (.take 0 rfl (.nil _)))) w h) rfl (by kernel_rfl) (by kernel_rfl) (by kernel_rfl) (by kernel_rfl) (by kernel_rfl) (by kernel_rfl) rfl rfl rfl (q_indexN rfl rfl rfl (by exact fun w hw => rd_own hw (by exact .head _)) (by intro hc; omega)) ?_
        refine aw_one0 16 (by kernel_rfl) rfl rfl rfl (e_storeEl1 (i := 0) rfl rfl rfl rfl rfl (by omega)) (by intro hb; (exact absurd hb (by decide))) ?_
        refine aw_end (by kernel_rfl) ?_
        refine post_then (cw_seq (cw_region (sr rfl rfl rfl ((q_move rfl rfl)) ?_)))
        refine sr rfl rfl rfl ((q_add rfl rfl rfl (by intro hc; omega))) ?_
        refine sr rfl rfl rfl ((q_move rfl rfl)) ?_
        refine sr rfl rfl rfl ((q_len rfl (.cons rfl inferInstance (.nil)) (by exact fun w hw => Stb.cl (by assumption) hw))) ?_
        refine sr rfl rfl rfl ((q_lss rfl rfl rfl)) (sw_nil (post_then ?_))
        have hRs := R_step (p := p) (x := x) hi (u : Int)
        rw [Int.toNat_natCast] at hRs
        have hrs2 : ((rowR p tgt x i u).set u (fitC x (nth p u) (nth tgt i))).length = p.length := by rw [List.length_set, hrl]
        have hrn : nth ((rowR p tgt x i u).set u (fitC x (nth p u) (nth tgt i))) u = fitC x (nth p u) (nth tgt i) := by rw [nth_setP _ _ _ _ (by omega), if_pos rfl]
        refine cw_cut (S := Unit) (fun _ => [(0, [], sp.v), (1, [], tp.v), (5, [], .pointer (some ⟨b5, 0, none⟩)), (8, [], s14.v), (9, [], .int .i64 i), (10, [], .bool true), (11, [], .int .i64 u)]) (fun _ => Cl w [] (ownL 3 s26.v (rowR p tgt x i (u + 1)) :: ownL 28 s14.v cv :: blk b5 (enc x) 25 :: G.map rowG)) (fun _ => True) ?_ ?_
        · refine cw_cond rfl (fun h5 => ?_) (fun h5 => ?_)
          · skip
            have hi1 : i + 1 < tgt.length := by simp only [decide_eq_true_eq] at h5; omega
            have hg0 : 0 < G.length := by omega
            have hcn : nth cv (i + 1) = (nth G 0).1 := by
              rw [← hcv, nth_setP _ _ _ _ (by omega), if_neg (by omega)]
              have := endsL_nth (m := tgt.length) (G := G) (by omega) (i := 0) (by omega)
              rw [show tgt.length - G.length + 0 = i + 1 by omega] at this
              exact this
            have hg2 : (nth G 0).2 = rowR p tgt x (i + 1) p.length := by
              have := hrows 0 hg0
              rwa [show tgt.length - G.length + 0 = i + 1 by omega] at this
            have hgm : ownL 3 (nth cv (i + 1)).v (rowR p tgt x (i + 1) p.length) ∈ G.map rowG := by
              rw [hcn, ← hg2]
              exact List.mem_map_of_mem (f := rowG) (nth_mem hg0)
            have hnej : ∀ j, i < j → j < tgt.length → idxs p p.length (nth tgt j).phone ≠ [] := fun j a b => hne j (by omega) b
            have hbr : ∀ v : Nat, -4611686018427387904 ≤ nth (rowR p tgt x (i + 1) p.length) v ∧ nth (rowR p tgt x (i + 1) p.length) v ≤ 4611686018427387904 := fun v => by
              by_cases hv : v < p.length
              · rw [rowR_nth hv]
                have := tsk_R hE (tgt.length - (i + 1)) (i + 1) (by omega) (by omega) (fun j a b => hnej j (by omega) b) v hv
                split <;> omega
              · rw [rowR_out hv]; omega
            have hlst := lst_row hE hi1 hnej hu'
            rw [if_neg (by omega)] at hRs
            generalize hmm : minL ((idxs p p.length (nth tgt (i + 1)).phone).map fun v => (tsk p tgt x).J u v + (tsk p tgt x).R (tgt.length - (i + 1)) v) = mm at hRs hlst
            have hRb := tsk_R hE (tgt.length - i) i (by omega) (by omega) (fun j a b => hnej j a b) u hu'
            refine cw_region_a (Cl w [] [ownL 3 s26.v ((rowR p tgt x i u).set u (fitC x (nth p u) (nth tgt i))), ownL 28 s14.v cv, blk b5 (enc x) 25]) [22] mixed_Tryz ?_
            refine aw_pure 0 rfl (by kernel_rfl) (by kernel_rfl) (by kernel_rfl) (by kernel_rfl) (by kernel_rfl) rfl rfl rfl (q_move rfl rfl) ?_
            refine aw_pure 1 rfl (by kernel_rfl) (by kernel_rfl) (by kernel_rfl) (by kernel_rfl) (by kernel_rfl) rfl rfl rfl (q_move rfl rfl) ?_
            refine aw_take 2 (fun w h => Cl.sel (by exact .take 0 rfl (.take 0 rfl (.take 0 rfl (.nil _)))) w h) rfl (by kernel_rfl) (by kernel_rfl) (by kernel_rfl) (by kernel_rfl) (by kernel_rfl) (by kernel_rfl) rfl rfl rfl (q_indexN rfl rfl rfl (by exact fun w hw => rd_own hw (by exact .tail _ (.head _))) (by intro hc; omega)) ?_
            refine aw_pure 4 rfl (by kernel_rfl) (by kernel_rfl) (by kernel_rfl) (by kernel_rfl) (by kernel_rfl) rfl rfl rfl (q_move rfl rfl) ?_
            refine aw_pure 5 rfl (by kernel_rfl) (by kernel_rfl) (by kernel_rfl) (by kernel_rfl) (by kernel_rfl) rfl rfl rfl (q_move rfl rfl) ?_
            refine aw_pure 6 rfl (by kernel_rfl) (by kernel_rfl) (by kernel_rfl) (by kernel_rfl) (by kernel_rfl) rfl rfl rfl (q_move rfl rfl) ?_
            refine aw_take 7 (fun w h => Cl.sel (by exact .take 0 rfl (.take 0 rfl (.take 0 rfl (.nil _)))) w h) rfl (by kernel_rfl) (by kernel_rfl) (by kernel_rfl) (by kernel_rfl) (by kernel_rfl) (by kernel_rfl) rfl rfl rfl (q_indexN rfl rfl rfl (by exact fun w hw => rd_own hw (by exact .tail _ (.head _))) (by intro hc; omega)) ?_
            refine aw_pure 9 rfl (by kernel_rfl) (by kernel_rfl) (by kernel_rfl) (by kernel_rfl) (by kernel_rfl) rfl rfl rfl (q_move rfl rfl) ?_
            refine aw_pure 12 rfl (by kernel_rfl) (by kernel_rfl) (by kernel_rfl) (by kernel_rfl) (by kernel_rfl) rfl rfl rfl (q_move rfl rfl) ?_
            refine aw_pure 13 rfl (by kernel_rfl) (by kernel_rfl) (by kernel_rfl) (by kernel_rfl) (by kernel_rfl) rfl rfl rfl (q_move rfl rfl) ?_
            refine aw_take 14 (fun w h => Cl.sel (by exact .take 0 rfl (.take 0 rfl (.take 0 rfl (.nil _)))) w h) rfl (by kernel_rfl) (by kernel_rfl) (by kernel_rfl) (by kernel_rfl) (by kernel_rfl) (by kernel_rfl) rfl rfl rfl (q_loadA rfl rfl (by exact .tail _ (.tail _ (.head _))) rfl) ?_
            refine aw_pure 15 rfl (by kernel_rfl) (by kernel_rfl) (by kernel_rfl) (by kernel_rfl) (by kernel_rfl) rfl rfl rfl (q_move rfl rfl) ?_
            refine aw_pure 16 rfl (by kernel_rfl) (by kernel_rfl) (by kernel_rfl) (by kernel_rfl) (by kernel_rfl) rfl rfl rfl (q_move rfl rfl) ?_
            refine aw_pure 17 rfl (by kernel_rfl) (by kernel_rfl) (by kernel_rfl) (by kernel_rfl) (by kernel_rfl) rfl rfl rfl (q_add rfl rfl rfl (by intro hc; omega)) ?_
            refine aw_pure 18 rfl (by kernel_rfl) (by kernel_rfl) (by kernel_rfl) (by kernel_rfl) (by kernel_rfl) rfl rfl rfl (q_move rfl rfl) ?_
            refine aw_take 3 (fun w h => Cl.sel (by exact .take 0 rfl (.take 0 rfl (.take 0 rfl (.nil _)))) w h) rfl (by kernel_rfl) (by kernel_rfl) (by kernel_rfl) (by kernel_rfl) (by kernel_rfl) (by kernel_rfl) rfl rfl rfl (q_loadElY hrow rfl rfl rfl (by exact fun w hw => rd_own hw (by exact .tail _ (.head _))) (by intro hc; omega)) ?_
            refine aw_take 8 (fun w h => Cl.sel (by exact .take 0 rfl (.take 0 rfl (.take 0 rfl (.nil _)))) w h) rfl (by kernel_rfl) (by kernel_rfl) (by kernel_rfl) (by kernel_rfl) (by kernel_rfl) (by kernel_rfl) rfl rfl rfl (q_loadElY hrow rfl rfl rfl (by exact fun w hw => rd_own hw (by exact .tail _ (.head _))) (by intro hc; omega)) ?_
            refine aw_take 10 (fun w h => Cl.sel (by exact .take 0 rfl (.take 0 rfl (.take 0 rfl (.nil _)))) w h) rfl (by kernel_rfl) (by kernel_rfl) (by kernel_rfl) (by kernel_rfl) (by kernel_rfl) (by kernel_rfl) rfl rfl rfl (q_indexN rfl rfl rfl (by exact fun w hw => rd_own hw (by exact .head _)) (by intro hc; omega)) ?_
            refine aw_take 11 (fun w h => Cl.sel (by exact .take 0 rfl (.take 0 rfl (.take 0 rfl (.nil _)))) w h) rfl (by kernel_rfl) (by kernel_rfl) (by kernel_rfl) (by kernel_rfl) (by kernel_rfl) (by kernel_rfl) rfl rfl rfl (q_loadElY hrn rfl rfl rfl (by exact fun w hw => rd_own hw (by exact .head _)) (by intro hc; omega)) ?_
            rw [show ((i : Int) + 1) = ((i + 1 : Nat) : Int) by omega]
            refine aw_q 19 (by kernel_rfl) rfl rfl rfl rfl (q_call (v := .int .i64 mm) (CanCall.mk Tryz.call69) rfl (.cons rfl inferInstance (.cons rfl inferInstance (.cons rfl inferInstance (.cons rfl inferInstance (.cons rfl inferInstance (.cons rfl inferInstance (.nil))))))) (fun _ w hw => callq hw (by have := refLst_spec sp tp s14 p tgt x cv (rowR p tgt x (i + 1) p.length) (i + 1) hi1 (by omega) u (by omega) (rowR_len _ _ _ _ _) hbr w (hvo.arg hw) (stb_arg hw htp) (stb_own (e := 28) hw (.tail _ (.head _))) (stb_own (e := 3) hw (.tail _ (.tail _ (.tail _ hgm)))) hE; rw [hlst] at this; exact this))) (by intro hb; exact (fun w h => Cl.sel (by exact .take 0 rfl (.take 0 rfl (.take 0 rfl (.nil _)))) w h)) ?_
            refine aw_pure 20 rfl (by kernel_rfl) (by kernel_rfl) (by kernel_rfl) (by kernel_rfl) (by kernel_rfl) rfl rfl rfl (q_add rfl rfl rfl (by intro hc; omega)) ?_
            refine aw_take 21 (fun w h => Cl.sel (by exact .take 0 rfl (.take 0 rfl (.take 0 rfl (.nil _)))) w h) rfl (by kernel_rfl) (by kernel_rfl) (by kernel_rfl) (by kernel_rfl) (by kernel_rfl) (by kernel_rfl) rfl rfl rfl (q_indexN rfl rfl rfl (by exact fun w hw => rd_own hw (by exact .head _)) (by intro hc; omega)) ?_
            refine aw_one0 22 (by kernel_rfl) rfl rfl rfl (e_storeEl1 (i := 0) rfl rfl rfl rfl rfl (by omega)) (by intro hb; (exact absurd hb (by decide))) ?_
            refine aw_end (by kernel_rfl) ?_
            refine post_meet () (by exact .cons rfl (.cons rfl (.cons rfl (.cons rfl (.cons rfl (.cons rfl (.cons rfl .nil))))))) (fun w3 hw3 => ?_) trivial
            rw [← rowR_take hu' h4, hRs]
            have e5 : ((rowR p tgt x i u).set u (fitC x (nth p u) (nth tgt i))).set u (fitC x (nth p u) (nth tgt i) + mm) = (rowR p tgt x i u).set u (fitC x (nth p u) (nth tgt i) + mm) := by rw [List.set_set]
            rw [← e5]
            exact hw3
          · skip
            have hi1 : i + 1 = tgt.length := by simp only [decide_eq_false_iff_not] at h5; omega
            rw [if_pos hi1, Int.add_zero] at hRs
            refine cw_skip ?_
            refine post_meet () (by exact .cons rfl (.cons rfl (.cons rfl (.cons rfl (.cons rfl (.cons rfl (.cons rfl .nil))))))) (fun w3 hw3 => ?_) trivial
            rw [← rowR_take hu' h4, hRs]
            exact hw3
        · intro _ _
          refine post_blk (post_then (cw_region (sr rfl rfl rfl ((q_move rfl rfl)) ?_)))
          refine sr rfl rfl rfl ((q_add rfl rfl rfl (by intro hc; omega))) ?_
          refine sr rfl rfl rfl ((q_assign rfl rfl)) (sw_nil ?_)
          refine post_next (u + 1) ?_ (fun _ h => h) (by omega) (by omega)
          simp only [hne2]
          exact (by exact .cons rfl (.cons rfl (.cons rfl (.cons rfl (.cons rfl (.cons rfl (.cons rfl .nil)))))))
    · skip
      have hu' : u = p.length := by simp only [decide_eq_false_iff_not] at h2; omega
      subst hu'
      refine cw_exit (post_then_x (post_then_x (post_blk_eq (post_then (cw_seq (cw_region (sr rfl rfl rfl ((q_move rfl rfl)) (sr rfl rfl rfl ((q_not rfl rfl)) (sw_nil (post_then ?_))))))))))
      refine cw_cond rfl (fun h3 => ?_) (fun h3 => ?_)
      · skip
        have h4 : idxs p p.length (nth tgt i).phone = [] := by simpa using h3
        have hP := poss_no hi h4
        refine cw_seq (cw_region (sr rfl rfl rfl ((q_assign rfl rfl)) (sr rfl rfl rfl ((q_assign rfl rfl)) (sw_nil (post_then (cw_ret (post_blk_r (post_then_r (post_then_r (post_blk_r (post_then_r (post_ret2 rfl (resOk_tmp rfl) (resOk_tmp rfl) ?_))))))))))))
        exact fun w' hw => ⟨(⟨none, 0, 0⟩, []), by rw [hP]; rfl, by rw [hP]; simp, by rw [hP, if_neg (by simp)]; exact (fun w h => Cl.sel (by exact .nil _) w h) _ hw⟩
      · skip
        have h4 : idxs p p.length (nth tgt i).phone ≠ [] := by simpa using h3
        refine cw_skip (post_blk (post_then (cw_region (sr rfl rfl rfl ((q_move rfl rfl)) ?_))))
        refine sr rfl rfl rfl ((q_sub rfl rfl rfl (by intro hc; omega))) ?_
        refine sr rfl rfl rfl ((q_assign rfl rfl)) (sw_nil ?_)
        refine post_next ⟨(s26, rowR p tgt x i p.length) :: G⟩ ?_ (fun w3 hw3 => ?_) ⟨by simp only [List.length_cons]; omega, fun j hj => ?_, fun j a b => ?_⟩ (by simp only [List.length_cons]; omega)
        · exact Le.cons rfl (Le.cons rfl (Le.cons rfl (Le.cons rfl (Le.cons' rfl (by congr 1; simp only [List.length_cons]; omega) Le.nil))))
        · rw [hset] at hw3
          exact hw3.perm ((List.Perm.swap _ _ _).trans (.cons _ (.swap _ _ _)))
        · simp only [List.length_cons] at hj ⊢
          cases j with
          | zero =>
            have e0 : nth ((s26, rowR p tgt x i p.length) :: G) 0 = (s26, rowR p tgt x i p.length) := rfl
            rw [e0, show tgt.length - (G.length + 1) + 0 = i by omega]
          | succ j =>
            have e0 : nth ((s26, rowR p tgt x i p.length) :: G) (j + 1) = nth G j := rfl
            rw [e0, hrows j (by omega), show tgt.length - (G.length + 1) + (j + 1) = tgt.length - G.length + j by omega]
        · simp only [List.length_cons] at a
          by_cases e : j = i
          · subst e; exact h4
          · exact hne j (by omega) b
  · skip
    have hGT : G.length = tgt.length := by simp only [decide_eq_false_iff_not] at h; omega
    have hP : possP p tgt = true := poss_yes.2 fun j hj => hne j (by omega) hj
    refine cw_exit (post_then_x (post_then_x (post_blk_eq (post_then (cw_seq (cw_region (sr rfl rfl rfl ((q_move rfl rfl)) (sr rfl rfl rfl ((q_assign rfl rfl)) (sr rfl rfl rfl ((q_assign rfl rfl)) (sw_nil (post_then (cw_ret (post_ret2 rfl (resOk_tmp rfl) (resOk_tmp rfl) ?_)))))))))))))
    refine fun w' hw => ⟨(s14, G), by rw [hP], fun _ => ?_, ?_⟩
    · apply List.ext_getElem
      · simp [hGT]
      · intro j a b
        have := hrows j (by simpa using a)
        rw [nth_get (by simpa using a), show tgt.length - G.length + j = j by omega] at this
        simpa using this
    · rw [if_pos hP]
      have e0 : endsL tgt.length G = G.map Prod.fst := by simp [endsL, hGT]
      rw [e0] at hw
      exact (hw.perm (.swap _ _ _)).tail
end Go.Proofs.YtomjbfeafodfbaaGreat

set_option autoImplicit false
set_option maxRecDepth 100000
namespace Go.Proofs.YtomjbfeafodfbaaGreat
open Go.Sx
open Enc (enc val)
def lz (o : Option Int) : Int := o.getD (-1)
theorem jn_jz {p : List Un} {tgt : List Wan} {x : Wts} {o : Option Int} (h : ∀ u, o = some u → 0 ≤ u) (v : Int) : (tsk p tgt x).jn o v = jz x p (lz o) v := by
  cases o with
  | none => simp [Tsk.jn, jz, lz]
  | some u => have := h u rfl; exact (if_pos (c := 0 ≤ u) this).symm
theorem idx_nat {p : List Un} {c : ByteArray} {v : Int} (h : v ∈ idxs p p.length c) : ∃ m : Nat, v = m ∧ m < p.length := by
  have := TK.idx_mem.1 h
  exact ⟨v.toNat, by omega, by omega⟩
/-- What the least sum is, for a beginning. -/
theorem lst_mi {p : List Un} {tgt : List Wan} {x : Wts} (hE : beginE p tgt x = 0) {i : Nat} (hi : i < tgt.length) (hne : ∀ j, j < tgt.length → idxs p p.length (nth tgt j).phone ≠ []) {o : Option Int} (ho : ∀ u, o = some u → 0 ≤ u ∧ u < p.length) :
    mn ((idxs p p.length (nth tgt i).phone).map (lsum x p (rowR p tgt x i p.length) (lz o))) = (tsk p tgt x).mi (tgt.length - i) o := by
  have hus : (tsk p tgt x).us ((tsk p tgt x).T - (tgt.length - i)) = idxs p p.length (nth tgt i).phone := by
    have : (tsk p tgt x).T = tgt.length := rfl
    rw [this, show tgt.length - (tgt.length - i) = i by omega]; rfl
  have he : (idxs p p.length (nth tgt i).phone).map (lsum x p (rowR p tgt x i p.length) (lz o)) = (idxs p p.length (nth tgt i).phone).map fun v => (tsk p tgt x).jn o v + (tsk p tgt x).R (tgt.length - i) v := by
    apply List.map_congr_left
    intro v hv
    obtain ⟨m, rfl, hm⟩ := idx_nat hv
    rw [lsum, Int.toNat_natCast, rowR_nth hm, if_pos ⟨by omega, hv⟩, ← jn_jz (p := p) (tgt := tgt) (x := x) (fun u hu => (ho u hu).1)]
    omega
  rw [he, Tsk.mi, hus, minL_mn]
  · simpa using hne i hi
  · intro y hy
    obtain ⟨v, hv, rfl⟩ := List.mem_map.1 hy
    obtain ⟨m, rfl, hm⟩ := idx_nat hv
    have h2 := tsk_R hE (tgt.length - i) i (by omega) (by omega) (fun j a b => hne j b) m hm
    have hkT : tgt.length ≤ 500 := (beginE_ok hE).2.1
    obtain ⟨_, _, hv1, _, hv3⟩ := beginE_ok hE
    have h3 : 0 ≤ (tsk p tgt x).jn o m ∧ (tsk p tgt x).jn o m ≤ 800000000 := by
      rw [jn_jz (fun u hu => (ho u hu).1)]
      refine jz_bd hv1 hv3 ?_ hm
      cases o with
      | none => simp [lz]; omega
      | some u => exact (ho u rfl).2
    omega
theorem find_rise {l : List Int} (hl : l.Pairwise (· < ·)) {q : Int → Bool} {v : Int} (hv : v ∈ l) (hp : q v = true) (hn : ∀ u ∈ l, u < v → q u = false) : l.find? q = some v := by
  induction l with
  | nil => simp at hv
  | cons y r ih =>
    have hq := List.pairwise_cons.1 hl
    rw [List.find?_cons]
    rcases List.mem_cons.1 hv with rfl | hv'
    · rw [hp]
    · rw [hn y (by simp) (hq.1 v hv')]
      exact ih hq.2 hv' (fun u hu => hn u (by simp [hu]))
theorem gr_step {t : Tsk} {k : Nat} {o : Option Int} {v : Int} (hr : t.Rise) (hv : v ∈ t.us (t.T - (k + 1))) (h : t.jn o v + t.R (k + 1) v = t.mi (k + 1) o) (hn : ∀ u ∈ t.us (t.T - (k + 1)), u < v → t.jn o u + t.R (k + 1) u ≠ t.mi (k + 1) o) : t.gr (k + 1) o = v :: t.gr k (some v) := by
  rw [Tsk.gr, find_rise (hr _) hv (by simpa using h) (fun u hu hlt => by simpa using hn u hu hlt)]
structure CR where
  q : Sq
  i : Nat
  o : Option Int
set_option maxHeartbeats 1000000 in
theorem refChoose_spec (sp tp sc : SlV) (p : List Un) (tgt : List Wan) (x : Wts) (cv : List SlV) (hcl : cv.length = tgt.length) (w : World) (hvo : VoRd w sp p) (htp : Stb w [] (RdL tp.v tgt)) (hcv : Stb w [] (RdL sc.v cv)) (hrw : ∀ i, i < tgt.length → Stb w [] (RdL (nth cv i).v (rowR p tgt x i p.length))) (hE : beginE p tgt x = 0) (hP : possP p tgt = true) :
    Calls Tryz.prog 22 #[sp.v, tp.v, val x, sc.v] w fun e w' => ∃ q : Sq, e = .returned (val q) ∧ (q.ul = (tsk p tgt x).gr tgt.length none ∧ q.cost = if tgt.length = 0 then 0 else (tsk p tgt x).mi tgt.length none) ∧ Cl w [] [ownL 3 q.us.v q.ul] w' := by
  have hvl := hvo.l
  have hL := rd_len hvl.here
  obtain ⟨m1, m2, hv1, hv2, hv3⟩ := beginE_ok hE
  have hne := poss_yes.1 hP
  have eT : (tsk p tgt x).T = tgt.length := rfl
  have hrise : (tsk p tgt x).Rise := fun i => idxs_rise p _ p.length
  refine calls_cw (vs := [_, _, _, _]) Tryz.func22 rfl Tryz.ntmps22 rfl (Cl.start0 w) (cw_seq (cw_region ?_))
  refine sw_x rfl rfl rfl (e_box rfl rfl rfl) (fun b6 => ?_)
  refine sw_x rfl rfl rfl (e_alloc rfl) (fun b8 => ?_)
  refine sw_nil (post_then (cw_seq (cw_region ?_)))
  refine sw_x rfl rfl rfl (e_alloc rfl) (fun b9 => ?_)
  refine sw_nil (post_then (cw_seq (cw_region (sr rfl rfl rfl ((q_assign rfl rfl)) (sw_nil (post_then (cw_seq (cw_seq (cw_region (sr rfl rfl rfl ((q_assign rfl rfl)) (sw_nil (post_then (cw_block ?_)))))))))))))
  refine cw_loop (S := CR) (fun y => [(0, [], sp.v), (1, [], tp.v), (3, [], sc.v), (6, [], .pointer (some ⟨b6, 0, none⟩)), (8, [], .pointer (some ⟨b8, 0, none⟩)), (9, [], .pointer (some ⟨b9, 0, none⟩)), (10, [], .int .i64 (lz y.o)), (11, [], .int .i64 y.i)]) (fun y => Cl w [] [blk b9 (enc y.q) 30, blk b8 (enc (⟨⟨none, 0, 0⟩, 0, []⟩ : Sq)) 30, blk b6 (enc x) 25, ownL 3 y.q.us.v y.q.ul]) (fun y => y.i ≤ tgt.length ∧ y.q.ul.length = y.i ∧ y.q.ul ++ (tsk p tgt x).gr (tgt.length - y.i) y.o = (tsk p tgt x).gr tgt.length none ∧ (∀ u, y.o = some u → 0 ≤ u ∧ u < p.length ∧ 1 ≤ y.i ∧ u ∈ (tsk p tgt x).us (y.i - 1)) ∧ (y.i = 0 → y.o = none) ∧ y.q.cost = if y.i = 0 then 0 else (tsk p tgt x).mi tgt.length none) (fun y => tgt.length - y.i) ⟨⟨⟨none, 0, 0⟩, 0, []⟩, 0, none⟩ ⟨Nat.zero_le _, rfl, by simp, fun u (h : none = some u) => (nomatch h), fun _ => rfl, rfl⟩ (by exact .cons rfl (.cons rfl (.cons rfl (.cons rfl (.cons rfl (.cons rfl (.cons rfl (.cons rfl .nil)))))))) (fun w' h => (h.addNil (α := Int) 3).perm ((List.Perm.swap _ _ _).trans (.cons _ ((List.Perm.swap _ _ _).trans (.cons _ (.swap _ _ _)))))) ?_
  rintro ⟨q, i, o⟩ ⟨hi, hql, hgr, ho, ho0, hc⟩
  dsimp only at hi hql hgr ho ho0 hc ⊢
  refine cw_seq (cw_seq (cw_region (sr rfl rfl rfl ((q_move rfl rfl)) (sr rfl rfl rfl ((q_move rfl rfl)) ?_))))
  refine sr rfl rfl rfl ((q_len rfl (.cons rfl inferInstance (.nil)) (by exact fun w hw => Stb.cl (by assumption) hw))) ?_
  refine sr rfl rfl rfl ((q_lss rfl rfl rfl)) (sw_nil (post_then ?_))
  refine cw_cond rfl (fun h => ?_) (fun h => ?_)
  · skip
    have hi' : i < tgt.length := by simp only [decide_eq_true_eq] at h; omega
    have ho2 : ∀ u, o = some u → 0 ≤ u ∧ u < p.length := fun u hu => ⟨(ho u hu).1, (ho u hu).2.1⟩
    have hlz : -1 ≤ lz o ∧ lz o < p.length := by
      cases o with
      | none => simp [lz]; omega
      | some u => have := ho2 u rfl; simp only [lz, Option.getD_some]; omega
    have hbr : ∀ v : Nat, -4611686018427387904 ≤ nth (rowR p tgt x i p.length) v ∧ nth (rowR p tgt x i p.length) v ≤ 4611686018427387904 := fun v => by
      by_cases hv : v < p.length
      · rw [rowR_nth hv]
        have := tsk_R hE (tgt.length - i) i (by omega) (by omega) (fun j a b => hne j b) v hv
        split <;> omega
      · rw [rowR_out hv]; omega
    have hmi := lst_mi hE hi' hne ho2
    refine cw_skip (post_then (cw_seq (cw_block (cw_seq (cw_region (sr rfl rfl rfl ((q_move rfl rfl)) (sr rfl rfl rfl ((q_move rfl rfl)) ?_)))))))
    refine sr rfl rfl rfl ((q_loadA rfl rfl (by exact .tail _ (.tail _ (.head _))) rfl)) ?_
    refine sr rfl rfl rfl ((q_move rfl rfl)) (sr rfl rfl rfl ((q_move rfl rfl)) (sr rfl rfl rfl ((q_move rfl rfl)) ?_))
    refine sw_step rfl rfl rfl (q_call (CanCall.mk Tryz.call69) rfl (.cons rfl inferInstance (.cons rfl inferInstance (.cons rfl inferInstance (.cons rfl inferInstance (.cons rfl inferInstance (.cons rfl inferInstance (.nil))))))) (fun _ w hw => callq hw (by have := refLst_spec sp tp sc p tgt x cv (rowR p tgt x i p.length) i hi' (by omega) (lz o) hlz (rowR_len _ _ _ _ _) hbr w (hvo.arg hw) (stb_arg hw htp) (stb_arg hw hcv) (stb_arg hw (hrw i hi')) hE; rw [hmi] at this; exact this))) ?_
    refine sr rfl rfl rfl ((q_assign rfl rfl)) (sw_nil (post_then (cw_seq (cw_seq (cw_region (sr rfl rfl rfl ((q_move rfl rfl)) (sr rfl rfl rfl ((q_eql rfl rfl rfl)) (sw_nil (post_then ?_)))))))))
    refine cw_cut (S := Int) (fun c => [(0, [], sp.v), (1, [], tp.v), (3, [], sc.v), (6, [], .pointer (some ⟨b6, 0, none⟩)), (8, [], .pointer (some ⟨b8, 0, none⟩)), (9, [], .pointer (some ⟨b9, 0, none⟩)), (10, [], .int .i64 (lz o)), (11, [], .int .i64 i), (12, [], .int .i64 ((tsk p tgt x).mi (tgt.length - i) o))]) (fun c => Cl w [] [blk b9 (enc (⟨q.us, c, q.ul⟩ : Sq)) 30, blk b8 (enc (⟨⟨none, 0, 0⟩, 0, []⟩ : Sq)) 30, blk b6 (enc x) 25, ownL 3 q.us.v q.ul]) (fun c => c = (tsk p tgt x).mi tgt.length none) ?_ ?_
    · refine cw_cond rfl (fun h2 => ?_) (fun h2 => ?_)
      · skip
        have hi0 : i = 0 := by simp only [decide_eq_true_eq] at h2; omega
        refine cw_region (sr rfl rfl rfl ((q_move rfl rfl)) (sr rfl rfl rfl ((q_fieldAddr rfl rfl)) (sw_eff0 rfl rfl (e_store (i := 0) rfl rfl rfl rfl rfl rfl rfl rfl) (sw_nil ?_))))
        refine post_meet ((tsk p tgt x).mi (tgt.length - i) o) (by exact .cons rfl (.cons rfl (.cons rfl (.cons rfl (.cons rfl (.cons rfl (.cons rfl (.cons rfl (.cons rfl .nil))))))))) (fun _ h => h) ?_
        rw [hi0, ho0 hi0, Nat.sub_zero]
      · skip
        have hi0 : ¬ i = 0 := by simp only [decide_eq_false_iff_not] at h2; omega
        refine cw_skip ?_
        exact post_meet q.cost (by exact .cons rfl (.cons rfl (.cons rfl (.cons rfl (.cons rfl (.cons rfl (.cons rfl (.cons rfl (.cons rfl .nil))))))))) (fun _ h => h) (by rw [hc, if_neg hi0])
    · intro c hc2
      refine post_then (cw_seq (cw_region (sr rfl rfl rfl ((q_assign rfl rfl)) (sw_nil (post_then (cw_block ?_))))))
      refine cw_loop (S := Nat) (fun v => [(0, [], sp.v), (1, [], tp.v), (3, [], sc.v), (6, [], .pointer (some ⟨b6, 0, none⟩)), (8, [], .pointer (some ⟨b8, 0, none⟩)), (9, [], .pointer (some ⟨b9, 0, none⟩)), (10, [], .int .i64 (lz o)), (11, [], .int .i64 i), (12, [], .int .i64 ((tsk p tgt x).mi (tgt.length - i) o)), (13, [], .int .i64 v)]) (fun _ => Cl w [] [blk b9 (enc (⟨q.us, c, q.ul⟩ : Sq)) 30, blk b8 (enc (⟨⟨none, 0, 0⟩, 0, []⟩ : Sq)) 30, blk b6 (enc x) 25, ownL 3 q.us.v q.ul]) (fun v => v ≤ p.length ∧ ∀ u ∈ idxs p p.length (nth tgt i).phone, u < v → (tsk p tgt x).jn o u + (tsk p tgt x).R (tgt.length - i) u ≠ (tsk p tgt x).mi (tgt.length - i) o) (fun v => p.length - v) 0 ⟨Nat.zero_le _, fun u hu h0 => by obtain ⟨m, rfl, _⟩ := idx_nat hu; omega⟩ (by exact .cons rfl (.cons rfl (.cons rfl (.cons rfl (.cons rfl (.cons rfl (.cons rfl (.cons rfl (.cons rfl (.cons rfl .nil)))))))))) (fun _ h => h) ?_
      rintro v ⟨hv, hno⟩
      refine cw_seq (cw_seq (cw_region (sr rfl rfl rfl ((q_move rfl rfl)) (sr rfl rfl rfl ((q_move rfl rfl)) ?_))))
      refine sr rfl rfl rfl ((q_len rfl (.cons rfl inferInstance (.nil)) (by exact fun w hw => Stb.cl (by assumption) hw))) ?_
      refine sr rfl rfl rfl ((q_lss rfl rfl rfl)) (sw_nil (post_then ?_))
      refine cw_cond rfl (fun h3 => ?_) (fun h3 => ?_)
      · skip
        have hv' : v < p.length := by simp only [decide_eq_true_eq] at h3; omega
        refine cw_skip (post_then (cw_seq (cw_block (cw_seq (cw_seq ?_)))))
        refine cw_region_q mixed_Tryz (by kernel_rfl) ?_
        refine qr rfl rfl rfl ((q_move rfl rfl)) (qr rfl rfl rfl ((q_move rfl rfl)) ?_)
        refine qr rfl rfl rfl ((q_indexN rfl rfl rfl (by exact fun w hw => Stb.cl (by assumption) hw) (by intro hc; omega))) ?_
        refine qr rfl rfl rfl ((q_fieldEl rfl rfl (by exact fun w hw => Stb.cl (by assumption) hw) (by intro hc; omega))) ?_
        refine qr rfl rfl rfl ((q_loadF rfl rfl rfl (by exact fun w hw => Stb.cl (by assumption) hw) (by intro hc; omega) rfl)) ?_
        refine qr rfl rfl rfl ((q_move rfl rfl)) (qr rfl rfl rfl ((q_move rfl rfl)) ?_)
        refine qr rfl rfl rfl ((q_indexN rfl rfl rfl (by exact fun w hw => Stb.cl (by assumption) hw) (by intro hc; omega))) ?_
        refine qr rfl rfl rfl ((q_fieldEl rfl rfl (by exact fun w hw => Stb.cl (by assumption) hw) (by intro hc; omega))) ?_
        refine qr rfl rfl rfl ((q_loadF rfl rfl rfl (by exact fun w hw => Stb.cl (by assumption) hw) (by intro hc; omega) rfl)) ?_
        refine qr rfl rfl rfl ((q_neqStr rfl rfl rfl Tryz.underlying9)) (qw_end (post_then ?_))
        refine cw_cond rfl (fun h4 => ?_) (fun h4 => ?_)
        · skip
          have h5 : ¬ (nth p v).phone = (nth tgt i).phone := by simpa using h4
          refine cw_exit (post_then_x (post_blk_eq (post_then (cw_region (sr rfl rfl rfl ((q_move rfl rfl)) ?_)))))
          refine sr rfl rfl rfl ((q_add rfl rfl rfl (by intro hc; omega))) ?_
          refine sr rfl rfl rfl ((q_assign rfl rfl)) (sw_nil ?_)
          refine post_next (v + 1) (by exact .cons rfl (.cons rfl (.cons rfl (.cons rfl (.cons rfl (.cons rfl (.cons rfl (.cons rfl (.cons rfl (.cons rfl .nil)))))))))) (fun _ h => h) ⟨by omega, fun u hu hlt => ?_⟩ (by omega)
          by_cases e : u = v
          · subst e
            have := (TK.idx_mem.1 hu).2.2
            exact absurd (by simpa using this) h5
          · exact hno u hu (by omega)
        · skip
          have h5 : (nth p v).phone = (nth tgt i).phone := by simpa using h4
          have hvm : (v : Int) ∈ idxs p p.length (nth tgt i).phone := TK.idx_mem.2 ⟨by omega, by omega, by simpa using h5⟩
          have hrn : nth (rowR p tgt x i p.length) v = (tsk p tgt x).R (tgt.length - i) v := by rw [rowR_nth hv', if_pos ⟨hv', hvm⟩]
          have hrd := hrw i hi'
          have hrl := rowR_len p tgt x i p.length
          have hRb := tsk_R hE (tgt.length - i) i (by omega) (by omega) (fun j a b => hne j b) v hv'
          have hjb := jz_bd hv1 hv3 hlz.2 hv'
          refine cw_skip (post_then (cw_seq (cw_region (sr rfl rfl rfl ((q_move rfl rfl)) (sr rfl rfl rfl ((q_move rfl rfl)) ?_)))))
          refine sr rfl rfl rfl ((q_indexN rfl rfl rfl (by exact fun w hw => Stb.cl (by assumption) hw) (by intro hc; omega))) ?_
          refine sr rfl rfl rfl ((q_loadEl rfl rfl rfl (by exact fun w hw => Stb.cl (by assumption) hw) (by intro hc; omega))) ?_
          refine sr rfl rfl rfl ((q_move rfl rfl)) ?_
          refine sr rfl rfl rfl ((q_indexN rfl rfl rfl (by exact fun w hw => Stb.cl (by assumption) hw) (by intro hc; omega))) ?_
          refine sr rfl rfl rfl ((q_loadEl rfl rfl rfl (by exact fun w hw => Stb.cl (by assumption) hw) (by intro hc; omega))) ?_
          refine sr rfl rfl rfl ((q_assign rfl rfl)) (sw_nil (post_then (cw_seq (cw_seq (cw_region (sr rfl rfl rfl ((q_move rfl rfl)) (sr rfl rfl rfl ((q_geq rfl rfl rfl)) (sw_nil (post_then ?_)))))))))
          rw [hrn]
          refine cw_cut (S := Unit) (fun _ => [(0, [], sp.v), (1, [], tp.v), (3, [], sc.v), (6, [], .pointer (some ⟨b6, 0, none⟩)), (8, [], .pointer (some ⟨b8, 0, none⟩)), (9, [], .pointer (some ⟨b9, 0, none⟩)), (10, [], .int .i64 (lz o)), (11, [], .int .i64 i), (12, [], .int .i64 ((tsk p tgt x).mi (tgt.length - i) o)), (13, [], .int .i64 v), (14, [], .int .i64 ((tsk p tgt x).R (tgt.length - i) v + jz x p (lz o) v))]) (fun _ => Cl w [] [blk b9 (enc (⟨q.us, c, q.ul⟩ : Sq)) 30, blk b8 (enc (⟨⟨none, 0, 0⟩, 0, []⟩ : Sq)) 30, blk b6 (enc x) 25, ownL 3 q.us.v q.ul]) (fun _ => True) ?_ ?_
          · refine cw_cond rfl (fun h6 => ?_) (fun h6 => ?_)
            · skip
              have h7 : 0 ≤ lz o := by simpa using h6
              have em : nth p (lz o).toNat ∈ p := nth_mem (by omega)
              have ek : nth p v ∈ p := nth_mem hv'
              have ej : jz x p (lz o) v = joinC x (nth p (lz o).toNat) (nth p v) := by rw [jz, if_pos h7]; simp
              rw [ej] at hjb ⊢
              refine cw_region_q mixed_Tryz (by kernel_rfl) ?_
              refine qr rfl rfl rfl ((q_move rfl rfl)) (qr rfl rfl rfl ((q_move rfl rfl)) (qr rfl rfl rfl ((q_move rfl rfl)) ?_))
              refine qr rfl rfl rfl ((q_index rfl rfl rfl (by exact fun w hw => Stb.cl (by assumption) hw) (by intro hc; omega))) ?_
              refine qr rfl rfl rfl ((q_loadEl rfl rfl rfl (by exact fun w hw => Stb.cl (by assumption) hw) (by intro hc; omega))) ?_
              refine qr rfl rfl rfl ((q_move rfl rfl)) (qr rfl rfl rfl ((q_move rfl rfl)) ?_)
              refine qr rfl rfl rfl ((q_indexN rfl rfl rfl (by exact fun w hw => Stb.cl (by assumption) hw) (by intro hc; omega))) ?_
              refine qr rfl rfl rfl ((q_loadEl rfl rfl rfl (by exact fun w hw => Stb.cl (by assumption) hw) (by intro hc; omega))) ?_
              refine qr rfl rfl rfl ((q_loadA rfl rfl (by exact .tail _ (.tail _ (.head _))) rfl)) ?_
              refine qw_step rfl rfl rfl (q_call (CanCall.mk Tryz.call51) rfl (.cons rfl inferInstance (.cons rfl inferInstance (.cons rfl inferInstance (.nil)))) (fun _ w hw => callq hw (refJoin_spec (nth p (lz o).toNat) (nth p v) x w ((hvo.arg hw).u _ em) ((hvo.arg hw).u _ ek) (vo_ok hv1 em) (vo_ok hv1 ek) (vo_bl hv1 em ek) (wt_ok hv3)))) ?_
              refine qr rfl rfl rfl ((q_add rfl rfl rfl (by intro hc; omega))) ?_
              refine qr rfl rfl rfl ((q_assign rfl rfl)) (qw_end ?_)
              exact post_meet () (by exact .cons rfl (.cons rfl (.cons rfl (.cons rfl (.cons rfl (.cons rfl (.cons rfl (.cons rfl (.cons rfl (.cons rfl (.cons rfl .nil))))))))))) (fun _ h => h) trivial
            · skip
              have h7 : ¬ 0 ≤ lz o := by simpa using h6
              have ej : jz x p (lz o) v = 0 := by rw [jz, if_neg h7]
              rw [ej, Int.add_zero]
              refine cw_skip ?_
              exact post_meet () (by exact .cons rfl (.cons rfl (.cons rfl (.cons rfl (.cons rfl (.cons rfl (.cons rfl (.cons rfl (.cons rfl (.cons rfl (.cons rfl .nil))))))))))) (fun _ h => h) trivial
          · intro _ _
            refine post_then (cw_seq (cw_region (sr rfl rfl rfl ((q_move rfl rfl)) (sr rfl rfl rfl ((q_move rfl rfl)) (sr rfl rfl rfl ((q_eql rfl rfl rfl)) (sw_nil (post_then ?_)))))))
            refine cw_cond rfl (fun h8 => ?_) (fun h8 => ?_)
            · skip
              have h9 : (tsk p tgt x).R (tgt.length - i) v + jz x p (lz o) v = (tsk p tgt x).mi (tgt.length - i) o := by simpa using h8
              refine cw_seq (cw_region (sr rfl rfl rfl ((q_fieldAddr rfl rfl)) ?_))
              refine sr rfl rfl rfl ((q_loadC rfl rfl (by exact .head _) rfl)) ?_
              refine sr rfl rfl rfl ((q_move rfl rfl)) ?_
              refine sw_x rfl rfl rfl (e_build1 (α := Int) rfl rfl rfl rfl) (fun s76 => ?_)
              refine sw_x rfl rfl rfl (e_append (i := 4) rfl (.cons rfl inferInstance (.cons rfl inferInstance (.nil))) rfl rfl (by exact fun w hw => rd_own hw (by exact .head _)) (by simp only [List.length_set, List.length_append, List.length_cons, List.length_nil, List.length_replicate, List.length_take, List.length_drop, List.length_map]; omega) rfl) (fun s77 => ?_)
              refine sr rfl rfl rfl ((q_fieldAddr rfl rfl)) (sw_eff0 rfl rfl (e_store (i := 1) rfl rfl rfl rfl rfl rfl rfl rfl) (sw_nil (post_then (cw_seq (cw_region (sr rfl rfl rfl ((q_move rfl rfl)) (sr rfl rfl rfl ((q_assign rfl rfl)) (sw_nil (post_then (cw_exit (post_blk_ne rfl (post_then_x (post_then_x (post_blk_eq (post_blk (post_then (cw_region (sr rfl rfl rfl ((q_move rfl rfl)) ?_))))))))))))))))))
              refine sr rfl rfl rfl ((q_add rfl rfl rfl (by intro hc; omega))) ?_
              refine sr rfl rfl rfl ((q_assign rfl rfl)) (sw_nil ?_)
              refine post_next ⟨⟨s77, c, q.ul ++ [(v : Int)]⟩, i + 1, some v⟩ ?_ (fun w3 hw3 => ?_) ⟨by simp only; omega, by simp [hql], ?_, fun u hu => ?_, fun h => by simp at h, ?_⟩ (by simp only; omega)
              · simp only [lz, Option.getD_some]
                exact (by exact .cons rfl (.cons rfl (.cons rfl (.cons rfl (.cons rfl (.cons rfl (.cons rfl (.cons rfl .nil))))))))
              · exact (show Cl w [] [ownL 3 s76.v [(v : Int)], blk b9 (enc (⟨s77, c, q.ul ++ [(v : Int)]⟩ : Sq)) 30, blk b8 (enc (⟨⟨none, 0, 0⟩, 0, []⟩ : Sq)) 30, blk b6 (enc x) 25, ownL 3 s77.v (q.ul ++ [(v : Int)])] w3 from hw3).tail
              · dsimp only
                rw [← hgr]
                obtain ⟨k, hk⟩ : ∃ k, tgt.length - i = k + 1 := ⟨tgt.length - i - 1, by omega⟩
                have ei : (tsk p tgt x).T - (k + 1) = i := by rw [eT]; omega
                rw [hk] at h9 hno ⊢
                rw [gr_step (t := tsk p tgt x) hrise (by rw [ei]; exact hvm) (by rw [jn_jz (fun u hu => (ho2 u hu).1)]; omega) (by rw [ei]; exact hno), show tgt.length - (i + 1) = k by omega]
                simp
              · dsimp only at hu ⊢
                cases hu
                exact ⟨by omega, by omega, by omega, hvm⟩
              · dsimp only
                rw [if_neg (by omega)]; exact hc2
            · skip
              have h9 : ¬ (tsk p tgt x).R (tgt.length - i) v + jz x p (lz o) v = (tsk p tgt x).mi (tgt.length - i) o := by simpa using h8
              refine cw_skip (post_blk (post_then (cw_region (sr rfl rfl rfl ((q_move rfl rfl)) ?_))))
              refine sr rfl rfl rfl ((q_add rfl rfl rfl (by intro hc; omega))) ?_
              refine sr rfl rfl rfl ((q_assign rfl rfl)) (sw_nil ?_)
              refine post_next (v + 1) (by exact .cons rfl (.cons rfl (.cons rfl (.cons rfl (.cons rfl (.cons rfl (.cons rfl (.cons rfl (.cons rfl (.cons rfl .nil)))))))))) (fun _ h => h) ⟨by omega, fun u hu hlt => ?_⟩ (by omega)
              by_cases e : u = v
              · subst e
                rw [jn_jz (fun u hu => (ho2 u hu).1)]; omega
              · exact hno u hu (by omega)
      · skip
        exfalso
        have hv' : v = p.length := by simp only [decide_eq_false_iff_not] at h3; omega
        subst hv'
        obtain ⟨k, hk⟩ : ∃ k, tgt.length - i = k + 1 := ⟨tgt.length - i - 1, by omega⟩
        have ei : (tsk p tgt x).us ((tsk p tgt x).T - (tgt.length - i)) = idxs p p.length (nth tgt i).phone := by rw [eT, show tgt.length - (tgt.length - i) = i by omega]; rfl
        obtain ⟨u, hu1, hu2⟩ := Tsk.mi_mem (t := tsk p tgt x) (k := tgt.length - i) (last := o) (by rw [ei]; exact hne i hi') (fun u hu => by
          rw [ei] at hu
          obtain ⟨m, rfl, hm⟩ := idx_nat hu
          have h2 := tsk_R hE (tgt.length - i) i (by omega) (by omega) (fun j a b => hne j b) m hm
          rw [jn_jz (fun u hu => (ho2 u hu).1)]
          have := jz_bd hv1 hv3 hlz.2 hm
          omega)
        rw [ei] at hu1
        obtain ⟨m, rfl, hm⟩ := idx_nat hu1
        exact hno m hu1 (by omega) hu2
  · skip
    have hi' : i = tgt.length := by simp only [decide_eq_false_iff_not] at h; omega
    subst hi'
    refine cw_exit (post_then_x (post_then_x (post_blk_eq (post_then (cw_seq (cw_region ?_))))))
    refine sr rfl rfl rfl ((q_loadA rfl rfl (by exact .head _) rfl)) ?_
    refine sw_eff0 rfl rfl (e_store (i := 1) rfl rfl rfl rfl rfl rfl rfl rfl) (sw_nil (post_then (cw_ret ?_)))
    refine post_ret1 rfl (resOk_blk (x := q) rfl (by exact .tail _ (.head _)) (by rfl)) ?_
    refine fun w' hw => ⟨q, rfl, ⟨?_, hc⟩, (fun w h => Cl.sel (by exact .take 3 rfl (.nil _)) w h) _ hw⟩
    rw [← hgr, Nat.sub_self]
    simp [Tsk.gr]
end Go.Proofs.YtomjbfeafodfbaaGreat

set_option autoImplicit false
set_option maxRecDepth 100000
namespace Go.Proofs.YtomjbfeafodfbaaGreat
open Go.Sx
open Enc (enc val)
theorem best_gr {p : List Un} {tgt : List Wan} {x : Wts} (hE : beginE p tgt x = 0) (hP : possP p tgt = true) {s : List Int} {c : Int} (h : BestSeq (tsk p tgt x) s c) :
    s = (tsk p tgt x).gr tgt.length none ∧ c = if tgt.length = 0 then 0 else (tsk p tgt x).mi tgt.length none := by
  obtain ⟨h1, h2, h3⟩ := h
  have eT : (tsk p tgt x).T = tgt.length := rfl
  rw [eT] at h1 h3
  by_cases h0 : tgt.length = 0
  · rw [h0] at h1 ⊢
    simp only [Tsk.tl, List.mem_singleton] at h1
    subst h1
    exact ⟨rfl, by rw [h2]; rfl⟩
  · have hne := poss_yes.1 hP
    obtain ⟨m1, m2, hv1, hv2, hv3⟩ := beginE_ok hE
    obtain ⟨v, r, g1, g2, g3, g4⟩ := Tsk.gr_best (t := tsk p tgt x) (fun i => idxs_rise p _ p.length) (fun i hi => hne i hi) (fun k last v hk hk1 hv hl => by
      rw [eT] at hk hv hl
      obtain ⟨m, rfl, hm⟩ := idx_nat hv
      have h2 := tsk_R hE k (tgt.length - k) (by omega) hk1 (fun j a b => hne j b) m hm
      have h3 : 0 ≤ (tsk p tgt x).jn last m ∧ (tsk p tgt x).jn last m ≤ 800000000 := by
        cases last with
        | none => simp [Tsk.jn]
        | some u =>
          obtain ⟨n, rfl, hn⟩ := idx_nat (hl u rfl)
          exact (tsk_bd hE).2 n m hn hm
      omega) tgt.length none (by rw [eT]; exact Nat.le_refl _) (by omega) (fun u hu => by cases hu)
    rw [eT, Nat.sub_self] at g3 g4
    have g3' : (tsk p tgt x).tc 0 (v :: r) = (tsk p tgt x).mi tgt.length none := by rw [← g3]; simp [Tsk.jn]
    rw [g1, if_neg h0]
    have hsl := (tsk p tgt x).tl_len _ s h1
    match s, hsl with
    | [], hsl => exact absurd hsl.symm h0
    | a :: s, _ =>
      have e4 := g4 a s h1
      have e5 : (tsk p tgt x).jn none a + (tsk p tgt x).tc 0 (a :: s) = c := by rw [h2]; simp [Tsk.jn]
      rw [e5] at e4
      rcases e4 with e | e | ⟨e, e'⟩
      · exact ⟨e, by rw [h2, e, g3']⟩
      · rcases h3 (v :: r) g2 with k | k
        · have k := congrArg ((tsk p tgt x).tc 0) k
          omega
        · rcases k with k | ⟨k, _⟩
          · simp only at k; omega
          · simp only at k; omega
      · rcases h3 (v :: r) g2 with k | k
        · exact ⟨k.symm, e.symm⟩
        · rcases k with k | ⟨_, k⟩
          · simp only at k; omega
          · simp only at k
            rw [lex_as _ _ e'] at k; cases k
def rowsR (p : List Un) (tgt : List Wan) (x : Wts) : List (List Int) := (List.range tgt.length).map fun i => rowR p tgt x i p.length
theorem rowsR_len (p : List Un) (tgt : List Wan) (x : Wts) : (rowsR p tgt x).length = tgt.length := by simp [rowsR]
theorem rowsR_nth {p : List Un} {tgt : List Wan} {x : Wts} {i : Nat} (h : i < tgt.length) : nth (rowsR p tgt x) i = rowR p tgt x i p.length := by
  rw [nth_get (by rw [rowsR_len]; exact h)]; simp [rowsR]
theorem cells_row {p : List Un} {tgt : List Wan} {x : Wts} {cells : List Int} (h : TabP p tgt x cells) {i : Nat} (hi : i < tgt.length) : (cells.take ((i + 1) * p.length)).drop (i * p.length) = rowR p tgt x i p.length := by
  have hm : (i + 1) * p.length ≤ tgt.length * p.length := Nat.mul_le_mul_right _ hi
  have hm2 : (i + 1) * p.length = i * p.length + p.length := Nat.succ_mul _ _
  have hl := h.1
  apply List.ext_getElem
  · rw [List.length_drop, List.length_take, rowR_len]; omega
  · intro u h1 h2
    rw [rowR_len] at h2
    rw [← nth_get h1, ← nth_get (by rw [rowR_len]; exact h2), rowR_nth h2]
    have e := h.2 i u hi h2
    have e1 : nth ((cells.take ((i + 1) * p.length)).drop (i * p.length)) u = nth cells (i * p.length + u) := by
      rw [nth_get h1, nth_get (by omega)]
      simp
    rw [e1, e]
    simp [h2]
theorem mt_cells {w : World} {so sc : SlV} {p : List Un} {tgt : List Wan} {x : Wts} {cells : List Int} (h : TabP p tgt x cells) (h1 : Stb w [] (RdL so.v (rowsTo sc p.length tgt.length tgt.length))) (h2 : Stb w [] (RdL sc.v cells)) : Stb w [] (fun w' => Mt w' so.v (rowsTo sc p.length tgt.length tgt.length) (rowsR p tgt x)) := by
  refine Mt.stb ⟨h1.here, by rw [rowsTo_len, rowsR_len], fun i hi => ?_⟩
  rw [rowsR_len] at hi
  have hm : (i + 1) * p.length ≤ tgt.length * p.length := Nat.mul_le_mul_right _ hi
  rw [rowsAll_nth _ _ _ _ hi, rowsR_nth hi, ← cells_row h hi]
  exact rd_row h2.here (Nat.mul_le_mul_right _ (Nat.le_succ i)) (by rw [h.1]; exact hm)
theorem rows_mem {G : List (SlV × List Int)} {f : Nat → List Int} {n : Nat} (h : G.map Prod.snd = (List.range n).map f) : G.length = n ∧ ∀ i, i < n → ownL 3 (nth (G.map Prod.fst) i).v (f i) ∈ G.map rowG := by
  have hl : G.length = n := by have := congrArg List.length h; simpa using this
  refine ⟨hl, fun i hi => ?_⟩
  have hg : i < G.length := by omega
  have e1 : nth (G.map Prod.fst) i = (nth G i).1 := by rw [nth_get (by simpa using hg), nth_get hg]; simp
  have e2 : (nth G i).2 = f i := by
    have h1 : (G.map Prod.snd)[i]'(by simpa using hg) = f i := by simp [h]
    rw [nth_get hg, ← h1]; simp
  have : rowG (nth G i) ∈ G.map rowG := List.mem_map_of_mem (nth_mem hg)
  rw [e1, ← e2]; exact this
theorem small_pow {p : List Un} {tgt : List Wan} {a b : Nat} (ha : a ≤ 10) (hb : b ≤ 8) (hp : p.length ≤ a) (ht : tgt.length ≤ b) : (p.length + 1) ^ tgt.length ≤ 500000000 :=
  Nat.le_trans (Nat.pow_le_pow_left (show p.length + 1 ≤ 11 by omega) _) (Nat.le_trans (Nat.pow_le_pow_right (by omega) (show tgt.length ≤ 8 by omega)) (by decide))
theorem lawChooses_out (sp tp : SlV) (p : List Un) (tgt : List Wan) (x : Wts) (w : World) (hvo : VoIn w sp p) (htp : Stb w [] (RdL tp.v tgt)) (hs : smallB p tgt 10 8 = false) :
    Calls Tryz.prog 3 #[sp.v, tp.v, val x] w fun e w' => e = .returned (.bool true) ∧ Cl w [] [] w' := by
  refine calls_cw (vs := [_, _, _]) Tryz.func3 rfl Tryz.ntmps3 rfl (Cl.start0 w) (cw_seq (cw_region ?_))
  refine sw_x rfl rfl rfl (e_box rfl rfl rfl) (fun b5 => ?_)
  refine sr rfl rfl rfl ((q_assign rfl rfl)) (sw_nil (post_then (cw_seq (cw_seq (cw_region (sr rfl rfl rfl ((q_move rfl rfl)) (sr rfl rfl rfl ((q_move rfl rfl)) (sw_step rfl rfl rfl (q_call (CanCall.mk Tryz.call17) rfl (.cons rfl inferInstance (.cons rfl inferInstance (.cons rfl inferInstance (.cons rfl inferInstance (.nil))))) (fun _ w hw => callq hw (small_spec sp tp p tgt 10 8 w (voIn_arg hw hvo) (stb_arg hw htp)))) (sr rfl rfl rfl ((q_not rfl rfl)) (sw_nil (post_then ?_)))))))))))
  rw [hs]
  refine cw_cond rfl (fun h => ?_) (fun h => ?_)
  · skip
    refine cw_seq (cw_region (sw_step rfl rfl rfl (q_call (CanCall.mk Tryz.call18) rfl (.nil) (fun _ w hw => callq hw (known_spec w))) (sr rfl rfl rfl ((q_assign rfl rfl)) (sw_nil (post_then (cw_ret (post_then_r (post_ret1 rfl (resOk_tmp rfl) ?_))))))))
    exact fun w' hw => ⟨rfl, (fun w h => Cl.sel (by exact .nil _) w h) _ hw⟩
  · skip
    simp at h
theorem lawChooses_bad (sp tp : SlV) (p : List Un) (tgt : List Wan) (x : Wts) (w : World) (hvo : VoIn w sp p) (htp : Stb w [] (RdL tp.v tgt)) (hs : smallB p tgt 10 8 = true) (hE : beginE p tgt x ≠ 0) :
    Calls Tryz.prog 3 #[sp.v, tp.v, val x] w fun e w' => e = .returned (.bool true) ∧ Cl w [] [] w' := by
  have hvr : VoRd w sp p := small_vo hvo hs
  have hta := small_ta hs
  refine calls_cw (vs := [_, _, _]) Tryz.func3 rfl Tryz.ntmps3 rfl (Cl.start0 w) (cw_seq (cw_region ?_))
  refine sw_x rfl rfl rfl (e_box rfl rfl rfl) (fun b5 => ?_)
  refine sr rfl rfl rfl ((q_assign rfl rfl)) (sw_nil (post_then (cw_seq (cw_seq (cw_region (sr rfl rfl rfl ((q_move rfl rfl)) (sr rfl rfl rfl ((q_move rfl rfl)) (sw_step rfl rfl rfl (q_call (CanCall.mk Tryz.call17) rfl (.cons rfl inferInstance (.cons rfl inferInstance (.cons rfl inferInstance (.cons rfl inferInstance (.nil))))) (fun _ w hw => callq hw (small_spec sp tp p tgt 10 8 w (voIn_arg hw hvo) (stb_arg hw htp)))) (sr rfl rfl rfl ((q_not rfl rfl)) (sw_nil (post_then ?_)))))))))))
  rw [hs]
  refine cw_cond rfl (fun h => ?_) (fun h => ?_)
  · skip
    simp at h
  · skip
    clear h
    refine cw_skip (post_then (cw_seq (cw_region (sr rfl rfl rfl ((q_move rfl rfl)) (sr rfl rfl rfl ((q_move rfl rfl)) ?_)))))
    refine sr rfl rfl rfl ((q_loadA rfl rfl (by exact .head _) rfl)) ?_
    refine sw_x rfl rfl rfl (e_call (vf := fun _ : Unit => .tuple #[val (⟨⟨none, 0, 0⟩, 0, []⟩ : Sq), SlV.v ⟨none, 0, 0⟩, .int .i64 (beginE p tgt x)]) (CanCall.mk Tryz.call19) rfl (.cons rfl inferInstance (.cons rfl inferInstance (.cons rfl inferInstance (.nil)))) (fun w hw => choose_bad sp tp p tgt x w (hvr.arg hw) (stb_arg hw htp) hta hE)) (fun u => ?_)
    refine sw_imp fun _ => (sr rfl rfl rfl ((q_move rfl rfl)) (sr rfl rfl rfl ((q_extract rfl rfl rfl)) (sr rfl rfl rfl ((q_extract rfl rfl rfl)) (sr rfl rfl rfl ((q_extract rfl rfl rfl)) ?_))))
    refine sw_x rfl rfl rfl (e_alloc rfl) (fun b7 => ?_)
    refine sw_eff0 rfl rfl (e_store (i := 0) rfl rfl rfl rfl rfl rfl rfl rfl) (sr rfl rfl rfl ((q_assign rfl rfl)) (sr rfl rfl rfl ((q_assign rfl rfl)) (sw_nil (post_then (cw_seq (cw_seq (cw_region (sr rfl rfl rfl ((q_move rfl rfl)) (sr rfl rfl rfl ((q_move rfl rfl)) ?_)))))))))
    refine sr rfl rfl rfl ((q_loadA rfl rfl (by exact .tail _ (.head _)) rfl)) ?_
    refine sw_step rfl rfl rfl (q_call (CanCall.mk Tryz.call20) rfl (.cons rfl inferInstance (.cons rfl inferInstance (.cons rfl inferInstance (.nil)))) (fun _ w hw => callq hw (wrong_spec sp tp p tgt x w (hvr.arg hw) (stb_arg hw htp) hta))) (sr rfl rfl rfl ((q_assign rfl rfl)) (sw_nil (post_then (cw_seq (cw_region (sr rfl rfl rfl ((q_move rfl rfl)) (sr rfl rfl rfl ((q_neq rfl rfl rfl)) (sw_nil (post_then ?_)))))))))
    refine cw_cond rfl (fun h2 => ?_) (fun h2 => ?_)
    · skip
      refine cw_seq (cw_region (sr rfl rfl rfl ((q_move rfl rfl)) (sr rfl rfl rfl ((q_move rfl rfl)) (sr rfl rfl rfl ((q_eql rfl rfl rfl)) (sr rfl rfl rfl ((q_move rfl rfl)) (sr rfl rfl rfl ((q_fieldAddr rfl rfl)) ?_))))))
      refine sr rfl rfl rfl ((q_loadC rfl rfl (by exact .head _) rfl)) ?_
      refine sr rfl rfl rfl ((q_lenV rfl (.cons rfl inferInstance (.nil)))) (sr rfl rfl rfl ((q_eql rfl rfl rfl)) (sr rfl rfl rfl ((q_and2 rfl rfl rfl)) (sr rfl rfl rfl ((q_move rfl rfl)) (sr rfl rfl rfl ((q_fieldAddr rfl rfl)) ?_))))
      refine sr rfl rfl rfl ((q_loadC rfl rfl (by exact .head _) rfl)) ?_
      refine sr rfl rfl rfl ((q_eql rfl rfl rfl)) (sr rfl rfl rfl ((q_and2 rfl rfl rfl)) (sr rfl rfl rfl ((q_move rfl rfl)) (sr rfl rfl rfl ((q_move rfl rfl)) (sr rfl rfl rfl ((q_lenV rfl (.cons rfl inferInstance (.nil)))) (sr rfl rfl rfl ((q_eql rfl rfl rfl)) (sr rfl rfl rfl ((q_and2 rfl rfl rfl)) (sr rfl rfl rfl ((q_move rfl rfl)) (sw_step rfl rfl rfl (q_call (CanCall.mk Tryz.call18) rfl (.nil) (fun _ w hw => callq hw (known_spec w))) (sr rfl rfl rfl ((q_and2 rfl rfl rfl)) (sr rfl rfl rfl ((q_assign rfl rfl)) (sw_nil (post_then (cw_ret (post_then_r (post_ret1 rfl (resOk_tmp rfl) ?_)))))))))))))))
      exact fun w' hw => ⟨by simp, (fun w h => Cl.sel (by exact .nil _) w h) _ hw⟩
    · skip
      simp only [Bool.not_eq_false', decide_eq_true_eq] at h2
      exact absurd h2 hE
theorem lawChooses_none (sp tp : SlV) (p : List Un) (tgt : List Wan) (x : Wts) (w : World) (hvo : VoIn w sp p) (htp : Stb w [] (RdL tp.v tgt)) (hs : smallB p tgt 10 8 = true) (hE : beginE p tgt x = 0) (hP : possP p tgt = false) :
    Calls Tryz.prog 3 #[sp.v, tp.v, val x] w fun e w' => e = .returned (.bool true) ∧ Cl w [] [] w' := by
  have hvr : VoRd w sp p := small_vo hvo hs
  have hta := small_ta hs
  refine calls_cw (vs := [_, _, _]) Tryz.func3 rfl Tryz.ntmps3 rfl (Cl.start0 w) (cw_seq (cw_region ?_))
  refine sw_x rfl rfl rfl (e_box rfl rfl rfl) (fun b5 => ?_)
  refine sr rfl rfl rfl ((q_assign rfl rfl)) (sw_nil (post_then (cw_seq (cw_seq (cw_region (sr rfl rfl rfl ((q_move rfl rfl)) (sr rfl rfl rfl ((q_move rfl rfl)) (sw_step rfl rfl rfl (q_call (CanCall.mk Tryz.call17) rfl (.cons rfl inferInstance (.cons rfl inferInstance (.cons rfl inferInstance (.cons rfl inferInstance (.nil))))) (fun _ w hw => callq hw (small_spec sp tp p tgt 10 8 w (voIn_arg hw hvo) (stb_arg hw htp)))) (sr rfl rfl rfl ((q_not rfl rfl)) (sw_nil (post_then ?_)))))))))))
  rw [hs]
  refine cw_cond rfl (fun h => ?_) (fun h => ?_)
  · skip
    simp at h
  · skip
    clear h
    refine cw_skip (post_then (cw_seq (cw_region (sr rfl rfl rfl ((q_move rfl rfl)) (sr rfl rfl rfl ((q_move rfl rfl)) ?_)))))
    refine sr rfl rfl rfl ((q_loadA rfl rfl (by exact .head _) rfl)) ?_
    refine sw_x rfl rfl rfl (e_call (vf := fun _ : Unit => .tuple #[val (⟨⟨none, 0, 0⟩, 0, []⟩ : Sq), SlV.v ⟨none, 0, 0⟩, .int .i64 5]) (CanCall.mk Tryz.call19) rfl (.cons rfl inferInstance (.cons rfl inferInstance (.cons rfl inferInstance (.nil)))) (fun w hw => choose_none sp tp p tgt x w (hvr.arg hw) (stb_arg hw htp) hta hE hP)) (fun u => ?_)
    refine sw_imp fun _ => (sr rfl rfl rfl ((q_move rfl rfl)) (sr rfl rfl rfl ((q_extract rfl rfl rfl)) (sr rfl rfl rfl ((q_extract rfl rfl rfl)) (sr rfl rfl rfl ((q_extract rfl rfl rfl)) ?_))))
    refine sw_x rfl rfl rfl (e_alloc rfl) (fun b7 => ?_)
    refine sw_eff0 rfl rfl (e_store (i := 0) rfl rfl rfl rfl rfl rfl rfl rfl) (sr rfl rfl rfl ((q_assign rfl rfl)) (sr rfl rfl rfl ((q_assign rfl rfl)) (sw_nil (post_then (cw_seq (cw_seq (cw_region (sr rfl rfl rfl ((q_move rfl rfl)) (sr rfl rfl rfl ((q_move rfl rfl)) ?_)))))))))
    refine sr rfl rfl rfl ((q_loadA rfl rfl (by exact .tail _ (.head _)) rfl)) ?_
    refine sw_step rfl rfl rfl (q_call (CanCall.mk Tryz.call20) rfl (.cons rfl inferInstance (.cons rfl inferInstance (.cons rfl inferInstance (.nil)))) (fun _ w hw => callq hw (wrong_spec sp tp p tgt x w (hvr.arg hw) (stb_arg hw htp) hta))) (sr rfl rfl rfl ((q_assign rfl rfl)) (sw_nil (post_then (cw_seq (cw_region (sr rfl rfl rfl ((q_move rfl rfl)) (sr rfl rfl rfl ((q_neq rfl rfl rfl)) (sw_nil (post_then ?_)))))))))
    rw [hE]
    refine cw_cond rfl (fun h2 => ?_) (fun h2 => ?_)
    · skip
      simp at h2
    · skip
      clear h2
      refine cw_skip (post_then (cw_seq (cw_region (sr rfl rfl rfl ((q_move rfl rfl)) (sr rfl rfl rfl ((q_move rfl rfl)) ?_)))))
      refine sr rfl rfl rfl ((q_loadA rfl rfl (by exact .tail _ (.head _)) rfl)) ?_
      refine sw_x rfl rfl rfl (e_call (CanCall.mk Tryz.call21) rfl (.cons rfl inferInstance (.cons rfl inferInstance (.cons rfl inferInstance (.nil)))) (fun w hw => refCert_spec sp tp p tgt x w (hvr.arg hw) (stb_arg hw htp) hE)) (fun y => ?_)
      refine sw_imp fun _ => ?_
      rw [hP, if_neg (by simp)]
      refine sr rfl rfl rfl ((q_move rfl rfl)) (sr rfl rfl rfl ((q_extract rfl rfl rfl)) (sr rfl rfl rfl ((q_extract rfl rfl rfl)) (sr rfl rfl rfl ((q_assign rfl rfl)) (sr rfl rfl rfl ((q_assign rfl rfl)) (sw_nil (post_then (cw_seq (cw_seq (cw_region (sr rfl rfl rfl ((q_move rfl rfl)) (sr rfl rfl rfl ((q_not rfl rfl)) (sw_nil (post_then ?_)))))))))))))
      refine cw_cond rfl (fun h3 => ?_) (fun h3 => ?_)
      · skip
        refine cw_seq (cw_region (sr rfl rfl rfl ((q_move rfl rfl)) (sr rfl rfl rfl ((q_eql rfl rfl rfl)) (sr rfl rfl rfl ((q_move rfl rfl)) (sr rfl rfl rfl ((q_fieldAddr rfl rfl)) ?_)))))
        refine sr rfl rfl rfl ((q_loadC rfl rfl (by exact .head _) rfl)) ?_
        refine sr rfl rfl rfl ((q_lenV rfl (.cons rfl inferInstance (.nil)))) (sr rfl rfl rfl ((q_eql rfl rfl rfl)) (sr rfl rfl rfl ((q_and2 rfl rfl rfl)) (sr rfl rfl rfl ((q_move rfl rfl)) (sr rfl rfl rfl ((q_fieldAddr rfl rfl)) ?_))))
        refine sr rfl rfl rfl ((q_loadC rfl rfl (by exact .head _) rfl)) ?_
        refine sr rfl rfl rfl ((q_eql rfl rfl rfl)) (sr rfl rfl rfl ((q_and2 rfl rfl rfl)) (sr rfl rfl rfl ((q_move rfl rfl)) (sr rfl rfl rfl ((q_move rfl rfl)) (sr rfl rfl rfl ((q_lenV rfl (.cons rfl inferInstance (.nil)))) (sr rfl rfl rfl ((q_eql rfl rfl rfl)) (sr rfl rfl rfl ((q_and2 rfl rfl rfl)) (sr rfl rfl rfl ((q_move rfl rfl)) (sw_step rfl rfl rfl (q_call (CanCall.mk Tryz.call18) rfl (.nil) (fun _ w hw => callq hw (known_spec w))) (sr rfl rfl rfl ((q_and2 rfl rfl rfl)) (sr rfl rfl rfl ((q_assign rfl rfl)) (sw_nil (post_then (cw_ret (post_then_r (post_ret1 rfl (resOk_tmp rfl) ?_)))))))))))))))
        exact fun w' hw => ⟨by simp, (fun w h => Cl.sel (by exact .nil _) w h) _ hw⟩
      · skip
        simp at h3
theorem lawChooses_yes (sp tp : SlV) (p : List Un) (tgt : List Wan) (x : Wts) (w : World) (hvo : VoIn w sp p) (htp : Stb w [] (RdL tp.v tgt)) (hs : smallB p tgt 10 8 = true) (hE : beginE p tgt x = 0) (hP : possP p tgt = true) :
    Calls Tryz.prog 3 #[sp.v, tp.v, val x] w fun e w' => e = .returned (.bool true) ∧ Cl w [] [] w' := by
  have hvr : VoRd w sp p := small_vo hvo hs
  have hta := small_ta hs
  obtain ⟨n1, n2, n3, n4⟩ := small_n hs
  obtain ⟨m1, m2, -⟩ := beginE_ok hE
  have hbig : (p.length + 1) ^ tgt.length ≤ 500000000 := small_pow (a := 10) (b := 8) (by omega) (by omega) (by omega) (by omega)
  refine calls_cw (vs := [_, _, _]) Tryz.func3 rfl Tryz.ntmps3 rfl (Cl.start0 w) (cw_seq (cw_region ?_))
  refine sw_x rfl rfl rfl (e_box rfl rfl rfl) (fun b5 => ?_)
  refine sr rfl rfl rfl ((q_assign rfl rfl)) (sw_nil (post_then (cw_seq (cw_seq (cw_region (sr rfl rfl rfl ((q_move rfl rfl)) (sr rfl rfl rfl ((q_move rfl rfl)) (sw_step rfl rfl rfl (q_call (CanCall.mk Tryz.call17) rfl (.cons rfl inferInstance (.cons rfl inferInstance (.cons rfl inferInstance (.cons rfl inferInstance (.nil))))) (fun _ w hw => callq hw (small_spec sp tp p tgt 10 8 w (voIn_arg hw hvo) (stb_arg hw htp)))) (sr rfl rfl rfl ((q_not rfl rfl)) (sw_nil (post_then ?_)))))))))))
  rw [hs]
  refine cw_cond rfl (fun h => ?_) (fun h => ?_)
  · skip
    simp at h
  · skip
    clear h
    refine cw_skip (post_then (cw_seq (cw_region (sr rfl rfl rfl ((q_move rfl rfl)) (sr rfl rfl rfl ((q_move rfl rfl)) ?_)))))
    refine sr rfl rfl rfl ((q_loadA rfl rfl (by exact .head _) rfl)) ?_
    refine sw_x rfl rfl rfl (e_call (CanCall.mk Tryz.call19) rfl (.cons rfl inferInstance (.cons rfl inferInstance (.cons rfl inferInstance (.nil)))) (fun w hw => choose_yes sp tp p tgt x w (hvr.arg hw) (stb_arg hw htp) hta hE hP hbig)) (fun y => ?_)
    refine sw_imp fun hy => ?_
    obtain ⟨⟨so, sc⟩, ⟨cells, q⟩⟩ := y
    dsimp only at hy ⊢
    obtain ⟨hT, hB⟩ := hy
    obtain ⟨hB1, hB2⟩ := best_gr hE hP hB
    refine sr rfl rfl rfl ((q_move rfl rfl)) (sr rfl rfl rfl ((q_extract rfl rfl rfl)) (sr rfl rfl rfl ((q_extract rfl rfl rfl)) (sr rfl rfl rfl ((q_extract rfl rfl rfl)) ?_)))
    refine sw_x rfl rfl rfl (e_alloc rfl) (fun b7 => ?_)
    refine sw_eff0 rfl rfl (e_store (i := 0) rfl rfl rfl rfl rfl rfl rfl rfl) (sr rfl rfl rfl ((q_assign rfl rfl)) (sr rfl rfl rfl ((q_assign rfl rfl)) (sw_nil (post_then (cw_seq (cw_seq (cw_region (sr rfl rfl rfl ((q_move rfl rfl)) (sr rfl rfl rfl ((q_move rfl rfl)) ?_)))))))))
    refine sr rfl rfl rfl ((q_loadA rfl rfl (by exact .tail _ (.tail _ (.tail _ (.tail _ (.head _))))) rfl)) ?_
    refine sw_step rfl rfl rfl (q_call (CanCall.mk Tryz.call20) rfl (.cons rfl inferInstance (.cons rfl inferInstance (.cons rfl inferInstance (.nil)))) (fun _ w hw => callq hw (wrong_spec sp tp p tgt x w (hvr.arg hw) (stb_arg hw htp) hta))) (sr rfl rfl rfl ((q_assign rfl rfl)) (sw_nil (post_then (cw_seq (cw_region (sr rfl rfl rfl ((q_move rfl rfl)) (sr rfl rfl rfl ((q_neq rfl rfl rfl)) (sw_nil (post_then ?_)))))))))
    rw [hE]
    refine cw_cond rfl (fun h2 => ?_) (fun h2 => ?_)
    · skip
      simp at h2
    · skip
      clear h2
      refine cw_skip (post_then (cw_seq (cw_region (sr rfl rfl rfl ((q_move rfl rfl)) (sr rfl rfl rfl ((q_move rfl rfl)) ?_)))))
      refine sr rfl rfl rfl ((q_loadA rfl rfl (by exact .tail _ (.tail _ (.tail _ (.tail _ (.head _))))) rfl)) ?_
      refine sw_x rfl rfl rfl (e_call (CanCall.mk Tryz.call21) rfl (.cons rfl inferInstance (.cons rfl inferInstance (.cons rfl inferInstance (.nil)))) (fun w hw => refCert_spec sp tp p tgt x w (hvr.arg hw) (stb_arg hw htp) hE)) (fun z => ?_)
      refine sw_imp fun hz => ?_
      obtain ⟨sg, G⟩ := z
      dsimp only at hz ⊢
      have hz := hz hP
      obtain ⟨hGl, hGm⟩ := rows_mem hz
      rw [hP, if_pos rfl]
      refine sw_le (C' := Cl w [] (blk b7 (enc q) 30 :: ownL 28 so.v (rowsTo sc p.length tgt.length tgt.length) :: ownL 3 sc.v cells :: ownL 3 q.us.v q.ul :: blk b5 (enc x) 25 :: ownL 28 sg.v (G.map Prod.fst) :: G.map rowG)) (fun w' h => h.perm (List.perm_append_comm (l₂ := [blk b7 (enc q) 30, ownL 28 so.v (rowsTo sc p.length tgt.length tgt.length), ownL 3 sc.v cells, ownL 3 q.us.v q.ul, blk b5 (enc x) 25]))) (sr rfl rfl rfl ((q_move rfl rfl)) (sr rfl rfl rfl ((q_extract rfl rfl rfl)) (sr rfl rfl rfl ((q_extract rfl rfl rfl)) (sr rfl rfl rfl ((q_assign rfl rfl)) (sr rfl rfl rfl ((q_assign rfl rfl)) (sw_nil (post_then (cw_seq (cw_seq (cw_region (sr rfl rfl rfl ((q_move rfl rfl)) (sr rfl rfl rfl ((q_not rfl rfl)) (sw_nil (post_then ?_))))))))))))))
      refine cw_cond rfl (fun h3 => ?_) (fun h3 => ?_)
      · skip
        simp at h3
      · skip
        clear h3
        refine cw_skip (post_then (cw_seq (cw_region (sr rfl rfl rfl ((q_move rfl rfl)) (sr rfl rfl rfl ((q_move rfl rfl)) ?_)))))
        refine sr rfl rfl rfl ((q_loadA rfl rfl (by exact .tail _ (.tail _ (.tail _ (.tail _ (.head _))))) rfl)) ?_
        refine sr rfl rfl rfl ((q_move rfl rfl)) ?_
        refine sw_x rfl rfl rfl (e_call (CanCall.mk Tryz.call22) rfl (.cons rfl inferInstance (.cons rfl inferInstance (.cons rfl inferInstance (.cons rfl inferInstance (.nil))))) (fun w hw => refChoose_spec sp tp sg p tgt x (G.map Prod.fst) (by simpa using hGl) w (hvr.arg hw) (stb_arg hw htp) (stb_own (e := 28) hw (by exact .tail _ (.tail _ (.tail _ (.tail _ (.tail _ (.head _))))))) (fun i hi => stb_own (e := 3) hw (.tail _ (.tail _ (.tail _ (.tail _ (.tail _ (.tail _ (hGm i hi)))))))) hE hP)) (fun q2 => ?_)
        refine sw_imp fun hq2 => ?_
        obtain ⟨hq1, hq2⟩ := hq2
        have e1 : q.ul = q2.ul := hB1.trans hq1.symm
        have e2 : q.cost = q2.cost := hB2.trans hq2.symm
        refine sw_x rfl rfl rfl (e_alloc rfl) (fun b13 => ?_)
        refine sw_eff0 rfl rfl (e_store (i := 0) rfl rfl rfl rfl rfl rfl rfl rfl) (sw_nil (post_then (cw_seq (cw_region (sr rfl rfl rfl ((q_move rfl rfl)) (sr rfl rfl rfl ((q_eql rfl rfl rfl)) (sr rfl rfl rfl ((q_move rfl rfl)) (sr rfl rfl rfl ((q_fieldAddr rfl rfl)) ?_))))))))
        refine sr rfl rfl rfl ((q_loadC rfl rfl (by exact .tail _ (.tail _ (.head _))) rfl)) ?_
        refine sr rfl rfl rfl ((q_fieldAddr rfl rfl)) ?_
        refine sr rfl rfl rfl ((q_loadC rfl rfl (by exact .head _) rfl)) ?_
        refine sw_step rfl rfl rfl (q_call (CanCall.mk Tryz.call23) rfl (.cons rfl inferInstance (.cons rfl inferInstance (.nil))) (fun _ w hw => callq hw (same_true _ _ q.ul q2.ul e1 w (stb_own (e := 3) hw (by exact .tail _ (.tail _ (.tail _ (.tail _ (.tail _ (.head _))))))) (stb_own (e := 3) hw (by exact .tail _ (.head _)))))) ?_
        refine sr rfl rfl rfl ((q_and2 rfl rfl rfl)) (sr rfl rfl rfl ((q_move rfl rfl)) (sr rfl rfl rfl ((q_fieldAddr rfl rfl)) ?_))
        refine sr rfl rfl rfl ((q_loadC rfl rfl (by exact .tail _ (.tail _ (.head _))) rfl)) ?_
        refine sr rfl rfl rfl ((q_fieldAddr rfl rfl)) ?_
        refine sr rfl rfl rfl ((q_loadC rfl rfl (by exact .head _) rfl)) ?_
        refine sr rfl rfl rfl ((q_eql rfl rfl rfl)) (sr rfl rfl rfl ((q_and2 rfl rfl rfl)) (sr rfl rfl rfl ((q_move rfl rfl)) (sr rfl rfl rfl ((q_move rfl rfl)) (sr rfl rfl rfl ((q_move rfl rfl)) ?_))))
        refine sw_step rfl rfl rfl (q_call (CanCall.mk Tryz.call24) rfl (.cons rfl inferInstance (.cons rfl inferInstance (.nil))) (fun _ w hw => callq hw (sameL_true _ _ (rowsTo sc p.length tgt.length tgt.length) (G.map Prod.fst) (rowsR p tgt x) (rowsR p tgt x) rfl w (mt_cells hT (stb_own (e := 28) hw (by exact .tail _ (.tail _ (.tail _ (.head _))))) (stb_own (e := 3) hw (by exact .tail _ (.tail _ (.tail _ (.tail _ (.head _))))))) (mt_own hw (e := 28) (by exact .tail _ (.tail _ (.tail _ (.tail _ (.tail _ (.tail _ (.tail _ (.head _)))))))) (by rw [rowsR_len, List.length_map]; exact hGl) (fun i hi => ⟨3, by rw [rowsR_len] at hi; rw [rowsR_nth hi]; exact .tail _ (.tail _ (.tail _ (.tail _ (.tail _ (.tail _ (.tail _ (.tail _ (hGm i hi))))))))⟩))))) ?_
        refine sr rfl rfl rfl ((q_and2 rfl rfl rfl)) (sr rfl rfl rfl ((q_move rfl rfl)) (sw_step rfl rfl rfl (q_call (CanCall.mk Tryz.call18) rfl (.nil) (fun _ w hw => callq hw (known_spec w))) (sr rfl rfl rfl ((q_and2 rfl rfl rfl)) (sr rfl rfl rfl ((q_assign rfl rfl)) (sw_nil (post_then (cw_ret (post_ret1 rfl (resOk_tmp rfl) ?_))))))))
        exact fun w' hw => ⟨by rw [e2]; simp, cl_drop (F := []) hw⟩
theorem lawChooses (sp tp : SlV) (p : List Un) (tgt : List Wan) (x : Wts) (w : World) (hvo : VoIn w sp p) (htp : Stb w [] (RdL tp.v tgt)) :
    Calls Tryz.prog 3 #[sp.v, tp.v, val x] w fun e w' => e = .returned (.bool true) ∧ Cl w [] [] w' := by
  cases hs : smallB p tgt 10 8
  · exact lawChooses_out sp tp p tgt x w hvo htp hs
  · by_cases hE : beginE p tgt x = 0
    · cases hP : possP p tgt
      · exact lawChooses_none sp tp p tgt x w hvo htp hs hE hP
      · exact lawChooses_yes sp tp p tgt x w hvo htp hs hE hP
    · exact lawChooses_bad sp tp p tgt x w hvo htp hs hE
end Go.Proofs.YtomjbfeafodfbaaGreat

set_option autoImplicit false
set_option maxRecDepth 100000
namespace Go.Proofs.YtomjbfeafodfbaaGreat
open Go.Sx
open Enc (enc val)
theorem numB_of {v : Int} (h : 0 ≤ v ∧ v ≤ 1125899906842624) : numB v = true := by simp only [numB, Bool.and_eq_true, decide_eq_true_eq]; omega
theorem rowsR_tame {p : List Un} {tgt : List Wan} {x : Wts} (hE : beginE p tgt x = 0) (hP : possP p tgt = true) (hp : p.length ≤ 10) (htl : tgt.length ≤ 8) : tameB (rowsR p tgt x) = true := by
  have h1 : (rowsR p tgt x).all tameR = true := List.all_eq_true.2 fun r hr => by
    obtain ⟨i, hi, rfl⟩ := List.getElem_of_mem hr
    rw [rowsR_len] at hi
    have e : (rowsR p tgt x)[i]'(by rw [rowsR_len]; exact hi) = rowR p tgt x i p.length := by rw [← nth_get, rowsR_nth hi]
    rw [e]
    have h2 : (rowR p tgt x i p.length).all numB = true := List.all_eq_true.2 fun v hv => by
      obtain ⟨u, hu, rfl⟩ := List.getElem_of_mem hv
      rw [rowR_len] at hu
      rw [← nth_get (by rw [rowR_len]; exact hu), rowR_nth hu]
      split
      · have := tsk_R hE (tgt.length - i) i (by omega) (by omega) (fun j a b => poss_at hP b) u hu
        exact numB_of ⟨this.1, by omega⟩
      · exact numB_of (by omega)
    simp only [tameR, rowR_len, h2, Bool.and_true, decide_eq_true_eq]
    omega
  simp only [tameB, rowsR_len, h1, Bool.and_true, decide_eq_true_eq]
  omega
theorem own_cF {p : List Un} {tgt : List Wan} {x : Wts} : ∀ i, i < (tsk p tgt x).T → ∀ u ∈ (tsk p tgt x).us i, cF (rowsR p tgt x) i u = (tsk p tgt x).R ((tsk p tgt x).T - i) u := fun i hi u hu => by
  have hi' : i < tgt.length := hi
  obtain ⟨q, rfl, hq⟩ := us_nat hu
  rw [cF, rowsR_nth hi', Int.toNat_natCast, rowR_nth hq, if_pos ⟨hq, hu⟩]
  rfl
theorem own_rows {p : List Un} {tgt : List Wan} {x : Wts} : (rowsR p tgt x).length = tgt.length ∧ ∀ r ∈ rowsR p tgt x, r.length = p.length := ⟨rowsR_len p tgt x, fun r hr => by
  simp only [rowsR, List.mem_map] at hr
  obtain ⟨i, _, rfl⟩ := hr
  exact rowR_len p tgt x i p.length⟩
theorem tsk_fits {p : List Un} {tgt : List Wan} {x : Wts} (hE : beginE p tgt x = 0) (hP : possP p tgt = true) : (tsk p tgt x).Fits := ⟨fun i hi => poss_at hP hi, fun i u v hi hu hv => by
  have hi' : i + 1 < tgt.length := hi
  obtain ⟨a, rfl, ha⟩ := us_nat hu
  obtain ⟨b, rfl, hb⟩ := us_nat hv
  have h1 := (tsk_bd hE).2 a b ha hb
  have h2 := tsk_R hE (tgt.length - (i + 1)) (i + 1) (by omega) (by omega) (fun j _ h => poss_at hP h) b hb
  have h3 := (beginE_ok hE).2.1
  have eT : (tsk p tgt x).T = tgt.length := rfl
  rw [eT]
  omega⟩
set_option maxHeartbeats 2000000 in
theorem lawProved (sp tp sc : SlV) (p : List Un) (tgt : List Wan) (x : Wts) (cost : Int) (vs : List SlV) (ls : List (List Int)) (w : World) (hvo : VoIn w sp p) (htp : Stb w [] (RdL tp.v tgt)) (hm : Stb w [] (fun w' => Mt w' sc.v vs ls)) :
    Calls Tryz.prog 12 #[sp.v, tp.v, val x, .int .i64 cost, sc.v] w fun e w' => e = .returned (.bool true) ∧ Cl w [] [] w' := by
  refine calls_cw (vs := [_, _, _, _, _]) Tryz.func12 rfl Tryz.ntmps12 rfl (Cl.start0 w) (cw_seq (cw_region ?_))
  refine sw_x rfl rfl rfl (e_box rfl rfl rfl) (fun b7 => ?_)
  refine sr rfl rfl rfl ((q_assign rfl rfl)) (sw_nil (post_then (cw_seq (cw_seq (cw_region (sr rfl rfl rfl ((q_move rfl rfl)) (sr rfl rfl rfl ((q_move rfl rfl)) (sw_step rfl rfl rfl (q_call (CanCall.mk Tryz.call17) rfl (.cons rfl inferInstance (.cons rfl inferInstance (.cons rfl inferInstance (.cons rfl inferInstance (.nil))))) (fun _ w hw => callq hw (small_spec sp tp p tgt 10 8 w (voIn_arg hw hvo) (stb_arg hw htp)))) (sr rfl rfl rfl ((q_not rfl rfl)) (sr rfl rfl rfl ((q_move rfl rfl)) (sr rfl rfl rfl ((q_move rfl rfl)) (sw_step rfl rfl rfl (q_call (CanCall.mk Tryz.call52) rfl (.cons rfl inferInstance (.nil)) (fun _ w hw => callq hw (tame_spec sc vs ls w (stb_arg hw hm)))) (sr rfl rfl rfl ((q_not rfl rfl)) (sr rfl rfl rfl ((q_or2 rfl rfl rfl)) (sr rfl rfl rfl ((q_move rfl rfl)) (sr rfl rfl rfl ((q_move rfl rfl)) (sr rfl rfl rfl ((q_move rfl rfl)) ?_)))))))))))))))))
  refine sr rfl rfl rfl ((q_loadA rfl rfl (by exact .head _) rfl)) ?_
  refine sw_step rfl rfl rfl (q_call (CanCall.mk Tryz.call20) rfl (.cons rfl inferInstance (.cons rfl inferInstance (.cons rfl inferInstance (.nil)))) (fun hc w hw => callq hw (wrong_spec sp tp p tgt x w ((small_vo hvo (by simp [AllT] at hc; exact hc.1)).arg hw) (stb_arg hw htp) (small_ta (p := p) (mu := 10) (mt := 8) (by simp [AllT] at hc; exact hc.1))))) ?_
  refine sr rfl rfl rfl ((q_neq rfl rfl rfl)) (sr rfl rfl rfl ((q_or2 rfl rfl rfl)) (sr rfl rfl rfl ((q_move rfl rfl)) (sr rfl rfl rfl ((q_move rfl rfl)) (sr rfl rfl rfl ((q_move rfl rfl)) ?_))))
  refine sw_step rfl rfl rfl (q_call (CanCall.mk Tryz.call25) rfl (.cons rfl inferInstance (.cons rfl inferInstance (.cons rfl inferInstance (.nil)))) (fun hc w hw => callq hw (few_spec sp tp p tgt w (beginE_ok (p := p) (tgt := tgt) (x := x) (by simp [AllT] at hc; exact hc.2)).1 (stb_arg hw (rd_stb hvo.l)) (stb_arg hw htp)))) ?_
  refine sr rfl rfl rfl ((q_not rfl rfl)) (sr rfl rfl rfl ((q_or2 rfl rfl rfl)) (sw_nil (post_then ?_)))
  refine cw_cond rfl (fun h => ?_) (fun h => ?_)
  · skip
    refine cw_seq (cw_region (sw_step rfl rfl rfl (q_call (CanCall.mk Tryz.call18) rfl (.nil) (fun _ w hw => callq hw (known_spec w))) (sr rfl rfl rfl ((q_assign rfl rfl)) (sw_nil (post_then (cw_ret (post_then_r (post_ret1 rfl (resOk_tmp rfl) ?_))))))))
    exact fun w' hw => ⟨rfl, (fun w h => Cl.sel (by exact .nil _) w h) _ hw⟩
  · skip
    simp only [Bool.or_eq_false_iff, Bool.not_eq_false', decide_eq_true_eq] at h
    obtain ⟨⟨⟨hs, ht⟩, hE⟩, hfew⟩ := h
    have hvr : VoRd w sp p := small_vo hvo hs
    have hta := small_ta hs
    obtain ⟨n1, n2, n3, n4⟩ := small_n hs
    obtain ⟨m1, m2, -⟩ := beginE_ok hE
    have hbig : (p.length + 1) ^ tgt.length ≤ 500000000 := small_pw (a := 10) (b := 8) (by omega) (by omega) (by omega) (by omega)
    refine cw_skip (post_then (cw_seq (cw_region (sr rfl rfl rfl ((q_move rfl rfl)) (sr rfl rfl rfl ((q_move rfl rfl)) ?_)))))
    refine sr rfl rfl rfl ((q_loadA rfl rfl (by exact .head _) rfl)) ?_
    refine sw_x rfl rfl rfl (e_call (CanCall.mk Tryz.call27) rfl (.cons rfl inferInstance (.cons rfl inferInstance (.cons rfl inferInstance (.nil)))) (fun w hw => refSeqs_spec sp tp p tgt x w (hvr.arg hw) (stb_arg hw htp) hE hfew)) (fun z => ?_)
    refine sw_imp fun hz => ?_
    obtain ⟨sa, ⟨O, L⟩⟩ := z
    dsimp only at hz ⊢
    obtain ⟨hall, hmem⟩ := hz
    refine sw_le (C' := Cl w [] (blk b7 (enc x) 25 :: ownL 30 sa.v O :: L.map rowG)) (fun w' h => h.perm (List.perm_append_comm (l₁ := ownL 30 sa.v O :: L.map rowG) (l₂ := [blk b7 (enc x) 25]))) (sr rfl rfl rfl ((q_assign rfl rfl)) (sw_nil (post_then (cw_seq (cw_seq (cw_region (sr rfl rfl rfl ((q_move rfl rfl)) (sr rfl rfl rfl ((q_move rfl rfl)) ?_))))))))
    refine sr rfl rfl rfl ((q_loadA rfl rfl (by exact .head _) rfl)) ?_
    refine sr rfl rfl rfl ((q_move rfl rfl)) (sr rfl rfl rfl ((q_move rfl rfl)) (sw_step rfl rfl rfl (q_call (CanCall.mk Tryz.call54) rfl (.cons rfl inferInstance (.cons rfl inferInstance (.cons rfl inferInstance (.cons rfl inferInstance (.cons rfl inferInstance (.nil)))))) (fun _ w hw => callq hw (verify_ok sp tp sc p tgt x cost vs ls w (hvr.arg hw) (stb_arg hw htp) hta (stb_arg hw hm) hE ht))) (sr rfl rfl rfl ((q_move rfl rfl)) (sr rfl rfl rfl ((q_move rfl rfl)) ?_))))
    refine sr rfl rfl rfl ((q_len rfl (.cons rfl inferInstance (.nil)) (by exact fun w hw => rd_own hw (by exact .tail _ (.head _))))) ?_
    refine sr rfl rfl rfl ((q_eql rfl rfl rfl)) (sr rfl rfl rfl ((q_move rfl rfl)) (sr rfl rfl rfl ((q_move rfl rfl)) ?_))
    refine sr rfl rfl rfl ((q_indexN rfl rfl rfl (by exact fun w hw => rd_own hw (by exact .tail _ (.head _))) (by intro hc; (simp only [AllT.iff, List.all_cons, List.all_nil, id, Bool.and_eq_true, Bool.not_eq_true', decide_eq_true_eq, decide_eq_false_iff_not, and_true] at hc; (simp only [List.length_set, List.length_append, List.length_cons, List.length_nil, List.length_replicate, List.length_take, List.length_drop, List.length_map]; omega))))) ?_
    refine sr rfl rfl rfl ((q_fieldEl rfl rfl (by exact fun w hw => rd_own hw (by exact .tail _ (.head _))) (by intro hc; (simp only [AllT.iff, List.all_cons, List.all_nil, id, Bool.and_eq_true, Bool.not_eq_true', decide_eq_true_eq, decide_eq_false_iff_not, and_true] at hc; (simp only [List.length_set, List.length_append, List.length_cons, List.length_nil, List.length_replicate, List.length_take, List.length_drop, List.length_map]; omega))))) ?_
    refine sr rfl rfl rfl ((q_loadF rfl rfl rfl (by exact fun w hw => rd_own hw (by exact .tail _ (.head _))) (by intro hc; (simp only [AllT.iff, List.all_cons, List.all_nil, id, Bool.and_eq_true, Bool.not_eq_true', decide_eq_true_eq, decide_eq_false_iff_not, and_true] at hc; (simp only [List.length_set, List.length_append, List.length_cons, List.length_nil, List.length_replicate, List.length_take, List.length_drop, List.length_map]; omega))) rfl)) ?_
    refine sr rfl rfl rfl ((q_move rfl rfl)) (sr rfl rfl rfl ((q_lss rfl rfl rfl)) (sr rfl rfl rfl ((q_or2 rfl rfl rfl)) (sr rfl rfl rfl ((q_and2 rfl rfl rfl)) (sw_nil (post_then ?_)))))
    have hcost : ∀ i, i < O.length → (nth O i).ul ∈ (tsk p tgt x).tl tgt.length ∧ (nth O i).cost = (tsk p tgt x).tc 0 (nth O i).ul := fun i hi => by
      have h1 := hall.2.mem_iff.1 (List.mem_map_of_mem (f := keyS) (nth_mem hi))
      obtain ⟨s, h2, h3⟩ := List.mem_map.1 h1
      simp only [keyS, Prod.mk.injEq] at h3
      rw [← h3.1, ← h3.2]
      exact ⟨h2, rfl⟩
    refine cw_cond rfl (fun h1 => ?_) (fun h1 => ?_)
    · skip
      exfalso
      simp only [Bool.and_eq_true, Bool.or_eq_true, decide_eq_true_eq] at h1
      have hh := holdB_iff.1 h1.1
      have hP : possP p tgt = true := poss_of hh.2.some
      have hne := poss_ne (x := x) hP
      have hO0 : O.length ≠ 0 := fun h0 => by
        have := hall.2.length_eq
        rw [List.eq_nil_of_length_eq_zero h0] at this
        simp only [List.map_nil, List.length_nil, List.length_map] at this
        exact hne (List.eq_nil_of_length_eq_zero this.symm)
      obtain ⟨k1, k2⟩ := hcost 0 (by omega)
      have k3 := hh.2.all _ k1
      rcases h1.2 with h5 | h5
      · omega
      · omega
    · skip
      refine cw_skip (post_then (cw_seq (cw_region (sr rfl rfl rfl ((q_move rfl rfl)) (sr rfl rfl rfl ((q_move rfl rfl)) ?_)))))
      refine sr rfl rfl rfl ((q_loadA rfl rfl (by exact .head _) rfl)) ?_
      cases hP : possP p tgt
      · refine sw_x rfl rfl rfl (e_call (vf := fun _ : Unit => .tuple #[val (⟨⟨none, 0, 0⟩, 0, []⟩ : Sq), SlV.v ⟨none, 0, 0⟩, .int .i64 5]) (CanCall.mk Tryz.call19) rfl (.cons rfl inferInstance (.cons rfl inferInstance (.cons rfl inferInstance (.nil)))) (fun w hw => choose_none sp tp p tgt x w (hvr.arg hw) (stb_arg hw htp) hta hE hP)) (fun u => ?_)
        refine sw_imp fun _ => ?_
        have hO : O = [] := by
          have := hall.2.length_eq
          have h0 : (tsk p tgt x).tl (tsk p tgt x).T = [] := poss_nil hP
          rw [h0] at this
          simp only [List.map_nil, List.length_nil, List.length_map] at this
          exact List.eq_nil_of_length_eq_zero this
        subst hO
        refine sr rfl rfl rfl ((q_move rfl rfl)) (sr rfl rfl rfl ((q_extract rfl rfl rfl)) (sr rfl rfl rfl ((q_extract rfl rfl rfl)) (sr rfl rfl rfl ((q_extract rfl rfl rfl)) ?_)))
        refine sw_x rfl rfl rfl (e_alloc rfl) (fun b12 => ?_)
        refine sw_eff0 rfl rfl (e_store (i := 0) rfl rfl rfl rfl rfl rfl rfl rfl) (sr rfl rfl rfl ((q_assign rfl rfl)) (sr rfl rfl rfl ((q_assign rfl rfl)) (sw_nil (post_then (cw_seq (cw_seq (cw_region (sr rfl rfl rfl ((q_move rfl rfl)) (sr rfl rfl rfl ((q_neq rfl rfl rfl)) (sw_nil (post_then ?_)))))))))))
        refine cw_cond rfl (fun h2 => ?_) (fun h2 => ?_)
        · skip
          refine cw_seq (cw_region (sr rfl rfl rfl ((q_move rfl rfl)) ?_))
          refine sr rfl rfl rfl ((q_len rfl (.cons rfl inferInstance (.nil)) (by exact fun w hw => rd_own hw (by exact .tail _ (.tail _ (.head _)))))) ?_
          refine sr rfl rfl rfl ((q_eql rfl rfl rfl)) (sr rfl rfl rfl ((q_move rfl rfl)) (sw_step rfl rfl rfl (q_call (CanCall.mk Tryz.call18) rfl (.nil) (fun _ w hw => callq hw (known_spec w))) (sr rfl rfl rfl ((q_and2 rfl rfl rfl)) (sr rfl rfl rfl ((q_assign rfl rfl)) (sw_nil (post_then (cw_ret (post_then_r (post_ret1 rfl (resOk_tmp rfl) ?_)))))))))
          exact fun w' hw => ⟨by simp, cl_drop (F := []) hw⟩
        · skip
          simp at h2
      · skip
        refine sw_x rfl rfl rfl (e_call (CanCall.mk Tryz.call19) rfl (.cons rfl inferInstance (.cons rfl inferInstance (.cons rfl inferInstance (.nil)))) (fun w hw => choose_yes sp tp p tgt x w (hvr.arg hw) (stb_arg hw htp) hta hE hP hbig)) (fun c => ?_)
        refine sw_imp fun hc => ?_
        obtain ⟨⟨s1, s2⟩, ⟨cells, q⟩⟩ := c
        dsimp only at hc ⊢
        obtain ⟨hT, hb1, hb2, hb3⟩ := hc
        have hbest : ∀ s ∈ (tsk p tgt x).tl (tsk p tgt x).T, q.cost ≤ (tsk p tgt x).tc 0 s := fun s hs => by
          rcases hb3 s hs with e | e | e
          · rw [e, hb2]; exact Int.le_refl _
          · simp only at e; omega
          · have := e.1; simp only at this; omega
        have hsq : seqB p tgt q.ul = true := pre_seq (x := x) (by rw [Tsk.pre_all] at hb1; exact hb1)
        have hqb := tcTo_bd hE hsq q.ul.length (Nat.le_refl _)
        rw [tcTo, List.take_length, ← hb2] at hqb
        have hql := (seqB_at hsq).1
        have htm := rowsR_tame hE hP (by omega) (by omega)
        have hown : holdB p tgt x q.cost (rowsR p tgt x) = true := holdB_yes ⟨own_rows, Tsk.hold_own (tsk_fits hE hP) hbest own_cF⟩
        have hmore : holdB p tgt x (q.cost + 1) (rowsR p tgt x) = false := holdB_no fun k => by
          have := k.2.all _ hb1
          omega
        refine sr rfl rfl rfl ((q_move rfl rfl)) (sr rfl rfl rfl ((q_extract rfl rfl rfl)) (sr rfl rfl rfl ((q_extract rfl rfl rfl)) (sr rfl rfl rfl ((q_extract rfl rfl rfl)) ?_)))
        refine sw_x rfl rfl rfl (e_alloc rfl) (fun b12 => ?_)
        refine sw_eff0 rfl rfl (e_store (i := 0) rfl rfl rfl rfl rfl rfl rfl rfl) (sr rfl rfl rfl ((q_assign rfl rfl)) (sr rfl rfl rfl ((q_assign rfl rfl)) (sw_nil (post_then (cw_seq (cw_seq (cw_region (sr rfl rfl rfl ((q_move rfl rfl)) (sr rfl rfl rfl ((q_neq rfl rfl rfl)) (sw_nil (post_then ?_)))))))))))
        refine cw_cond rfl (fun h2 => ?_) (fun h2 => ?_)
        · skip
          simp at h2
        · skip
          clear h2
          refine cw_c (C' := Cl w [] (blk b12 (enc q) 30 :: ownL 28 s1.v (rowsTo s2 p.length tgt.length tgt.length) :: ownL 3 s2.v cells :: ownL 3 q.us.v q.ul :: blk b7 (enc x) 25 :: ownL 30 sa.v O :: L.map rowG)) (fun w' h => h) (cw_skip (post_then (cw_seq (cw_region (sr rfl rfl rfl ((q_move rfl rfl)) (sr rfl rfl rfl ((q_move rfl rfl)) ?_))))))
          refine sr rfl rfl rfl ((q_loadA rfl rfl (by exact .tail _ (.tail _ (.tail _ (.tail _ (.head _))))) rfl)) ?_
          refine sr rfl rfl rfl ((q_fieldAddr rfl rfl)) ?_
          refine sr rfl rfl rfl ((q_loadC rfl rfl (by exact .head _) rfl)) ?_
          refine sr rfl rfl rfl ((q_move rfl rfl)) ?_
          refine sw_step rfl rfl rfl (q_call (CanCall.mk Tryz.call54) rfl (.cons rfl inferInstance (.cons rfl inferInstance (.cons rfl inferInstance (.cons rfl inferInstance (.cons rfl inferInstance (.nil)))))) (fun _ w hw => callq hw (verify_ok sp tp s1 p tgt x _ (rowsTo s2 p.length tgt.length tgt.length) (rowsR p tgt x) w (hvr.arg hw) (stb_arg hw htp) hta (mt_cells hT (stb_own (e := 28) hw (by exact .tail _ (.head _))) (stb_own (e := 3) hw (by exact .tail _ (.tail _ (.head _))))) hE htm))) ?_
          refine sr rfl rfl rfl ((q_move rfl rfl)) (sr rfl rfl rfl ((q_move rfl rfl)) (sr rfl rfl rfl ((q_move rfl rfl)) ?_))
          refine sr rfl rfl rfl ((q_loadA rfl rfl (by exact .tail _ (.tail _ (.tail _ (.tail _ (.head _))))) rfl)) ?_
          refine sr rfl rfl rfl ((q_fieldAddr rfl rfl)) ?_
          refine sr rfl rfl rfl ((q_loadC rfl rfl (by exact .head _) rfl)) ?_
          refine sr rfl rfl rfl ((q_add rfl rfl rfl (by intro hc; omega))) ?_
          refine sr rfl rfl rfl ((q_move rfl rfl)) ?_
          refine sw_step rfl rfl rfl (q_call (CanCall.mk Tryz.call54) rfl (.cons rfl inferInstance (.cons rfl inferInstance (.cons rfl inferInstance (.cons rfl inferInstance (.cons rfl inferInstance (.nil)))))) (fun _ w hw => callq hw (verify_ok sp tp s1 p tgt x _ (rowsTo s2 p.length tgt.length tgt.length) (rowsR p tgt x) w (hvr.arg hw) (stb_arg hw htp) hta (mt_cells hT (stb_own (e := 28) hw (by exact .tail _ (.head _))) (stb_own (e := 3) hw (by exact .tail _ (.tail _ (.head _))))) hE htm))) ?_
          refine sr rfl rfl rfl ((q_not rfl rfl)) (sr rfl rfl rfl ((q_and2 rfl rfl rfl)) (sr rfl rfl rfl ((q_move rfl rfl)) (sw_step rfl rfl rfl (q_call (CanCall.mk Tryz.call18) rfl (.nil) (fun _ w hw => callq hw (known_spec w))) (sr rfl rfl rfl ((q_and2 rfl rfl rfl)) (sr rfl rfl rfl ((q_assign rfl rfl)) (sw_nil (post_then (cw_ret (post_ret1 rfl (resOk_tmp rfl) ?_)))))))))
          exact fun w' hw => ⟨by rw [hown, hmore]; simp, cl_drop (F := []) hw⟩
end Go.Proofs.YtomjbfeafodfbaaGreat
