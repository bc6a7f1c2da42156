import Derived.Test.YtkmbliojafefdaaGreatDoorWB6
import Derived.Test.YtkmbliojafefdaaGreatDoorRows
import Derived.LaidMore
import Derived.Lay
import Derived.Stop.Joined
import Derived.Test.YtkmbliojafefdaaGreatDoorVValid1

set_option autoImplicit false
set_option linter.unusedSimpArgs false
set_option linter.unusedVariables false
set_option maxRecDepth 100000
namespace Go.Proofs.YtkmbliojafefdaaGreatDoor
open Go.Sx
open Enc (enc val)
structure FgAt (a : List Fgn) (k : Nat) : Prop where
  ph : phonesOk [(nth a k).phone] 1 = true
  lt : 0 < k → sLt (nth a (k - 1)).phone (nth a k).phone = true
  l1 : 1 ≤ (nth a k).sl.length
  l5 : (nth a k).sl.length ≤ 5
  st : ∀ j, j < (nth a k).sl.length → phonesOk (nth (nth a k).sl j) 3 = true
theorem foreign_yes {a : List Fgn} (h : ∀ k, k < a.length → FgAt a k) (hl : a.length ≤ 200) : foreignOk a = true := by
  unfold foreignOk
  simp only [Bool.and_eq_true, decide_eq_true_eq, List.all_eq_true]
  refine ⟨⟨hl, riseB_yes.2 fun k h1 h2 => cmpS_neg.2 ((h k h2).lt (by omega))⟩, fun x hx => ?_⟩
  obtain ⟨k, hk, rfl⟩ := List.getElem_of_mem hx
  have := h k hk
  obtain ⟨h1, _, h3, h4, h5⟩ := this
  rw [nth_get hk] at h1 h3 h4 h5
  unfold accOk
  simp only [Bool.and_eq_true, decide_eq_true_eq, List.all_eq_true]
  refine ⟨⟨⟨h1, h3⟩, h4⟩, fun q hq => ?_⟩
  obtain ⟨j, hj, rfl⟩ := List.getElem_of_mem hq
  have := h5 j hj
  rwa [nth_get hj] at this
theorem foreign_at {a : List Fgn} (h : foreignOk a = true) {k : Nat} (hk : k < a.length) : FgAt a k := by
  unfold foreignOk at h
  simp only [Bool.and_eq_true, decide_eq_true_eq, List.all_eq_true] at h
  obtain ⟨⟨_, h1⟩, h2⟩ := h
  have h3 := h2 _ (nth_mem hk)
  unfold accOk at h3
  simp only [Bool.and_eq_true, decide_eq_true_eq, List.all_eq_true] at h3
  exact ⟨h3.1.1.1, fun h0 => cmpS_neg.1 (riseB_yes.1 h1 k (by omega) hk), h3.1.1.2, h3.1.2, fun j hj => h3.2 _ (nth_mem hj)⟩
theorem lt_asym {x y : ByteArray} (h : sLt y x = true) : sLt x y = false ∧ ¬ x = y := by
  refine ⟨?_, fun e => ?_⟩
  · cases h2 : sLt x y with
    | false => rfl
    | true => have := sLt_trans h h2; rw [sLt_irr] at this; cases this
  · subst e; rw [sLt_irr] at h; cases h
theorem lt_of {x y : ByteArray} (h : sLt x y = false ∧ ¬ x = y) : sLt y x = true := by
  rcases sLt_tri x y with h1 | h1 | h1
  · rw [h1] at h; cases h.1
  · exact absurd h1 h.2
  · exact h1
theorem refForeign_spec (sv : Value) (a : List Fgn) (hz : ∀ x ∈ a, x.phone.size ≤ 1000 ∧ ∀ q ∈ x.sl, ∀ b ∈ q, b.size ≤ 1000) (w : World) (hs : Stb w [] (RdL sv a)) (hp : Stb w [] fun w' => ∀ u ∈ a, FgnIn u w') : Calls Tryz.prog 48 #[sv] w fun e w' => e = .returned (.bool (foreignOk a)) ∧ Cl w [] [] w' := by
  have hL := rd_len hs.here
  refine calls_cw (vs := [_]) Tryz.func48 rfl Tryz.ntmps48 rfl (Cl.start0 w) (cw_seq (cw_region (sr rfl rfl rfl ((q_assign rfl rfl)) (sw_nil (post_then (cw_seq (cw_seq (cw_region (sr rfl rfl rfl ((q_assign rfl rfl)) (sw_nil (post_then (cw_block ?_))))))))))))
  refine cw_loop (S := Nat) (fun k => [(0, [], sv), (3, [], .int .i64 k)]) (fun _ => Cl w [] []) (fun k => k ≤ a.length ∧ ∀ j, j < k → FgAt a j) (fun k => a.length - k) 0 ⟨by omega, fun j hj => by omega⟩ (by exact .cons rfl (.cons rfl .nil)) (fun _ h => h) ?_
  rintro k ⟨hk, hbe⟩
  refine cw_seq (cw_seq (cw_region (sr rfl rfl rfl ((q_move rfl rfl)) (sr rfl rfl rfl ((q_move rfl rfl)) ?_))))
  refine sr rfl rfl rfl ((q_len rfl (.cons rfl inferInstance (.nil)) (by exact fun w hw => Stb.cl (by assumption) hw))) ?_
  refine sr rfl rfl rfl ((q_lss rfl rfl rfl)) (sw_nil (post_then ?_))
  refine cw_cond rfl (fun h => ?_) (fun h => ?_)
  · skip
    have hk' : k < a.length := by simp at h; omega
    have hxm : nth a k ∈ a := nth_mem hk'
    obtain ⟨hz1, hz2⟩ := hz _ hxm
    have hzp : ∀ b ∈ [(nth a k).phone], b.size ≤ 9223372036854775807 := fun b hb => by simp at hb; subst hb; omega
    obtain ⟨vs, g1, g2⟩ := hp.here _ hxm
    have g1 := rd_stb g1
    have g2 := rdR_stb g2
    have hvl := g2.here.1
    have hvL := rd_len g1.here
    have e1 : 0 < k → ((k : Int) - 1).toNat = k - 1 := fun h0 => by omega
    refine cw_skip (post_then (cw_seq (cw_block (cw_seq (cw_seq (cw_region_a (Cl w [] []) [] mixed_Tryz ?_))))))
    refine aw_pure 0 rfl (by kernel_rfl) (by kernel_rfl) (by kernel_rfl) (by kernel_rfl) (by kernel_rfl) rfl rfl rfl (q_move rfl rfl) ?_
    refine aw_pure 1 rfl (by kernel_rfl) (by kernel_rfl) (by kernel_rfl) (by kernel_rfl) (by kernel_rfl) rfl rfl rfl (q_move rfl rfl) ?_
    refine aw_take 2 (fun w h => Cl.sel (by exact .nil _) w h) rfl (by kernel_rfl) (by kernel_rfl) (by kernel_rfl) (by kernel_rfl) (by kernel_rfl) (by kernel_rfl) rfl rfl rfl (q_indexN rfl rfl rfl (by exact fun w hw => Stb.cl (by assumption) hw) (by intro hc; omega)) ?_
    refine aw_take 3 (fun w h => Cl.sel (by exact .nil _) w h) rfl (by kernel_rfl) (by kernel_rfl) (by kernel_rfl) (by kernel_rfl) (by kernel_rfl) (by kernel_rfl) rfl rfl rfl (q_fieldEl rfl rfl (by exact fun w hw => Stb.cl (by assumption) hw) (by intro hc; omega)) ?_
    refine aw_take 4 (fun w h => Cl.sel (by exact .nil _) w h) rfl (by kernel_rfl) (by kernel_rfl) (by kernel_rfl) (by kernel_rfl) (by kernel_rfl) (by kernel_rfl) rfl rfl rfl (q_loadF rfl rfl rfl (by exact fun w hw => Stb.cl (by assumption) hw) (by intro hc; omega) rfl) ?_
    refine aw_x 5 (by kernel_rfl) rfl rfl rfl rfl (e_build1 (α := ByteArray) rfl rfl rfl rfl) (by intro hb; exact fun _ => (fun w h => Cl.sel (by exact .nil _) w h)) (fun s16 => ?_)
    refine aw_q 6 (by kernel_rfl) rfl rfl rfl rfl (q_call (CanCall.mk Tryz.call23) rfl (.cons rfl inferInstance (.cons rfl inferInstance (.nil))) (fun _ w hw => callq hw (refPhones_spec _ _ _ w (by exact stb_own hw (by exact .head _)) (by assumption)))) (by intro hb; exact (fun w h => Cl.sel (by exact .nil _) w h)) ?_
    refine aw_pure 7 rfl (by kernel_rfl) (by kernel_rfl) (by kernel_rfl) (by kernel_rfl) (by kernel_rfl) rfl rfl rfl (q_not rfl rfl) ?_
    refine aw_pure 8 rfl (by kernel_rfl) (by kernel_rfl) (by kernel_rfl) (by kernel_rfl) (by kernel_rfl) rfl rfl rfl (q_move rfl rfl) ?_
    refine aw_pure 9 rfl (by kernel_rfl) (by kernel_rfl) (by kernel_rfl) (by kernel_rfl) (by kernel_rfl) rfl rfl rfl (q_move rfl rfl) ?_
    refine aw_pure 10 rfl (by kernel_rfl) (by kernel_rfl) (by kernel_rfl) (by kernel_rfl) (by kernel_rfl) rfl rfl rfl (q_gtr rfl rfl rfl) ?_
    refine aw_pure 11 rfl (by kernel_rfl) (by kernel_rfl) (by kernel_rfl) (by kernel_rfl) (by kernel_rfl) rfl rfl rfl (q_move rfl rfl) ?_
    refine aw_pure 12 rfl (by kernel_rfl) (by kernel_rfl) (by kernel_rfl) (by kernel_rfl) (by kernel_rfl) rfl rfl rfl (q_move rfl rfl) ?_
    refine aw_pure 13 rfl (by kernel_rfl) (by kernel_rfl) (by kernel_rfl) (by kernel_rfl) (by kernel_rfl) rfl rfl rfl (q_move rfl rfl) ?_
    refine aw_take 14 (fun w h => Cl.sel (by exact .nil _) w h) rfl (by kernel_rfl) (by kernel_rfl) (by kernel_rfl) (by kernel_rfl) (by kernel_rfl) (by kernel_rfl) rfl rfl rfl (q_indexN rfl rfl rfl (by exact fun w hw => Stb.cl (by assumption) hw) (by intro hc; omega)) ?_
    refine aw_take 15 (fun w h => Cl.sel (by exact .nil _) w h) rfl (by kernel_rfl) (by kernel_rfl) (by kernel_rfl) (by kernel_rfl) (by kernel_rfl) (by kernel_rfl) rfl rfl rfl (q_fieldEl rfl rfl (by exact fun w hw => Stb.cl (by assumption) hw) (by intro hc; omega)) ?_
    refine aw_take 16 (fun w h => Cl.sel (by exact .nil _) w h) rfl (by kernel_rfl) (by kernel_rfl) (by kernel_rfl) (by kernel_rfl) (by kernel_rfl) (by kernel_rfl) rfl rfl rfl (q_loadF rfl rfl rfl (by exact fun w hw => Stb.cl (by assumption) hw) (by intro hc; omega) rfl) ?_
    refine aw_pure 17 rfl (by kernel_rfl) (by kernel_rfl) (by kernel_rfl) (by kernel_rfl) (by kernel_rfl) rfl rfl rfl (q_move rfl rfl) ?_
    refine aw_pure 18 rfl (by kernel_rfl) (by kernel_rfl) (by kernel_rfl) (by kernel_rfl) (by kernel_rfl) rfl rfl rfl (q_move rfl rfl) ?_
    refine aw_pure 19 rfl (by kernel_rfl) (by kernel_rfl) (by kernel_rfl) (by kernel_rfl) (by kernel_rfl) rfl rfl rfl (q_sub rfl rfl rfl (by intro hc; omega)) ?_
    refine aw_take 20 (fun w h => Cl.sel (by exact .nil _) w h) rfl (by kernel_rfl) (by kernel_rfl) (by kernel_rfl) (by kernel_rfl) (by kernel_rfl) (by kernel_rfl) rfl rfl rfl (q_index rfl rfl rfl (by exact fun w hw => Stb.cl (by assumption) hw) (by intro hc; (simp only [AllT.iff, List.all_cons, List.all_nil, id, Bool.and_eq_true, Bool.not_eq_true', decide_eq_true_eq, decide_eq_false_iff_not, and_true] at hc; omega))) ?_
    refine aw_take 21 (fun w h => Cl.sel (by exact .nil _) w h) rfl (by kernel_rfl) (by kernel_rfl) (by kernel_rfl) (by kernel_rfl) (by kernel_rfl) (by kernel_rfl) rfl rfl rfl (q_fieldEl rfl rfl (by exact fun w hw => Stb.cl (by assumption) hw) (by intro hc; omega)) ?_
    refine aw_take 22 (fun w h => Cl.sel (by exact .nil _) w h) rfl (by kernel_rfl) (by kernel_rfl) (by kernel_rfl) (by kernel_rfl) (by kernel_rfl) (by kernel_rfl) rfl rfl rfl (q_loadF rfl rfl rfl (by exact fun w hw => Stb.cl (by assumption) hw) (by intro hc; omega) rfl) ?_
    refine aw_pure 23 rfl (by kernel_rfl) (by kernel_rfl) (by kernel_rfl) (by kernel_rfl) (by kernel_rfl) rfl rfl rfl (q_leqStr rfl rfl rfl Tryz.underlying9) ?_
    refine aw_pure 24 rfl (by kernel_rfl) (by kernel_rfl) (by kernel_rfl) (by kernel_rfl) (by kernel_rfl) rfl rfl rfl (q_and2 rfl rfl rfl) ?_
    refine aw_pure 25 rfl (by kernel_rfl) (by kernel_rfl) (by kernel_rfl) (by kernel_rfl) (by kernel_rfl) rfl rfl rfl (q_or2 rfl rfl rfl) ?_
    refine aw_pure 26 rfl (by kernel_rfl) (by kernel_rfl) (by kernel_rfl) (by kernel_rfl) (by kernel_rfl) rfl rfl rfl (q_move rfl rfl) ?_
    refine aw_pure 27 rfl (by kernel_rfl) (by kernel_rfl) (by kernel_rfl) (by kernel_rfl) (by kernel_rfl) rfl rfl rfl (q_move rfl rfl) ?_
    refine aw_pure 28 rfl (by kernel_rfl) (by kernel_rfl) (by kernel_rfl) (by kernel_rfl) (by kernel_rfl) rfl rfl rfl (q_move rfl rfl) ?_
    refine aw_take 29 (fun w h => Cl.sel (by exact .nil _) w h) rfl (by kernel_rfl) (by kernel_rfl) (by kernel_rfl) (by kernel_rfl) (by kernel_rfl) (by kernel_rfl) rfl rfl rfl (q_indexN rfl rfl rfl (by exact fun w hw => Stb.cl (by assumption) hw) (by intro hc; omega)) ?_
    refine aw_take 30 (fun w h => Cl.sel (by exact .nil _) w h) rfl (by kernel_rfl) (by kernel_rfl) (by kernel_rfl) (by kernel_rfl) (by kernel_rfl) (by kernel_rfl) rfl rfl rfl (q_fieldEl rfl rfl (by exact fun w hw => Stb.cl (by assumption) hw) (by intro hc; omega)) ?_
    refine aw_take 31 (fun w h => Cl.sel (by exact .nil _) w h) rfl (by kernel_rfl) (by kernel_rfl) (by kernel_rfl) (by kernel_rfl) (by kernel_rfl) (by kernel_rfl) rfl rfl rfl (q_loadF rfl rfl rfl (by exact fun w hw => Stb.cl (by assumption) hw) (by intro hc; omega) rfl) ?_
    refine aw_take 32 (fun w h => Cl.sel (by exact .nil _) w h) rfl (by kernel_rfl) (by kernel_rfl) (by kernel_rfl) (by kernel_rfl) (by kernel_rfl) (by kernel_rfl) rfl rfl rfl (q_len rfl (.cons rfl inferInstance (.nil)) (by exact fun w hw => Stb.cl (by assumption) hw)) ?_
    refine aw_pure 33 rfl (by kernel_rfl) (by kernel_rfl) (by kernel_rfl) (by kernel_rfl) (by kernel_rfl) rfl rfl rfl (q_lss rfl rfl rfl) ?_
    refine aw_pure 34 rfl (by kernel_rfl) (by kernel_rfl) (by kernel_rfl) (by kernel_rfl) (by kernel_rfl) rfl rfl rfl (q_or2 rfl rfl rfl) ?_
    refine aw_pure 35 rfl (by kernel_rfl) (by kernel_rfl) (by kernel_rfl) (by kernel_rfl) (by kernel_rfl) rfl rfl rfl (q_move rfl rfl) ?_
    refine aw_pure 36 rfl (by kernel_rfl) (by kernel_rfl) (by kernel_rfl) (by kernel_rfl) (by kernel_rfl) rfl rfl rfl (q_move rfl rfl) ?_
    refine aw_pure 37 rfl (by kernel_rfl) (by kernel_rfl) (by kernel_rfl) (by kernel_rfl) (by kernel_rfl) rfl rfl rfl (q_move rfl rfl) ?_
    refine aw_take 38 (fun w h => Cl.sel (by exact .nil _) w h) rfl (by kernel_rfl) (by kernel_rfl) (by kernel_rfl) (by kernel_rfl) (by kernel_rfl) (by kernel_rfl) rfl rfl rfl (q_indexN rfl rfl rfl (by exact fun w hw => Stb.cl (by assumption) hw) (by intro hc; omega)) ?_
    refine aw_take 39 (fun w h => Cl.sel (by exact .nil _) w h) rfl (by kernel_rfl) (by kernel_rfl) (by kernel_rfl) (by kernel_rfl) (by kernel_rfl) (by kernel_rfl) rfl rfl rfl (q_fieldEl rfl rfl (by exact fun w hw => Stb.cl (by assumption) hw) (by intro hc; omega)) ?_
    refine aw_take 40 (fun w h => Cl.sel (by exact .nil _) w h) rfl (by kernel_rfl) (by kernel_rfl) (by kernel_rfl) (by kernel_rfl) (by kernel_rfl) (by kernel_rfl) rfl rfl rfl (q_loadF rfl rfl rfl (by exact fun w hw => Stb.cl (by assumption) hw) (by intro hc; omega) rfl) ?_
    refine aw_take 41 (fun w h => Cl.sel (by exact .nil _) w h) rfl (by kernel_rfl) (by kernel_rfl) (by kernel_rfl) (by kernel_rfl) (by kernel_rfl) (by kernel_rfl) rfl rfl rfl (q_len rfl (.cons rfl inferInstance (.nil)) (by exact fun w hw => Stb.cl (by assumption) hw)) ?_
    refine aw_pure 42 rfl (by kernel_rfl) (by kernel_rfl) (by kernel_rfl) (by kernel_rfl) (by kernel_rfl) rfl rfl rfl (q_gtr rfl rfl rfl) ?_
    refine aw_pure 43 rfl (by kernel_rfl) (by kernel_rfl) (by kernel_rfl) (by kernel_rfl) (by kernel_rfl) rfl rfl rfl (q_or2 rfl rfl rfl) ?_
    refine aw_end (by kernel_rfl) ?_
    refine post_then ?_
    refine cw_cond rfl (fun h2 => ?_) (fun h2 => ?_)
    · skip
      have hf : foreignOk a = false := by
        cases hf : foreignOk a with
        | false => rfl
        | true =>
          exfalso
          obtain ⟨f1, f2, f3, f4, f5⟩ := foreign_at hf hk'
          by_cases hk0 : 0 < k
          · have f2 := f2 hk0
            rw [e1 hk0] at h2
            have f6 := lt_asym f2
            simp [f1, f6, hk0] at h2
            omega
          · have hk1 : k = 0 := by omega
            subst hk1
            simp [f1] at h2
            omega
      refine cw_seq (cw_region (sr rfl rfl rfl ((q_assign rfl rfl)) (sw_nil (post_then (cw_ret (post_then_r (post_blk_r (post_then_r (post_then_r (post_blk_r (post_then_r (post_ret1 rfl (resOk_tmp rfl) ?_))))))))))))
      exact fun w' hw => ⟨by rw [hf], (fun w h => Cl.sel (by exact .nil _) w h) _ hw⟩
    · skip
      refine cw_skip (post_then (cw_seq (cw_region (sr rfl rfl rfl ((q_assign rfl rfl)) (sw_nil (post_then (cw_block ?_)))))))
      refine cw_loop (S := Nat) (fun j => [(0, [], sv), (3, [], .int .i64 k), (4, [], .int .i64 j)]) (fun _ => Cl w [] []) (fun j => j ≤ vs.length ∧ ∀ i, i < j → phonesOk (nth (nth a k).sl i) 3 = true) (fun j => vs.length - j) 0 ⟨by omega, fun j hj => by omega⟩ (by exact .cons rfl (.cons rfl (.cons rfl .nil))) (fun w h => Cl.sel (by exact .nil _) w h) ?_
      rintro j ⟨hj, hbj⟩
      refine cw_seq (cw_seq (cw_region (sr rfl rfl rfl ((q_move rfl rfl)) (sr rfl rfl rfl ((q_move rfl rfl)) (sr rfl rfl rfl ((q_move rfl rfl)) ?_)))))
      refine sr rfl rfl rfl ((q_indexN rfl rfl rfl (by exact fun w hw => Stb.cl (by assumption) hw) (by intro hc; omega))) ?_
      refine sr rfl rfl rfl ((q_fieldEl rfl rfl (by exact fun w hw => Stb.cl (by assumption) hw) (by intro hc; omega))) ?_
      refine sr rfl rfl rfl ((q_loadF rfl rfl rfl (by exact fun w hw => Stb.cl (by assumption) hw) (by intro hc; omega) rfl)) ?_
      refine sr rfl rfl rfl ((q_len rfl (.cons rfl inferInstance (.nil)) (by exact fun w hw => Stb.cl (by assumption) hw))) ?_
      refine sr rfl rfl rfl ((q_lss rfl rfl rfl)) (sw_nil (post_then ?_))
      refine cw_cond rfl (fun h3 => ?_) (fun h3 => ?_)
      · skip
        have hj' : j < vs.length := by simp at h3; omega
        have hrow : Stb w [] (RdL (nth vs j).v (nth (nth a k).sl j)) := stb_row g2 (by omega)
        have hzq : ∀ b ∈ nth (nth a k).sl j, b.size ≤ 9223372036854775807 := fun b hb => by have := hz2 _ (nth_mem (by omega)) b hb; omega
        refine cw_skip (post_then (cw_seq (cw_block (cw_seq (cw_region (sr rfl rfl rfl ((q_move rfl rfl)) (sr rfl rfl rfl ((q_move rfl rfl)) ?_)))))))
        refine sr rfl rfl rfl ((q_indexN rfl rfl rfl (by exact fun w hw => Stb.cl (by assumption) hw) (by intro hc; omega))) ?_
        refine sr rfl rfl rfl ((q_fieldEl rfl rfl (by exact fun w hw => Stb.cl (by assumption) hw) (by intro hc; omega))) ?_
        refine sr rfl rfl rfl ((q_loadF rfl rfl rfl (by exact fun w hw => Stb.cl (by assumption) hw) (by intro hc; omega) rfl)) ?_
        refine sr rfl rfl rfl ((q_move rfl rfl)) ?_
        refine sr rfl rfl rfl ((q_indexN rfl rfl rfl (by exact fun w hw => Stb.cl (by assumption) hw) (by intro hc; omega))) ?_
        refine sr rfl rfl rfl ((q_loadEl rfl rfl rfl (by exact fun w hw => Stb.cl (by assumption) hw) (by intro hc; omega))) ?_
        refine sw_step rfl rfl rfl (q_call (CanCall.mk Tryz.call23) rfl (.cons rfl inferInstance (.cons rfl inferInstance (.nil))) (fun _ w hw => callq hw (refPhones_spec _ _ _ w (by exact stb_arg hw (by assumption)) (by assumption)))) ?_
        refine sr rfl rfl rfl ((q_not rfl rfl)) (sw_nil (post_then ?_))
        refine cw_cond rfl (fun h4 => ?_) (fun h4 => ?_)
        · skip
          have hf : foreignOk a = false := by
            cases hf : foreignOk a with
            | false => rfl
            | true =>
              exfalso
              have := (foreign_at hf hk').st j (by omega)
              rw [this] at h4; simp at h4
          refine cw_seq (cw_region (sr rfl rfl rfl ((q_assign rfl rfl)) (sw_nil (post_then (cw_ret (post_blk_r (post_then_r (post_then_r (post_blk_r (post_blk_r (post_then_r (post_then_r (post_blk_r (post_then_r (post_ret1 rfl (resOk_tmp rfl) ?_)))))))))))))))
          exact fun w' hw => ⟨by rw [hf], (fun w h => Cl.sel (by exact .nil _) w h) _ hw⟩
        · skip
          have h5 : phonesOk (nth (nth a k).sl j) 3 = true := by simpa using h4
          refine cw_skip (post_blk (post_then (cw_region (sr rfl rfl rfl ((q_move rfl rfl)) ?_))))
          refine sr rfl rfl rfl ((q_add rfl rfl rfl (by intro hc; omega))) ?_
          refine sr rfl rfl rfl ((q_assign rfl rfl)) (sw_nil ?_)
          exact post_next (j + 1) (by exact .cons rfl (.cons rfl (.cons rfl .nil))) (fun _ h => (fun w h => Cl.sel (by exact .nil _) w h) _ h) ⟨by omega, fun i hi => by
            rcases Nat.lt_or_ge i j with h6 | h6
            · exact hbj i h6
            · have : i = j := by omega
              subst this; exact h5⟩ (by omega)
      · skip
        have hj' : j = vs.length := by simp at h3; omega
        subst hj'
        have hAt : FgAt a k := by
          by_cases hk0 : 0 < k
          · rw [e1 hk0] at h2
            simp [hk0] at h2
            exact ⟨h2.1.1.1, fun _ => lt_of h2.1.1.2, by omega, by omega, fun i hi => hbj i (by omega)⟩
          · have hk1 : k = 0 := by omega
            subst hk1
            simp at h2
            exact ⟨h2.1.1, fun h0 => by omega, by omega, by omega, fun i hi => hbj i (by omega)⟩
        refine cw_exit (post_then_x (post_then_x (post_blk_eq (post_blk (post_then (cw_region (sr rfl rfl rfl ((q_move rfl rfl)) ?_)))))))
        refine sr rfl rfl rfl ((q_add rfl rfl rfl (by intro hc; omega))) ?_
        refine sr rfl rfl rfl ((q_assign rfl rfl)) (sw_nil ?_)
        exact post_next (k + 1) (by exact .cons rfl (.cons rfl .nil)) (fun _ h => (fun w h => Cl.sel (by exact .nil _) w h) _ h) ⟨by omega, fun i hi => by
          rcases Nat.lt_or_ge i k with h6 | h6
          · exact hbe i h6
          · have : i = k := by omega
            subst this; exact hAt⟩ (by omega)
  · skip
    have hk' : k = a.length := by simp at h; omega
    subst hk'
    have hf : decide ((a.length : Int) ≤ 200) = foreignOk a := by
      by_cases hl : a.length ≤ 200
      · rw [foreign_yes hbe hl]; simp; omega
      · have : foreignOk a = false := by unfold foreignOk; rw [decide_eq_false hl]; rfl
        rw [this]; simp; omega
    refine cw_exit (post_then_x (post_then_x (post_blk_eq (post_then (cw_seq (cw_region (sr rfl rfl rfl ((q_move rfl rfl)) ?_)))))))
    refine sr rfl rfl rfl ((q_len rfl (.cons rfl inferInstance (.nil)) (by exact fun w hw => Stb.cl (by assumption) hw))) ?_
    refine sr rfl rfl rfl ((q_leq rfl rfl rfl)) (sr rfl rfl rfl ((q_assign rfl rfl)) (sw_nil (post_then (cw_ret (post_ret1 rfl (resOk_tmp rfl) ?_)))))
    exact fun w' hw => ⟨by rw [hf], (fun w h => Cl.sel (by exact .nil _) w h) _ hw⟩
end Go.Proofs.YtkmbliojafefdaaGreatDoor

set_option autoImplicit false
set_option maxRecDepth 100000
namespace Go.Proofs.YtkmbliojafefdaaGreatDoor
open Go.Sx
open Enc (enc val)
def lawChc (r : Chc) : Bool := decide (r.tl.length ≤ 5) && lawPh r.pl 5
def lawLet (L : Let) : Bool := decide (L.rl.length ≤ 30) && L.rl.all lawChc
def lawBk (bl : List Let) : Bool := decide (bl.length ≤ 12) && bl.all lawLet
theorem all_no {α : Type} [Inhabited α] {p : α → Bool} {l : List α} {k : Nat} (hk : k < l.length) (h : p (nth l k) = false) : l.all p = false := by
  rw [List.all_eq_false]; exact ⟨_, nth_mem hk, by simp [h]⟩
theorem all_yes {α : Type} [Inhabited α] {p : α → Bool} {l : List α} (h : ∀ k, k < l.length → p (nth l k) = true) : l.all p = true := by
  rw [List.all_eq_true]
  intro x hx
  obtain ⟨k, hk, rfl⟩ := List.getElem_of_mem hx
  have := h k hk
  rwa [nth_get hk] at this
theorem lawBook_spec (b : Bk) (w : World) (hb : Stb w [] (BkIn b)) : Calls Tryz.prog 40 #[val b] w fun e w' => e = .returned (.bool (lawBk b.bl)) ∧ Cl w [] [] w' := by
  have hB := rd_stb hb.here.1
  have hL := rd_len hB.here
  refine calls_cw (vs := [_]) Tryz.func40 rfl Tryz.ntmps40 rfl (Cl.start0 w) (cw_seq (cw_region ?_))
  refine sw_x rfl rfl rfl (e_box rfl rfl rfl) (fun b1 => ?_)
  refine sr rfl rfl rfl ((q_assign rfl rfl)) (sw_nil (post_then (cw_seq (cw_seq (cw_region (sr rfl rfl rfl ((q_fieldAddr rfl rfl)) ?_))))))
  refine sr rfl rfl rfl ((q_loadC rfl rfl (by exact .head _) rfl)) ?_
  refine sr rfl rfl rfl ((q_len rfl (.cons rfl inferInstance (.nil)) (by exact fun w hw => Stb.cl (by assumption) hw))) ?_
  refine sr rfl rfl rfl ((q_gtr rfl rfl rfl)) (sw_nil (post_then ?_))
  refine cw_cond rfl (fun h => ?_) (fun h => ?_)
  · skip
    have e1 : lawBk b.bl = false := by unfold lawBk; rw [decide_eq_false (by simp at h; omega)]; rfl
    refine cw_seq (cw_region (sr rfl rfl rfl ((q_assign rfl rfl)) (sw_nil (post_then (cw_ret (post_then_r (post_ret1 rfl (resOk_tmp rfl) ?_)))))))
    exact fun w' hw => ⟨by rw [e1], (fun w h => Cl.sel (by exact .nil _) w h) _ hw⟩
  · skip
    refine cw_skip (post_then (cw_seq (cw_seq (cw_region (sr rfl rfl rfl ((q_assign rfl rfl)) (sw_nil (post_then (cw_block ?_))))))))
    refine cw_loop (S := Nat) (fun i => [(1, [], .pointer (some ⟨b1, 0, none⟩)), (3, [], .int .i64 i)]) (fun _ => Cl w [] [blk b1 [b.b.v] 45]) (fun i => i ≤ b.bl.length ∧ ∀ j, j < i → lawLet (nth b.bl j) = true) (fun i => b.bl.length - i) 0 ⟨by omega, fun j hj => by omega⟩ (by exact .cons rfl (.cons rfl .nil)) (fun w h => Cl.sel (by exact .take 0 rfl (.nil _)) w h) ?_
    rintro i ⟨hi, hbe⟩
    refine cw_seq (cw_seq (cw_region (sr rfl rfl rfl ((q_move rfl rfl)) (sr rfl rfl rfl ((q_fieldAddr rfl rfl)) ?_))))
    refine sr rfl rfl rfl ((q_loadC rfl rfl (by exact .head _) rfl)) ?_
    refine sr rfl rfl rfl ((q_len rfl (.cons rfl inferInstance (.nil)) (by exact fun w hw => Stb.cl (by assumption) hw))) ?_
    refine sr rfl rfl rfl ((q_lss rfl rfl rfl)) (sw_nil (post_then ?_))
    refine cw_cond rfl (fun h2 => ?_) (fun h2 => ?_)
    · skip
      have hi' : i < b.bl.length := by simp at h2; omega
      have hLi := hb.here.2 _ (nth_mem hi')
      have hR := rd_stb hLi.1
      have hRl := rd_len hR.here
      refine cw_skip (post_then (cw_seq (cw_block (cw_seq (cw_seq (cw_region (sr rfl rfl rfl ((q_fieldAddr rfl rfl)) ?_)))))))
      refine sr rfl rfl rfl ((q_loadC rfl rfl (by exact .head _) rfl)) ?_
      refine sr rfl rfl rfl ((q_move rfl rfl)) ?_
      refine sr rfl rfl rfl ((q_indexN rfl rfl rfl (by exact fun w hw => Stb.cl (by assumption) hw) (by intro hc; omega))) ?_
      refine sr rfl rfl rfl ((q_fieldEl rfl rfl (by exact fun w hw => Stb.cl (by assumption) hw) (by intro hc; omega))) ?_
      refine sr rfl rfl rfl ((q_loadF rfl rfl rfl (by exact fun w hw => Stb.cl (by assumption) hw) (by intro hc; omega) rfl)) ?_
      refine sr rfl rfl rfl ((q_len rfl (.cons rfl inferInstance (.nil)) (by exact fun w hw => Stb.cl (by assumption) hw))) ?_
      refine sr rfl rfl rfl ((q_gtr rfl rfl rfl)) (sw_nil (post_then ?_))
      refine cw_cond rfl (fun h3 => ?_) (fun h3 => ?_)
      · skip
        have e1 : lawBk b.bl = false := by
          unfold lawBk
          rw [all_no hi' (by unfold lawLet; rw [decide_eq_false (by simp at h3; omega)]; rfl)]; simp
        refine cw_seq (cw_region (sr rfl rfl rfl ((q_assign rfl rfl)) (sw_nil (post_then (cw_ret (post_then_r (post_blk_r (post_then_r (post_then_r (post_blk_r (post_then_r (post_ret1 rfl (resOk_tmp rfl) ?_))))))))))))
        exact fun w' hw => ⟨by rw [e1], (fun w h => Cl.sel (by exact .nil _) w h) _ hw⟩
      · skip
        have h30 : (nth b.bl i).rl.length ≤ 30 := by simp at h3; omega
        refine cw_skip (post_then (cw_seq (cw_region (sr rfl rfl rfl ((q_assign rfl rfl)) (sw_nil (post_then (cw_block ?_)))))))
        refine cw_loop (S := Nat) (fun j => [(1, [], .pointer (some ⟨b1, 0, none⟩)), (3, [], .int .i64 i), (4, [], .int .i64 j)]) (fun _ => Cl w [] [blk b1 [b.b.v] 45]) (fun j => j ≤ (nth b.bl i).rl.length ∧ ∀ k, k < j → lawChc (nth (nth b.bl i).rl k) = true) (fun j => (nth b.bl i).rl.length - j) 0 ⟨by omega, fun j hj => by omega⟩ (by exact .cons rfl (.cons rfl (.cons rfl .nil))) (fun w h => Cl.sel (by exact .take 0 rfl (.nil _)) w h) ?_
        rintro j ⟨hj, hbj⟩
        refine cw_seq (cw_seq (cw_region (sr rfl rfl rfl ((q_move rfl rfl)) (sr rfl rfl rfl ((q_fieldAddr rfl rfl)) ?_))))
        refine sr rfl rfl rfl ((q_loadC rfl rfl (by exact .head _) rfl)) ?_
        refine sr rfl rfl rfl ((q_move rfl rfl)) ?_
        refine sr rfl rfl rfl ((q_indexN rfl rfl rfl (by exact fun w hw => Stb.cl (by assumption) hw) (by intro hc; omega))) ?_
        refine sr rfl rfl rfl ((q_fieldEl rfl rfl (by exact fun w hw => Stb.cl (by assumption) hw) (by intro hc; omega))) ?_
        refine sr rfl rfl rfl ((q_loadF rfl rfl rfl (by exact fun w hw => Stb.cl (by assumption) hw) (by intro hc; omega) rfl)) ?_
        refine sr rfl rfl rfl ((q_len rfl (.cons rfl inferInstance (.nil)) (by exact fun w hw => Stb.cl (by assumption) hw))) ?_
        refine sr rfl rfl rfl ((q_lss rfl rfl rfl)) (sw_nil (post_then ?_))
        refine cw_cond rfl (fun h4 => ?_) (fun h4 => ?_)
        · skip
          have hj' : j < (nth b.bl i).rl.length := by simp at h4; omega
          have hC := hLi.2 _ (nth_mem hj')
          have hC1 := rd_stb hC.1
          have hC2 := rd_stb hC.2
          have hC1l := rd_len hC1.here
          refine cw_skip (post_then (cw_seq (cw_block (cw_seq (cw_region (sr rfl rfl rfl ((q_fieldAddr rfl rfl)) ?_))))))
          refine sr rfl rfl rfl ((q_loadC rfl rfl (by exact .head _) rfl)) ?_
          refine sr rfl rfl rfl ((q_move rfl rfl)) ?_
          refine sr rfl rfl rfl ((q_indexN rfl rfl rfl (by exact fun w hw => Stb.cl (by assumption) hw) (by intro hc; omega))) ?_
          refine sr rfl rfl rfl ((q_fieldEl rfl rfl (by exact fun w hw => Stb.cl (by assumption) hw) (by intro hc; omega))) ?_
          refine sr rfl rfl rfl ((q_loadF rfl rfl rfl (by exact fun w hw => Stb.cl (by assumption) hw) (by intro hc; omega) rfl)) ?_
          refine sr rfl rfl rfl ((q_move rfl rfl)) ?_
          refine sr rfl rfl rfl ((q_indexN rfl rfl rfl (by exact fun w hw => Stb.cl (by assumption) hw) (by intro hc; omega))) ?_
          refine sr rfl rfl rfl ((q_loadEl rfl rfl rfl (by exact fun w hw => Stb.cl (by assumption) hw) (by intro hc; omega))) ?_
          refine sw_x rfl rfl rfl (e_alloc rfl) (fun b5 => ?_)
          refine sw_eff0 rfl rfl (e_store (i := 0) rfl rfl rfl rfl rfl rfl rfl rfl) (sw_nil (post_then (cw_seq (cw_region (sr rfl rfl rfl ((q_fieldAddr rfl rfl)) ?_)))))
          refine sr rfl rfl rfl ((q_loadC rfl rfl (by exact .head _) rfl)) ?_
          refine sr rfl rfl rfl ((q_len rfl (.cons rfl inferInstance (.nil)) (by exact fun w hw => Stb.cl (by assumption) hw))) ?_
          refine sr rfl rfl rfl ((q_gtr rfl rfl rfl)) (sr rfl rfl rfl ((q_move rfl rfl)) (sr rfl rfl rfl ((q_fieldAddr rfl rfl)) ?_))
          refine sr rfl rfl rfl ((q_loadC rfl rfl (by exact .head _) rfl)) ?_
          refine sw_step rfl rfl rfl (q_call (CanCall.mk Tryz.call18) rfl (.cons rfl inferInstance (.cons rfl inferInstance (.nil))) (fun _ w hw => callq hw (lawPhones_spec _ _ _ (by omega) w (by exact stb_arg hw (by assumption))))) ?_
          refine sr rfl rfl rfl ((q_not rfl rfl)) (sr rfl rfl rfl ((q_or2 rfl rfl rfl)) (sw_nil (post_then ?_)))
          refine cw_cond rfl (fun h5 => ?_) (fun h5 => ?_)
          · skip
            have e1 : lawBk b.bl = false := by
              unfold lawBk
              rw [all_no hi' (by
                unfold lawLet
                rw [all_no hj' (by
                  unfold lawChc
                  cases hx : lawPh (nth (nth b.bl i).rl j).pl 5 with
                  | false => simp
                  | true => rw [hx] at h5; simp at h5; simp; omega)]
                simp)]
              simp
            refine cw_seq (cw_region (sr rfl rfl rfl ((q_assign rfl rfl)) (sw_nil (post_then (cw_ret (post_blk_r (post_then_r (post_then_r (post_blk_r (post_blk_r (post_then_r (post_then_r (post_blk_r (post_then_r (post_ret1 rfl (resOk_tmp rfl) ?_)))))))))))))))
            exact fun w' hw => ⟨by rw [e1], (fun w h => Cl.sel (by exact .nil _) w h) _ hw⟩
          · skip
            have e1 : lawChc (nth (nth b.bl i).rl j) = true := by
              unfold lawChc
              cases hx : lawPh (nth (nth b.bl i).rl j).pl 5 with
              | false => rw [hx] at h5; simp at h5
              | true => rw [hx] at h5; simp at h5; simp; omega
            refine cw_skip (post_blk (post_then (cw_region (sr rfl rfl rfl ((q_move rfl rfl)) ?_))))
            refine sr rfl rfl rfl ((q_add rfl rfl rfl (by intro hc; omega))) ?_
            refine sr rfl rfl rfl ((q_assign rfl rfl)) (sw_nil ?_)
            exact post_next (j + 1) (by exact .cons rfl (.cons rfl (.cons rfl .nil))) (fun w h => Cl.sel (by exact .take 1 rfl (.nil _)) w h) ⟨by omega, fun k hk => by
              rcases Nat.lt_or_ge k j with h6 | h6
              · exact hbj k h6
              · have : k = j := by omega
                subst this; exact e1⟩ (by omega)
        · skip
          have hj' : j = (nth b.bl i).rl.length := by simp at h4; omega
          subst hj'
          have e1 : lawLet (nth b.bl i) = true := by unfold lawLet; rw [all_yes hbj, decide_eq_true h30]; rfl
          refine cw_exit (post_then_x (post_then_x (post_blk_eq (post_blk (post_then (cw_region (sr rfl rfl rfl ((q_move rfl rfl)) ?_)))))))
          refine sr rfl rfl rfl ((q_add rfl rfl rfl (by intro hc; omega))) ?_
          refine sr rfl rfl rfl ((q_assign rfl rfl)) (sw_nil ?_)
          exact post_next (i + 1) (by exact .cons rfl (.cons rfl .nil)) (fun w h => Cl.sel (by exact .take 0 rfl (.nil _)) w h) ⟨by omega, fun k hk => by
            rcases Nat.lt_or_ge k i with h6 | h6
            · exact hbe k h6
            · have : k = i := by omega
              subst this; exact e1⟩ (by omega)
    · skip
      have hi' : i = b.bl.length := by simp at h2; omega
      subst hi'
      have e1 : lawBk b.bl = true := by unfold lawBk; rw [all_yes hbe, decide_eq_true (by simp at h; omega)]; rfl
      refine cw_exit (post_then_x (post_then_x (post_blk_eq (post_then (cw_seq (cw_region (sr rfl rfl rfl ((q_assign rfl rfl)) (sw_nil (post_then (cw_ret (post_ret1 rfl (resOk_tmp rfl) ?_)))))))))))
      exact fun w' hw => ⟨by rw [e1], (fun w h => Cl.sel (by exact .nil _) w h) _ hw⟩
theorem lawBk_small {bl : List Let} (h : lawBk bl = true) : ∀ L ∈ bl, ∀ r ∈ L.rl, ∀ p ∈ r.pl, p.size ≤ 12 := by
  intro L hL r hr p hp
  unfold lawBk lawLet lawChc lawPh at h
  simp only [Bool.and_eq_true, List.all_eq_true, decide_eq_true_eq] at h
  exact ((h.2 L hL).2 r hr).2.2 p hp
end Go.Proofs.YtkmbliojafefdaaGreatDoor

set_option autoImplicit false
set_option maxRecDepth 100000
namespace Go.Proofs.YtkmbliojafefdaaGreatDoor
open Go.Sx
open Enc (enc val)
def lawPrs (p : List Pr) : Bool := !(decide (30 < p.length) && decide (p.length ≤ 1000) || decide (1100 < p.length)) && p.all fun u => lawPh u.pl 5
theorem lawPairs_spec (sv : Value) (p : List Pr) (w : World) (hs : Stb w [] (RdL sv p)) (hp : Stb w [] fun w' => ∀ u ∈ p, PrIn u w') : Calls Tryz.prog 17 #[sv] w fun e w' => e = .returned (.bool (lawPrs p)) ∧ Cl w [] [] w' := by
  have hL := rd_len hs.here
  refine calls_cw (vs := [_]) Tryz.func17 rfl Tryz.ntmps17 rfl (Cl.start0 w) (cw_seq (cw_region (sr rfl rfl rfl ((q_assign rfl rfl)) (sw_nil (post_then (cw_seq (cw_seq (cw_region (sr rfl rfl rfl ((q_move rfl rfl)) ?_)))))))))
  refine sr rfl rfl rfl ((q_len rfl (.cons rfl inferInstance (.nil)) (by exact fun w hw => Stb.cl (by assumption) hw))) ?_
  refine sr rfl rfl rfl ((q_gtr rfl rfl rfl)) (sr rfl rfl rfl ((q_move rfl rfl)) (sr rfl rfl rfl ((q_move rfl rfl)) ?_))
  refine sr rfl rfl rfl ((q_len rfl (.cons rfl inferInstance (.nil)) (by exact fun w hw => Stb.cl (by assumption) hw))) ?_
  refine sr rfl rfl rfl ((q_leq rfl rfl rfl)) (sr rfl rfl rfl ((q_and2 rfl rfl rfl)) (sr rfl rfl rfl ((q_move rfl rfl)) (sr rfl rfl rfl ((q_move rfl rfl)) ?_)))
  refine sr rfl rfl rfl ((q_len rfl (.cons rfl inferInstance (.nil)) (by exact fun w hw => Stb.cl (by assumption) hw))) ?_
  refine sr rfl rfl rfl ((q_gtr rfl rfl rfl)) (sr rfl rfl rfl ((q_or2 rfl rfl rfl)) (sw_nil (post_then ?_)))
  refine cw_cond rfl (fun h => ?_) (fun h => ?_)
  · skip
    have e1 : lawPrs p = false := by
      unfold lawPrs
      simp at h
      rcases h with h | h
      · rw [decide_eq_true (by omega : 30 < p.length), decide_eq_true (by omega : p.length ≤ 1000)]; simp
      · rw [decide_eq_true (by omega : 1100 < p.length)]; simp
    refine cw_seq (cw_region (sr rfl rfl rfl ((q_assign rfl rfl)) (sw_nil (post_then (cw_ret (post_then_r (post_ret1 rfl (resOk_tmp rfl) ?_)))))))
    exact fun w' hw => ⟨by rw [e1], (fun w h => Cl.sel (by exact .nil _) w h) _ hw⟩
  · skip
    have e0 : (!(decide (30 < p.length) && decide (p.length ≤ 1000) || decide (1100 < p.length))) = true := by
      simp at h
      simp; omega
    refine cw_skip (post_then (cw_seq (cw_seq (cw_region (sr rfl rfl rfl ((q_assign rfl rfl)) (sw_nil (post_then (cw_block ?_))))))))
    refine cw_loop (S := Nat) (fun k => [(0, [], sv), (3, [], .int .i64 k)]) (fun _ => Cl w [] []) (fun k => k ≤ p.length ∧ ∀ i, i < k → lawPh (nth p i).pl 5 = true) (fun k => p.length - k) 0 ⟨by omega, fun j hj => by omega⟩ (by exact .cons rfl (.cons rfl .nil)) (fun w h => Cl.sel (by exact .nil _) w h) ?_
    rintro k ⟨hk, hbe⟩
    refine cw_seq (cw_seq (cw_region (sr rfl rfl rfl ((q_move rfl rfl)) (sr rfl rfl rfl ((q_move rfl rfl)) ?_))))
    refine sr rfl rfl rfl ((q_len rfl (.cons rfl inferInstance (.nil)) (by exact fun w hw => Stb.cl (by assumption) hw))) ?_
    refine sr rfl rfl rfl ((q_lss rfl rfl rfl)) (sw_nil (post_then ?_))
    refine cw_cond rfl (fun h2 => ?_) (fun h2 => ?_)
    · skip
      have hk' : k < p.length := by simp at h2; omega
      have hx := rd_stb (hp.here _ (nth_mem hk'))
      refine cw_skip (post_then (cw_seq (cw_block (cw_seq (cw_region (sr rfl rfl rfl ((q_move rfl rfl)) (sr rfl rfl rfl ((q_move rfl rfl)) ?_)))))))
      refine sr rfl rfl rfl ((q_indexN rfl rfl rfl (by exact fun w hw => Stb.cl (by assumption) hw) (by intro hc; omega))) ?_
      refine sr rfl rfl rfl ((q_fieldEl rfl rfl (by exact fun w hw => Stb.cl (by assumption) hw) (by intro hc; omega))) ?_
      refine sr rfl rfl rfl ((q_loadF rfl rfl rfl (by exact fun w hw => Stb.cl (by assumption) hw) (by intro hc; omega) rfl)) ?_
      refine sw_step rfl rfl rfl (q_call (CanCall.mk Tryz.call18) rfl (.cons rfl inferInstance (.cons rfl inferInstance (.nil))) (fun _ w hw => callq hw (lawPhones_spec _ _ _ (by omega) w (by exact stb_arg hw (by assumption))))) ?_
      refine sr rfl rfl rfl ((q_not rfl rfl)) (sw_nil (post_then ?_))
      refine cw_cond rfl (fun h3 => ?_) (fun h3 => ?_)
      · skip
        have e1 : lawPrs p = false := by
          unfold lawPrs
          rw [all_no hk' (by simpa using h3)]
          simp
        refine cw_seq (cw_region (sr rfl rfl rfl ((q_assign rfl rfl)) (sw_nil (post_then (cw_ret (post_blk_r (post_then_r (post_then_r (post_blk_r (post_then_r (post_ret1 rfl (resOk_tmp rfl) ?_)))))))))))
        exact fun w' hw => ⟨by rw [e1], (fun w h => Cl.sel (by exact .nil _) w h) _ hw⟩
      · skip
        have e1 : lawPh (nth p k).pl 5 = true := by simpa using h3
        refine cw_skip (post_blk (post_then (cw_region (sr rfl rfl rfl ((q_move rfl rfl)) ?_))))
        refine sr rfl rfl rfl ((q_add rfl rfl rfl (by intro hc; omega))) ?_
        refine sr rfl rfl rfl ((q_assign rfl rfl)) (sw_nil ?_)
        exact post_next (k + 1) (by exact .cons rfl (.cons rfl .nil)) (fun w h => Cl.sel (by exact .nil _) w h) ⟨by omega, fun i hi => by
          rcases Nat.lt_or_ge i k with h6 | h6
          · exact hbe i h6
          · have : i = k := by omega
            subst this; exact e1⟩ (by omega)
    · skip
      have hk' : k = p.length := by simp at h2; omega
      subst hk'
      have e1 : lawPrs p = true := by unfold lawPrs; rw [all_yes hbe, e0]; rfl
      refine cw_exit (post_then_x (post_then_x (post_blk_eq (post_then (cw_seq (cw_region (sr rfl rfl rfl ((q_assign rfl rfl)) (sw_nil (post_then (cw_ret (post_ret1 rfl (resOk_tmp rfl) ?_)))))))))))
      exact fun w' hw => ⟨by rw [e1], (fun w h => Cl.sel (by exact .nil _) w h) _ hw⟩
theorem lawPrs_z {p : List Pr} (h : lawPrs p = true) : ∀ u ∈ p, u.pl.length ≤ 5 ∧ ∀ b ∈ u.pl, b.size ≤ 12 := fun u hu => by
  unfold lawPrs lawPh at h
  simp only [Bool.and_eq_true, List.all_eq_true, decide_eq_true_eq] at h
  have := h.2 u hu
  exact ⟨by omega, this.2⟩
def lawLex (l : List Sp) (most : Int) : Bool := !(decide (most < l.length) && decide (l.length ≤ 3000) || decide (3500 < l.length)) && l.all fun u => decide (u.word.size ≤ 60) && lawPh u.pl 130
theorem lawLex_spec (sv : Value) (l : List Sp) (most : Int) (hz : ∀ u ∈ l, u.word.size ≤ 9223372036854775807) (w : World) (hs : Stb w [] (RdL sv l)) (hp : Stb w [] fun w' => ∀ u ∈ l, SpIn u w') : Calls Tryz.prog 27 #[sv, .int .i64 most] w fun e w' => e = .returned (.bool (lawLex l most)) ∧ Cl w [] [] w' := by
  have hL := rd_len hs.here
  refine calls_cw (vs := [_, _]) Tryz.func27 rfl Tryz.ntmps27 rfl (Cl.start0 w) (cw_seq (cw_region (sr rfl rfl rfl ((q_assign rfl rfl)) (sw_nil (post_then (cw_seq (cw_seq (cw_region (sr rfl rfl rfl ((q_move rfl rfl)) ?_)))))))))
  refine sr rfl rfl rfl ((q_len rfl (.cons rfl inferInstance (.nil)) (by exact fun w hw => Stb.cl (by assumption) hw))) ?_
  refine sr rfl rfl rfl ((q_move rfl rfl)) (sr rfl rfl rfl ((q_gtr rfl rfl rfl)) (sr rfl rfl rfl ((q_move rfl rfl)) (sr rfl rfl rfl ((q_move rfl rfl)) ?_)))
  refine sr rfl rfl rfl ((q_len rfl (.cons rfl inferInstance (.nil)) (by exact fun w hw => Stb.cl (by assumption) hw))) ?_
  refine sr rfl rfl rfl ((q_leq rfl rfl rfl)) (sr rfl rfl rfl ((q_and2 rfl rfl rfl)) (sr rfl rfl rfl ((q_move rfl rfl)) (sr rfl rfl rfl ((q_move rfl rfl)) ?_)))
  refine sr rfl rfl rfl ((q_len rfl (.cons rfl inferInstance (.nil)) (by exact fun w hw => Stb.cl (by assumption) hw))) ?_
  refine sr rfl rfl rfl ((q_gtr rfl rfl rfl)) (sr rfl rfl rfl ((q_or2 rfl rfl rfl)) (sw_nil (post_then ?_)))
  refine cw_cond rfl (fun h => ?_) (fun h => ?_)
  · skip
    have e1 : lawLex l most = false := by
      unfold lawLex
      simp at h
      rcases h with h | h
      · rw [decide_eq_true (by omega : most < l.length), decide_eq_true (by omega : l.length ≤ 3000)]; simp
      · rw [decide_eq_true (by omega : 3500 < l.length)]; simp
    refine cw_seq (cw_region (sr rfl rfl rfl ((q_assign rfl rfl)) (sw_nil (post_then (cw_ret (post_then_r (post_ret1 rfl (resOk_tmp rfl) ?_)))))))
    exact fun w' hw => ⟨by rw [e1], (fun w h => Cl.sel (by exact .nil _) w h) _ hw⟩
  · skip
    have e0 : (!(decide (most < l.length) && decide (l.length ≤ 3000) || decide (3500 < l.length))) = true := by
      simp at h
      simp; omega
    refine cw_skip (post_then (cw_seq (cw_seq (cw_region (sr rfl rfl rfl ((q_assign rfl rfl)) (sw_nil (post_then (cw_block ?_))))))))
    refine cw_loop (S := Nat) (fun k => [(0, [], sv), (5, [], .int .i64 k)]) (fun _ => Cl w [] []) (fun k => k ≤ l.length ∧ ∀ i, i < k → (decide ((nth l i).word.size ≤ 60) && lawPh (nth l i).pl 130) = true) (fun k => l.length - k) 0 ⟨by omega, fun j hj => by omega⟩ (by exact .cons rfl (.cons rfl .nil)) (fun w h => Cl.sel (by exact .nil _) w h) ?_
    rintro k ⟨hk, hbe⟩
    refine cw_seq (cw_seq (cw_region (sr rfl rfl rfl ((q_move rfl rfl)) (sr rfl rfl rfl ((q_move rfl rfl)) ?_))))
    refine sr rfl rfl rfl ((q_len rfl (.cons rfl inferInstance (.nil)) (by exact fun w hw => Stb.cl (by assumption) hw))) ?_
    refine sr rfl rfl rfl ((q_lss rfl rfl rfl)) (sw_nil (post_then ?_))
    refine cw_cond rfl (fun h2 => ?_) (fun h2 => ?_)
    · skip
      have hk' : k < l.length := by simp at h2; omega
      have hx := rd_stb (hp.here _ (nth_mem hk'))
      have hzk := hz _ (nth_mem hk')
      refine cw_skip (post_then (cw_seq (cw_block (cw_seq (cw_region (sr rfl rfl rfl ((q_move rfl rfl)) (sr rfl rfl rfl ((q_move rfl rfl)) ?_)))))))
      refine sr rfl rfl rfl ((q_indexN rfl rfl rfl (by exact fun w hw => Stb.cl (by assumption) hw) (by intro hc; omega))) ?_
      refine sr rfl rfl rfl ((q_fieldEl rfl rfl (by exact fun w hw => Stb.cl (by assumption) hw) (by intro hc; omega))) ?_
      refine sr rfl rfl rfl ((q_loadF rfl rfl rfl (by exact fun w hw => Stb.cl (by assumption) hw) (by intro hc; omega) rfl)) ?_
      refine sr rfl rfl rfl ((q_lenS rfl (.cons rfl inferInstance (.nil)) Tryz.underlying9)) (sr rfl rfl rfl ((q_gtr rfl rfl rfl)) (sr rfl rfl rfl ((q_move rfl rfl)) (sr rfl rfl rfl ((q_move rfl rfl)) (sr rfl rfl rfl ((q_move rfl rfl)) ?_))))
      refine sr rfl rfl rfl ((q_indexN rfl rfl rfl (by exact fun w hw => Stb.cl (by assumption) hw) (by intro hc; omega))) ?_
      refine sr rfl rfl rfl ((q_fieldEl rfl rfl (by exact fun w hw => Stb.cl (by assumption) hw) (by intro hc; omega))) ?_
      refine sr rfl rfl rfl ((q_loadF rfl rfl rfl (by exact fun w hw => Stb.cl (by assumption) hw) (by intro hc; omega) rfl)) ?_
      refine sw_step rfl rfl rfl (q_call (CanCall.mk Tryz.call18) rfl (.cons rfl inferInstance (.cons rfl inferInstance (.nil))) (fun _ w hw => callq hw (lawPhones_spec _ _ _ (by omega) w (by exact stb_arg hw (by assumption))))) ?_
      refine sr rfl rfl rfl ((q_not rfl rfl)) (sr rfl rfl rfl ((q_or2 rfl rfl rfl)) (sw_nil (post_then ?_)))
      refine cw_cond rfl (fun h3 => ?_) (fun h3 => ?_)
      · skip
        have e1 : lawLex l most = false := by
          unfold lawLex
          rw [all_no hk' (by
            cases q1 : lawPh (nth l k).pl 130 <;> simp [q1] at h3 ⊢; omega)]
          simp
        refine cw_seq (cw_region (sr rfl rfl rfl ((q_assign rfl rfl)) (sw_nil (post_then (cw_ret (post_blk_r (post_then_r (post_then_r (post_blk_r (post_then_r (post_ret1 rfl (resOk_tmp rfl) ?_)))))))))))
        exact fun w' hw => ⟨by rw [e1], (fun w h => Cl.sel (by exact .nil _) w h) _ hw⟩
      · skip
        have e1 : (decide ((nth l k).word.size ≤ 60) && lawPh (nth l k).pl 130) = true := by
          cases q1 : lawPh (nth l k).pl 130 <;> simp [q1] at h3 ⊢; omega
        refine cw_skip (post_blk (post_then (cw_region (sr rfl rfl rfl ((q_move rfl rfl)) ?_))))
        refine sr rfl rfl rfl ((q_add rfl rfl rfl (by intro hc; omega))) ?_
        refine sr rfl rfl rfl ((q_assign rfl rfl)) (sw_nil ?_)
        exact post_next (k + 1) (by exact .cons rfl (.cons rfl .nil)) (fun w h => Cl.sel (by exact .nil _) w h) ⟨by omega, fun i hi => by
          rcases Nat.lt_or_ge i k with h6 | h6
          · exact hbe i h6
          · have : i = k := by omega
            subst this; exact e1⟩ (by omega)
    · skip
      have hk' : k = l.length := by simp at h2; omega
      subst hk'
      have e1 : lawLex l most = true := by unfold lawLex; rw [all_yes hbe, e0]; rfl
      refine cw_exit (post_then_x (post_then_x (post_blk_eq (post_then (cw_seq (cw_region (sr rfl rfl rfl ((q_assign rfl rfl)) (sw_nil (post_then (cw_ret (post_ret1 rfl (resOk_tmp rfl) ?_)))))))))))
      exact fun w' hw => ⟨by rw [e1], (fun w h => Cl.sel (by exact .nil _) w h) _ hw⟩
theorem lawLex_z {l : List Sp} {most : Int} (h : lawLex l most = true) : ∀ u ∈ l, u.word.size ≤ 60 ∧ u.pl.length ≤ 130 ∧ ∀ b ∈ u.pl, b.size ≤ 12 := fun u hu => by
  unfold lawLex lawPh at h
  simp only [Bool.and_eq_true, List.all_eq_true, decide_eq_true_eq] at h
  have := h.2 u hu
  exact ⟨this.1, by omega, this.2.2⟩
def prsOk (p : List Pr) : Bool := riseB prC p && p.all prOk
structure PrAt (p : List Pr) (k : Nat) : Prop where
  ok : prOk (nth p k) = true
  lt : 0 < k → (nth p (k - 1)).c < (nth p k).c ∨ (nth p (k - 1)).c = (nth p k).c ∧ ordL (nth p (k - 1)).pl (nth p k).pl < 0
theorem prC_neg {a b : Pr} : prC a b < 0 ↔ a.c < b.c ∨ a.c = b.c ∧ ordL a.pl b.pl < 0 := by
  unfold prC orL
  by_cases h : sgn (a.c - b.c) = 0
  · rw [if_pos h]
    rw [sgn_zero] at h
    unfold orL
    split
    · rw [show orL [] = 0 from rfl]; constructor <;> omega
    · constructor <;> omega
  · rw [if_neg h]
    rw [sgn_neg]
    rw [sgn_zero] at h
    constructor <;> omega
theorem prs_iff {p : List Pr} : prsOk p = true ↔ ∀ k, k < p.length → PrAt p k := by
  unfold prsOk
  simp only [Bool.and_eq_true, List.all_eq_true]
  constructor
  · intro ⟨h1, h2⟩ k hk
    exact ⟨h2 _ (nth_mem hk), fun h0 => prC_neg.1 (riseB_yes.1 h1 k (by omega) hk)⟩
  · intro h
    refine ⟨riseB_yes.2 fun k h1 h2 => prC_neg.2 ((h k h2).lt (by omega)), fun L hL => ?_⟩
    obtain ⟨k, hk, rfl⟩ := List.getElem_of_mem hL
    rw [← nth_get hk]
    exact (h k hk).ok
theorem refPairs_spec (sv : Value) (p : List Pr) (hz : ∀ u ∈ p, ∀ b ∈ u.pl, b.size ≤ 9223372036854775807) (w : World) (hs : Stb w [] (RdL sv p)) (hp : Stb w [] fun w' => ∀ u ∈ p, PrIn u w') : Calls Tryz.prog 22 #[sv] w fun e w' => e = .returned (.bool (prsOk p)) ∧ Cl w [] [] w' := by
  have hL := rd_len hs.here
  refine calls_cw (vs := [_]) Tryz.func22 rfl Tryz.ntmps22 rfl (Cl.start0 w) (cw_seq (cw_region (sr rfl rfl rfl ((q_assign rfl rfl)) (sw_nil (post_then (cw_seq (cw_seq (cw_region (sr rfl rfl rfl ((q_assign rfl rfl)) (sw_nil (post_then (cw_block ?_))))))))))))
  refine cw_loop (S := Nat) (fun k => [(0, [], sv), (3, [], .int .i64 k)]) (fun _ => Cl w [] []) (fun k => k ≤ p.length ∧ ∀ j, j < k → PrAt p j) (fun k => p.length - k) 0 ⟨by omega, fun j hj => by omega⟩ (by exact .cons rfl (.cons rfl .nil)) (fun w h => Cl.sel (by exact .nil _) w h) ?_
  rintro k ⟨hk, hbe⟩
  refine cw_seq (cw_seq (cw_region (sr rfl rfl rfl ((q_move rfl rfl)) (sr rfl rfl rfl ((q_move rfl rfl)) ?_))))
  refine sr rfl rfl rfl ((q_len rfl (.cons rfl inferInstance (.nil)) (by exact fun w hw => Stb.cl (by assumption) hw))) ?_
  refine sr rfl rfl rfl ((q_lss rfl rfl rfl)) (sw_nil (post_then ?_))
  refine cw_cond rfl (fun h => ?_) (fun h => ?_)
  · skip
    have hk' : k < p.length := by simp at h; omega
    have hno : ¬ PrAt p k → prsOk p = false := fun hn => by
      cases hx : prsOk p with
      | false => rfl
      | true => exact absurd (prs_iff.1 hx k hk') hn
    have e1 : 0 < k → ((k : Int) - 1).toNat = k - 1 := fun h0 => by omega
    have hx := rd_stb (hp.here _ (nth_mem hk'))
    have hx2 : Stb w [] (RdL (nth p ((k : Int) - 1).toNat).p.v (nth p ((k : Int) - 1).toNat).pl) := by
      by_cases h0 : 0 < k
      · rw [e1 h0]; exact rd_stb (hp.here _ (nth_mem (by omega)))
      · rw [show ((k : Int) - 1).toNat = 0 by omega]; exact rd_stb (hp.here _ (nth_mem (by omega)))
    have hzk := hz _ (nth_mem hk')
    refine cw_skip (post_then (cw_seq (cw_block (cw_seq (cw_seq (cw_region (sr rfl rfl rfl ((q_move rfl rfl)) (sr rfl rfl rfl ((q_move rfl rfl)) ?_))))))))
    refine sr rfl rfl rfl ((q_indexN rfl rfl rfl (by exact fun w hw => Stb.cl (by assumption) hw) (by intro hc; omega))) ?_
    refine sr rfl rfl rfl ((q_fieldEl rfl rfl (by exact fun w hw => Stb.cl (by assumption) hw) (by intro hc; omega))) ?_
    refine sr rfl rfl rfl ((q_loadF rfl rfl rfl (by exact fun w hw => Stb.cl (by assumption) hw) (by intro hc; omega) rfl)) ?_
    refine sw_step rfl rfl rfl (q_call (CanCall.mk Tryz.call66) rfl (.cons rfl inferInstance (.nil)) (fun _ w hw => callq hw (refLetter_spec _ w))) (sr rfl rfl rfl ((q_not rfl rfl)) (sr rfl rfl rfl ((q_move rfl rfl)) (sr rfl rfl rfl ((q_move rfl rfl)) (sr rfl rfl rfl ((q_move rfl rfl)) ?_))))
    refine sr rfl rfl rfl ((q_indexN rfl rfl rfl (by exact fun w hw => Stb.cl (by assumption) hw) (by intro hc; omega))) ?_
    refine sr rfl rfl rfl ((q_fieldEl rfl rfl (by exact fun w hw => Stb.cl (by assumption) hw) (by intro hc; omega))) ?_
    refine sr rfl rfl rfl ((q_loadF rfl rfl rfl (by exact fun w hw => Stb.cl (by assumption) hw) (by intro hc; omega) rfl)) ?_
    refine sw_step rfl rfl rfl (q_call (CanCall.mk Tryz.call23) rfl (.cons rfl inferInstance (.cons rfl inferInstance (.nil))) (fun _ w hw => callq hw (refPhones_spec _ _ _ w (by exact stb_arg hw (by assumption)) (by assumption)))) ?_
    refine sr rfl rfl rfl ((q_not rfl rfl)) (sr rfl rfl rfl ((q_or2 rfl rfl rfl)) (sr rfl rfl rfl ((q_move rfl rfl)) (sr rfl rfl rfl ((q_move rfl rfl)) (sr rfl rfl rfl ((q_move rfl rfl)) ?_))))
    refine sr rfl rfl rfl ((q_indexN rfl rfl rfl (by exact fun w hw => Stb.cl (by assumption) hw) (by intro hc; omega))) ?_
    refine sr rfl rfl rfl ((q_fieldEl rfl rfl (by exact fun w hw => Stb.cl (by assumption) hw) (by intro hc; omega))) ?_
    refine sr rfl rfl rfl ((q_loadF rfl rfl rfl (by exact fun w hw => Stb.cl (by assumption) hw) (by intro hc; omega) rfl)) ?_
    refine sr rfl rfl rfl ((q_lss rfl rfl rfl)) (sr rfl rfl rfl ((q_or2 rfl rfl rfl)) (sr rfl rfl rfl ((q_move rfl rfl)) (sr rfl rfl rfl ((q_move rfl rfl)) (sr rfl rfl rfl ((q_move rfl rfl)) ?_))))
    refine sr rfl rfl rfl ((q_indexN rfl rfl rfl (by exact fun w hw => Stb.cl (by assumption) hw) (by intro hc; omega))) ?_
    refine sr rfl rfl rfl ((q_fieldEl rfl rfl (by exact fun w hw => Stb.cl (by assumption) hw) (by intro hc; omega))) ?_
    refine sr rfl rfl rfl ((q_loadF rfl rfl rfl (by exact fun w hw => Stb.cl (by assumption) hw) (by intro hc; omega) rfl)) ?_
    refine sr rfl rfl rfl ((q_gtr rfl rfl rfl)) (sr rfl rfl rfl ((q_or2 rfl rfl rfl)) (sw_nil (post_then ?_)))
    refine cw_cond rfl (fun h2 => ?_) (fun h2 => ?_)
    · skip
      have hf : prsOk p = false := hno fun hh => by
        have f1 := hh.ok
        unfold prOk at f1
        simp only [Bool.and_eq_true, decide_eq_true_eq] at f1
        simp [f1] at h2
        omega
      refine cw_seq (cw_region (sr rfl rfl rfl ((q_assign rfl rfl)) (sw_nil (post_then (cw_ret (post_then_r (post_blk_r (post_then_r (post_then_r (post_blk_r (post_then_r (post_ret1 rfl (resOk_tmp rfl) ?_))))))))))))
      exact fun w' hw => ⟨by rw [hf], (fun w h => Cl.sel (by exact .nil _) w h) _ hw⟩
    · skip
      have h3 : prOk (nth p k) = true := by
        simp at h2
        unfold prOk
        simp only [Bool.and_eq_true, decide_eq_true_eq]
        exact ⟨⟨⟨h2.1.1.1, h2.1.1.2⟩, by omega⟩, by omega⟩
      refine cw_skip (post_then (cw_seq ?_))
      refine cw_region_q mixed_Tryz (by kernel_rfl) ?_
      refine qr rfl rfl rfl ((q_move rfl rfl)) (qr rfl rfl rfl ((q_gtr rfl rfl rfl)) (qr rfl rfl rfl ((q_move rfl rfl)) (qr rfl rfl rfl ((q_move rfl rfl)) (qr rfl rfl rfl ((q_move rfl rfl)) ?_))))
      refine qr rfl rfl rfl ((q_indexN rfl rfl rfl (by exact fun w hw => Stb.cl (by assumption) hw) (by intro hc; omega))) ?_
      refine qr rfl rfl rfl ((q_fieldEl rfl rfl (by exact fun w hw => Stb.cl (by assumption) hw) (by intro hc; omega))) ?_
      refine qr rfl rfl rfl ((q_loadF rfl rfl rfl (by exact fun w hw => Stb.cl (by assumption) hw) (by intro hc; omega) rfl)) ?_
      refine qr rfl rfl rfl ((q_move rfl rfl)) (qr rfl rfl rfl ((q_move rfl rfl)) ?_)
      refine qr rfl rfl rfl ((q_sub rfl rfl rfl (by intro hc; omega))) ?_
      refine qr rfl rfl rfl ((q_index rfl rfl rfl (by exact fun w hw => Stb.cl (by assumption) hw) (by intro hc; (simp only [AllT.iff, List.all_cons, List.all_nil, id, Bool.and_eq_true, Bool.not_eq_true', decide_eq_true_eq, decide_eq_false_iff_not, and_true] at hc; omega)))) ?_
      refine qr rfl rfl rfl ((q_fieldEl rfl rfl (by exact fun w hw => Stb.cl (by assumption) hw) (by intro hc; omega))) ?_
      refine qr rfl rfl rfl ((q_loadF rfl rfl rfl (by exact fun w hw => Stb.cl (by assumption) hw) (by intro hc; omega) rfl)) ?_
      refine qr rfl rfl rfl ((q_lss rfl rfl rfl)) (qr rfl rfl rfl ((q_move rfl rfl)) (qr rfl rfl rfl ((q_move rfl rfl)) (qr rfl rfl rfl ((q_move rfl rfl)) ?_)))
      refine qr rfl rfl rfl ((q_indexN rfl rfl rfl (by exact fun w hw => Stb.cl (by assumption) hw) (by intro hc; omega))) ?_
      refine qr rfl rfl rfl ((q_fieldEl rfl rfl (by exact fun w hw => Stb.cl (by assumption) hw) (by intro hc; omega))) ?_
      refine qr rfl rfl rfl ((q_loadF rfl rfl rfl (by exact fun w hw => Stb.cl (by assumption) hw) (by intro hc; omega) rfl)) ?_
      refine qr rfl rfl rfl ((q_move rfl rfl)) (qr rfl rfl rfl ((q_move rfl rfl)) ?_)
      refine qr rfl rfl rfl ((q_sub rfl rfl rfl (by intro hc; omega))) ?_
      refine qr rfl rfl rfl ((q_index rfl rfl rfl (by exact fun w hw => Stb.cl (by assumption) hw) (by intro hc; (simp only [AllT.iff, List.all_cons, List.all_nil, id, Bool.and_eq_true, Bool.not_eq_true', decide_eq_true_eq, decide_eq_false_iff_not, and_true] at hc; omega)))) ?_
      refine qr rfl rfl rfl ((q_fieldEl rfl rfl (by exact fun w hw => Stb.cl (by assumption) hw) (by intro hc; omega))) ?_
      refine qr rfl rfl rfl ((q_loadF rfl rfl rfl (by exact fun w hw => Stb.cl (by assumption) hw) (by intro hc; omega) rfl)) ?_
      refine qr rfl rfl rfl ((q_eql rfl rfl rfl)) (qr rfl rfl rfl ((q_move rfl rfl)) (qr rfl rfl rfl ((q_move rfl rfl)) (qr rfl rfl rfl ((q_move rfl rfl)) ?_)))
      refine qr rfl rfl rfl ((q_sub rfl rfl rfl (by intro hc; omega))) ?_
      refine qr rfl rfl rfl ((q_index rfl rfl rfl (by exact fun w hw => Stb.cl (by assumption) hw) (by intro hc; (simp only [AllT.iff, List.all_cons, List.all_nil, id, Bool.and_eq_true, Bool.not_eq_true', decide_eq_true_eq, decide_eq_false_iff_not, and_true] at hc; omega)))) ?_
      refine qr rfl rfl rfl ((q_fieldEl rfl rfl (by exact fun w hw => Stb.cl (by assumption) hw) (by intro hc; omega))) ?_
      refine qr rfl rfl rfl ((q_loadF rfl rfl rfl (by exact fun w hw => Stb.cl (by assumption) hw) (by intro hc; omega) rfl)) ?_
      refine qr rfl rfl rfl ((q_move rfl rfl)) (qr rfl rfl rfl ((q_move rfl rfl)) ?_)
      refine qr rfl rfl rfl ((q_indexN rfl rfl rfl (by exact fun w hw => Stb.cl (by assumption) hw) (by intro hc; omega))) ?_
      refine qr rfl rfl rfl ((q_fieldEl rfl rfl (by exact fun w hw => Stb.cl (by assumption) hw) (by intro hc; omega))) ?_
      refine qr rfl rfl rfl ((q_loadF rfl rfl rfl (by exact fun w hw => Stb.cl (by assumption) hw) (by intro hc; omega) rfl)) ?_
      refine qw_step rfl rfl rfl (q_call (CanCall.mk Tryz.call38) rfl (.cons rfl inferInstance (.cons rfl inferInstance (.nil))) (fun _ w hw => callq hw (order_spec _ _ _ _ w (by exact stb_arg hw (by assumption)) (by exact stb_arg hw (by assumption))))) ?_
      refine qr rfl rfl rfl ((q_geq rfl rfl rfl)) (qr rfl rfl rfl ((q_and2 rfl rfl rfl)) (qr rfl rfl rfl ((q_or2 rfl rfl rfl)) (qr rfl rfl rfl ((q_and2 rfl rfl rfl)) (qw_end (post_then ?_)))))
      refine cw_cond rfl (fun h4 => ?_) (fun h4 => ?_)
      · skip
        have hf : prsOk p = false := hno fun hh => by
          by_cases hk0 : 0 < k
          · have f2 := hh.lt hk0
            rw [e1 hk0] at h4
            simp [hk0] at h4
            omega
          · have hk1 : k = 0 := by omega
            subst hk1
            simp at h4
        refine cw_seq (cw_region (sr rfl rfl rfl ((q_assign rfl rfl)) (sw_nil (post_then (cw_ret (post_blk_r (post_then_r (post_then_r (post_blk_r (post_then_r (post_ret1 rfl (resOk_tmp rfl) ?_)))))))))))
        exact fun w' hw => ⟨by rw [hf], (fun w h => Cl.sel (by exact .nil _) w h) _ hw⟩
      · skip
        have h9 : PrAt p k := by
          refine ⟨h3, fun hk0 => ?_⟩
          rw [e1 hk0] at h4
          simp [hk0] at h4
          by_cases h5 : (nth p (k - 1)).c = (nth p k).c
          · right
            have := h4.2 h5.symm
            exact ⟨h5, by omega⟩
          · left; omega
        refine cw_skip (post_blk (post_then (cw_region (sr rfl rfl rfl ((q_move rfl rfl)) ?_))))
        refine sr rfl rfl rfl ((q_add rfl rfl rfl (by intro hc; omega))) ?_
        refine sr rfl rfl rfl ((q_assign rfl rfl)) (sw_nil ?_)
        exact post_next (k + 1) (by exact .cons rfl (.cons rfl .nil)) (fun w h => Cl.sel (by exact .nil _) w h) ⟨by omega, fun i hi => by
          rcases Nat.lt_or_ge i k with h6 | h6
          · exact hbe i h6
          · have : i = k := by omega
            subst this; exact h9⟩ (by omega)
  · skip
    have hk' : k = p.length := by simp at h; omega
    subst hk'
    have hf : prsOk p = true := prs_iff.2 hbe
    refine cw_exit (post_then_x (post_then_x (post_blk_eq (post_then (cw_seq (cw_region (sr rfl rfl rfl ((q_assign rfl rfl)) (sw_nil (post_then (cw_ret (post_ret1 rfl (resOk_tmp rfl) ?_)))))))))))
    exact fun w' hw => ⟨by rw [hf], (fun w h => Cl.sel (by exact .nil _) w h) _ hw⟩
def lexOk (l : List Sp) : Bool := riseB spC l && l.all spOk
structure SpAt (l : List Sp) (k : Nat) : Prop where
  ok : spOk (nth l k) = true
  lt : 0 < k → sLt (nth l (k - 1)).word (nth l k).word = true
theorem lex_iff {l : List Sp} : lexOk l = true ↔ ∀ k, k < l.length → SpAt l k := by
  unfold lexOk
  simp only [Bool.and_eq_true, List.all_eq_true]
  constructor
  · intro ⟨h1, h2⟩ k hk
    exact ⟨h2 _ (nth_mem hk), fun h0 => cmpS_neg.1 (riseB_yes.1 h1 k (by omega) hk)⟩
  · intro h
    refine ⟨riseB_yes.2 fun k h1 h2 => cmpS_neg.2 ((h k h2).lt (by omega)), fun L hL => ?_⟩
    obtain ⟨k, hk, rfl⟩ := List.getElem_of_mem hL
    rw [← nth_get hk]
    exact (h k hk).ok
theorem refLexicon_spec (sv : Value) (l : List Sp) (hz : ∀ u ∈ l, u.word.size ≤ 1000 ∧ ∀ b ∈ u.pl, b.size ≤ 9223372036854775807) (w : World) (hT : Stb w [] Tab) (hs : Stb w [] (RdL sv l)) (hp : Stb w [] fun w' => ∀ u ∈ l, SpIn u w') : Calls Tryz.prog 51 #[sv] w fun e w' => e = .returned (.bool (lexOk l)) ∧ Cl w [] [] w' := by
  have hL := rd_len hs.here
  refine calls_cw (vs := [_]) Tryz.func51 rfl Tryz.ntmps51 rfl (Cl.start0 w) (cw_seq (cw_region (sr rfl rfl rfl ((q_assign rfl rfl)) (sw_nil (post_then (cw_seq (cw_seq (cw_region (sr rfl rfl rfl ((q_assign rfl rfl)) (sw_nil (post_then (cw_block ?_))))))))))))
  refine cw_loop (S := Nat) (fun k => [(0, [], sv), (3, [], .int .i64 k)]) (fun _ => Cl w [] []) (fun k => k ≤ l.length ∧ ∀ j, j < k → SpAt l j) (fun k => l.length - k) 0 ⟨by omega, fun j hj => by omega⟩ (by exact .cons rfl (.cons rfl .nil)) (fun w h => Cl.sel (by exact .nil _) w h) ?_
  rintro k ⟨hk, hbe⟩
  refine cw_seq (cw_seq (cw_region (sr rfl rfl rfl ((q_move rfl rfl)) (sr rfl rfl rfl ((q_move rfl rfl)) ?_))))
  refine sr rfl rfl rfl ((q_len rfl (.cons rfl inferInstance (.nil)) (by exact fun w hw => Stb.cl (by assumption) hw))) ?_
  refine sr rfl rfl rfl ((q_lss rfl rfl rfl)) (sw_nil (post_then ?_))
  refine cw_cond rfl (fun h => ?_) (fun h => ?_)
  · skip
    have hk' : k < l.length := by simp at h; omega
    have hno : ¬ SpAt l k → lexOk l = false := fun hn => by
      cases hx : lexOk l with
      | false => rfl
      | true => exact absurd (lex_iff.1 hx k hk') hn
    have e1 : 0 < k → ((k : Int) - 1).toNat = k - 1 := fun h0 => by omega
    have hx := rd_stb (hp.here _ (nth_mem hk'))
    obtain ⟨hzw, hzk⟩ := hz _ (nth_mem hk')
    refine cw_skip (post_then (cw_seq (cw_block (cw_seq (cw_region (sr rfl rfl rfl ((q_move rfl rfl)) (sr rfl rfl rfl ((q_move rfl rfl)) ?_)))))))
    refine sr rfl rfl rfl ((q_indexN rfl rfl rfl (by exact fun w hw => Stb.cl (by assumption) hw) (by intro hc; omega))) ?_
    refine sr rfl rfl rfl ((q_fieldEl rfl rfl (by exact fun w hw => Stb.cl (by assumption) hw) (by intro hc; omega))) ?_
    refine sr rfl rfl rfl ((q_loadF rfl rfl rfl (by exact fun w hw => Stb.cl (by assumption) hw) (by intro hc; omega) rfl)) ?_
    refine sw_x rfl rfl rfl (e_call (CanCall.mk Tryz.call21) rfl (.cons rfl inferInstance (.nil)) (fun w hw => refLetters_spec _ w (by omega) (stb_arg hw (by assumption)))) (fun x18 => ?_)
    refine sw_imp (fun hx18 => ?_)
    refine sr rfl rfl rfl ((q_move rfl rfl)) (sr rfl rfl rfl ((q_extract rfl rfl rfl)) (sr rfl rfl rfl ((q_extract rfl rfl rfl)) (sr rfl rfl rfl ((q_assign rfl rfl)) (sr rfl rfl rfl ((q_assign rfl rfl)) (sw_nil (post_then (cw_seq ?_)))))))
    refine cw_region_q mixed_Tryz (by kernel_rfl) ?_
    refine qr rfl rfl rfl ((q_move rfl rfl)) (qr rfl rfl rfl ((q_not rfl rfl)) (qr rfl rfl rfl ((q_move rfl rfl)) (qr rfl rfl rfl ((q_move rfl rfl)) (qr rfl rfl rfl ((q_move rfl rfl)) ?_))))
    refine qr rfl rfl rfl ((q_indexN rfl rfl rfl (by exact fun w hw => Stb.cl (by assumption) hw) (by intro hc; omega))) ?_
    refine qr rfl rfl rfl ((q_fieldEl rfl rfl (by exact fun w hw => Stb.cl (by assumption) hw) (by intro hc; omega))) ?_
    refine qr rfl rfl rfl ((q_loadF rfl rfl rfl (by exact fun w hw => Stb.cl (by assumption) hw) (by intro hc; omega) rfl)) ?_
    refine qw_step rfl rfl rfl (q_call (CanCall.mk Tryz.call23) rfl (.cons rfl inferInstance (.cons rfl inferInstance (.nil))) (fun _ w hw => callq hw (refPhones_spec _ _ _ w (by exact stb_arg hw (by assumption)) (by assumption)))) ?_
    refine qr rfl rfl rfl ((q_not rfl rfl)) (qr rfl rfl rfl ((q_or2 rfl rfl rfl)) (qr rfl rfl rfl ((q_move rfl rfl)) (qr rfl rfl rfl ((q_move rfl rfl)) (qr rfl rfl rfl ((q_gtr rfl rfl rfl)) (qr rfl rfl rfl ((q_move rfl rfl)) (qr rfl rfl rfl ((q_move rfl rfl)) (qr rfl rfl rfl ((q_move rfl rfl)) ?_)))))))
    refine qr rfl rfl rfl ((q_indexN rfl rfl rfl (by exact fun w hw => Stb.cl (by assumption) hw) (by intro hc; omega))) ?_
    refine qr rfl rfl rfl ((q_fieldEl rfl rfl (by exact fun w hw => Stb.cl (by assumption) hw) (by intro hc; omega))) ?_
    refine qr rfl rfl rfl ((q_loadF rfl rfl rfl (by exact fun w hw => Stb.cl (by assumption) hw) (by intro hc; omega) rfl)) ?_
    refine qr rfl rfl rfl ((q_move rfl rfl)) (qr rfl rfl rfl ((q_move rfl rfl)) ?_)
    refine qr rfl rfl rfl ((q_sub rfl rfl rfl (by intro hc; omega))) ?_
    refine qr rfl rfl rfl ((q_index rfl rfl rfl (by exact fun w hw => Stb.cl (by assumption) hw) (by intro hc; (simp only [AllT.iff, List.all_cons, List.all_nil, id, Bool.and_eq_true, Bool.not_eq_true', decide_eq_true_eq, decide_eq_false_iff_not, and_true] at hc; omega)))) ?_
    refine qr rfl rfl rfl ((q_fieldEl rfl rfl (by exact fun w hw => Stb.cl (by assumption) hw) (by intro hc; omega))) ?_
    refine qr rfl rfl rfl ((q_loadF rfl rfl rfl (by exact fun w hw => Stb.cl (by assumption) hw) (by intro hc; omega) rfl)) ?_
    refine qr rfl rfl rfl ((q_leqStr rfl rfl rfl Tryz.underlying9)) (qr rfl rfl rfl ((q_and2 rfl rfl rfl)) (qr rfl rfl rfl ((q_or2 rfl rfl rfl)) (qw_end (post_then ?_))))
    refine cw_cond rfl (fun h2 => ?_) (fun h2 => ?_)
    · skip
      have hf : lexOk l = false := hno fun hh => by
        have f1 := hh.ok
        unfold spOk at f1
        simp only [Bool.and_eq_true] at f1
        by_cases hk0 : 0 < k
        · have f2 := hh.lt hk0
          rw [e1 hk0] at h2
          have f6 := lt_asym f2
          simp [f1, f6, hk0] at h2
        · have hk1 : k = 0 := by omega
          subst hk1
          simp [f1] at h2
      refine cw_seq (cw_region (sr rfl rfl rfl ((q_assign rfl rfl)) (sw_nil (post_then (cw_ret (post_blk_r (post_then_r (post_then_r (post_blk_r (post_then_r (post_ret1 rfl (resOk_tmp rfl) ?_)))))))))))
      exact fun w' hw => ⟨by rw [hf], (fun w h => Cl.sel (by exact .nil _) w h) _ hw⟩
    · skip
      have h9 : SpAt l k := by
        by_cases hk0 : 0 < k
        · rw [e1 hk0] at h2
          simp [hk0] at h2
          exact ⟨by unfold spOk; rw [h2.1.1, h2.1.2]; rfl, fun _ => lt_of h2.2⟩
        · have hk1 : k = 0 := by omega
          subst hk1
          simp at h2
          exact ⟨by unfold spOk; rw [h2.1, h2.2]; rfl, fun _ => by omega⟩
      refine cw_skip (post_blk (post_then (cw_region (sr rfl rfl rfl ((q_move rfl rfl)) ?_))))
      refine sr rfl rfl rfl ((q_add rfl rfl rfl (by intro hc; omega))) ?_
      refine sr rfl rfl rfl ((q_assign rfl rfl)) (sw_nil ?_)
      exact post_next (k + 1) (by exact .cons rfl (.cons rfl .nil)) (fun w h => Cl.sel (by exact .nil _) w h) ⟨by omega, fun i hi => by
        rcases Nat.lt_or_ge i k with h6 | h6
        · exact hbe i h6
        · have : i = k := by omega
          subst this; exact h9⟩ (by omega)
  · skip
    have hk' : k = l.length := by simp at h; omega
    subst hk'
    have hf : lexOk l = true := lex_iff.2 hbe
    refine cw_exit (post_then_x (post_then_x (post_blk_eq (post_then (cw_seq (cw_region (sr rfl rfl rfl ((q_assign rfl rfl)) (sw_nil (post_then (cw_ret (post_ret1 rfl (resOk_tmp rfl) ?_)))))))))))
    exact fun w' hw => ⟨by rw [hf], (fun w h => Cl.sel (by exact .nil _) w h) _ hw⟩
end Go.Proofs.YtkmbliojafefdaaGreatDoor

set_option autoImplicit false
set_option maxRecDepth 100000
namespace Go.Proofs.YtkmbliojafefdaaGreatDoor
open Go.Sx
open Enc (enc val)
structure CdAt (t : List Cond) (m : Nat) : Prop where
  ok : condOk (nth t m) = true
  lt : 0 < m → (nth t (m - 1)).at_ < (nth t m).at_
structure ChAt (rl : List Chc) (j : Nat) : Prop where
  ph : phonesOk (nth rl j).pl 3 = true
  two : (nth rl j).tl.length ≤ 2
  emp : (nth rl j).tl.length = 0 ↔ j + 1 = rl.length
  cs : ∀ m, m < (nth rl j).tl.length → CdAt (nth rl j).tl m
structure LeAt (bl : List Let) (k : Nat) : Prop where
  c : possC (nth bl k).c = true
  lt : 0 < k → (nth bl (k - 1)).c < (nth bl k).c
  l1 : 1 ≤ (nth bl k).rl.length
  l2 : (nth bl k).rl.length ≤ 1000
  rs : ∀ j, j < (nth bl k).rl.length → ChAt (nth bl k).rl j
theorem tests_iff {t : List Cond} : testsOk t = true ↔ ∀ m, m < t.length → CdAt t m := by
  unfold testsOk
  simp only [Bool.and_eq_true, List.all_eq_true]
  constructor
  · intro ⟨h1, h2⟩ m hm
    exact ⟨h1 _ (nth_mem hm), fun h0 => by have := riseB_yes.1 h2 m (by omega) hm; omega⟩
  · intro h
    refine ⟨fun x hx => ?_, riseB_yes.2 fun m h1 h2 => by have := (h m h2).lt (by omega); omega⟩
    obtain ⟨m, hm, rfl⟩ := List.getElem_of_mem hx
    have := (h m hm).ok
    rwa [nth_get hm] at this
theorem chc_iff {rl : List Chc} {j : Nat} : chcOk (decide (j + 1 = rl.length)) (nth rl j) = true ↔ ChAt rl j := by
  unfold chcOk
  simp only [Bool.and_eq_true, beq_iff_eq, decide_eq_true_eq, decide_eq_decide]
  constructor
  · intro ⟨⟨⟨h1, h2⟩, h3⟩, h4⟩
    exact ⟨h4, h2, h1, tests_iff.1 h3⟩
  · intro h
    exact ⟨⟨⟨h.emp, h.two⟩, tests_iff.2 h.cs⟩, h.ph⟩
theorem book_iff {bl : List Let} : bookOk bl = true ↔ ∀ k, k < bl.length → LeAt bl k := by
  unfold bookOk
  simp only [Bool.and_eq_true, List.all_eq_true]
  have key : ∀ L : Let, letOk L = true ↔ possC L.c = true ∧ 1 ≤ L.rl.length ∧ L.rl.length ≤ 1000 ∧ ∀ j, j < L.rl.length → ChAt L.rl j := fun L => by
    unfold letOk
    simp only [Bool.and_eq_true, List.all_eq_true, decide_eq_true_eq, List.mem_range, chc_iff]
    exact ⟨fun h => ⟨h.1.1.1, h.1.1.2, h.1.2, h.2⟩, fun h => ⟨⟨⟨h.1, h.2.1⟩, h.2.2.1⟩, h.2.2.2⟩⟩
  constructor
  · intro ⟨h1, h2⟩ k hk
    obtain ⟨g1, g2, g3, g4⟩ := (key _).1 (h2 _ (nth_mem hk))
    exact ⟨g1, fun h0 => by have := riseB_yes.1 h1 k (by omega) hk; rw [sgn_neg] at this; omega, g2, g3, g4⟩
  · intro h
    refine ⟨riseB_yes.2 fun k h1 h2 => by rw [sgn_neg]; have := (h k h2).lt (by omega); omega, fun L hL => ?_⟩
    obtain ⟨k, hk, rfl⟩ := List.getElem_of_mem hL
    rw [key, ← nth_get hk]
    have := h k hk
    exact ⟨this.c, this.l1, this.l2, this.rs⟩
theorem refBook_spec (b : Bk) (hz : ∀ L ∈ b.bl, ∀ r ∈ L.rl, ∀ p ∈ r.pl, p.size ≤ 9223372036854775807) (w : World) (hb : Stb w [] (BkIn b)) : Calls Tryz.prog 41 #[val b] w fun e w' => e = .returned (.bool (bookOk b.bl)) ∧ Cl w [] [] w' := by
  have hB := rd_stb hb.here.1
  have hL := rd_len hB.here
  refine calls_cw (vs := [_]) Tryz.func41 rfl Tryz.ntmps41 rfl (Cl.start0 w) (cw_seq (cw_region ?_))
  refine sw_x rfl rfl rfl (e_box rfl rfl rfl) (fun b1 => ?_)
  refine sr rfl rfl rfl ((q_assign rfl rfl)) (sw_nil (post_then (cw_seq (cw_seq (cw_region (sr rfl rfl rfl ((q_assign rfl rfl)) (sw_nil (post_then (cw_block ?_)))))))))
  refine cw_loop (S := Nat) (fun k => [(1, [], .pointer (some ⟨b1, 0, none⟩)), (3, [], .int .i64 k)]) (fun _ => Cl w [] [blk b1 [b.b.v] 45]) (fun k => k ≤ b.bl.length ∧ ∀ j, j < k → LeAt b.bl j) (fun k => b.bl.length - k) 0 ⟨by omega, fun j hj => by omega⟩ (by exact .cons rfl (.cons rfl .nil)) (fun w h => Cl.sel (by exact .take 0 rfl (.nil _)) w h) ?_
  rintro k ⟨hk, hbe⟩
  refine cw_seq (cw_seq (cw_region (sr rfl rfl rfl ((q_move rfl rfl)) (sr rfl rfl rfl ((q_fieldAddr rfl rfl)) ?_))))
  refine sr rfl rfl rfl ((q_loadC rfl rfl (by exact .head _) rfl)) ?_
  refine sr rfl rfl rfl ((q_len rfl (.cons rfl inferInstance (.nil)) (by exact fun w hw => Stb.cl (by assumption) hw))) ?_
  refine sr rfl rfl rfl ((q_lss rfl rfl rfl)) (sw_nil (post_then ?_))
  refine cw_cond rfl (fun h => ?_) (fun h => ?_)
  · skip
    have hk' : k < b.bl.length := by simp at h; omega
    have hno : ¬ LeAt b.bl k → bookOk b.bl = false := fun hn => by
      cases hx : bookOk b.bl with
      | false => rfl
      | true => exact absurd (book_iff.1 hx k hk') hn
    have e1 : 0 < k → ((k : Int) - 1).toNat = k - 1 := fun h0 => by omega
    have hLi := hb.here.2 _ (nth_mem hk')
    have hzi := hz _ (nth_mem hk')
    obtain ⟨L, hLe⟩ : ∃ L, nth b.bl k = L := ⟨_, rfl⟩
    have hAt : ∀ hc : possC L.c = true, (0 < k → (nth b.bl (k - 1)).c < L.c) → 1 ≤ L.rl.length → L.rl.length ≤ 1000 → (∀ j, j < L.rl.length → ChAt L.rl j) → LeAt b.bl k := fun a1 a2 a3 a4 a5 => by
      subst hLe; exact ⟨a1, a2, a3, a4, a5⟩
    have hAf : LeAt b.bl k → possC L.c = true ∧ (0 < k → (nth b.bl (k - 1)).c < L.c) ∧ 1 ≤ L.rl.length ∧ L.rl.length ≤ 1000 ∧ (∀ j, j < L.rl.length → ChAt L.rl j) := fun hh => by
      subst hLe; exact ⟨hh.c, hh.lt, hh.l1, hh.l2, hh.rs⟩
    rw [hLe] at hLi hzi
    have hR := rd_stb hLi.1
    have hRl := rd_len hR.here
    refine cw_skip (post_then (cw_seq (cw_block (cw_seq (cw_region (sr rfl rfl rfl ((q_fieldAddr rfl rfl)) ?_))))))
    refine sr rfl rfl rfl ((q_loadC rfl rfl (by exact .head _) rfl)) ?_
    refine sr rfl rfl rfl ((q_move rfl rfl)) ?_
    refine sr rfl rfl rfl ((q_indexN rfl rfl rfl (by exact fun w hw => Stb.cl (by assumption) hw) (by intro hc; omega))) ?_
    refine sr rfl rfl rfl ((q_loadEl rfl rfl rfl (by exact fun w hw => Stb.cl (by assumption) hw) (by intro hc; omega))) ?_
    rw [hLe]
    refine sw_x rfl rfl rfl (e_alloc rfl) (fun b4 => ?_)
    refine sw_eff0 rfl rfl (e_store (i := 0) rfl rfl rfl rfl rfl rfl rfl rfl) (sw_nil (post_then (cw_seq (cw_seq ?_))))
    refine cw_region_q mixed_Tryz (by kernel_rfl) ?_
    refine qr rfl rfl rfl ((q_fieldAddr rfl rfl)) ?_
    refine qr rfl rfl rfl ((q_loadC rfl rfl (by exact .head _) rfl)) ?_
    refine qw_step rfl rfl rfl (q_call (CanCall.mk Tryz.call66) rfl (.cons rfl inferInstance (.nil)) (fun _ w hw => callq hw (refLetter_spec _ w))) (qr rfl rfl rfl ((q_not rfl rfl)) (qr rfl rfl rfl ((q_move rfl rfl)) (qr rfl rfl rfl ((q_move rfl rfl)) (qr rfl rfl rfl ((q_gtr rfl rfl rfl)) (qr rfl rfl rfl ((q_move rfl rfl)) (qr rfl rfl rfl ((q_fieldAddr rfl rfl)) ?_))))))
    refine qr rfl rfl rfl ((q_loadC rfl rfl (by exact .head _) rfl)) ?_
    refine qr rfl rfl rfl ((q_fieldAddr rfl rfl)) ?_
    refine qr rfl rfl rfl ((q_loadC rfl rfl (by exact .tail _ (.head _)) rfl)) ?_
    refine qr rfl rfl rfl ((q_move rfl rfl)) ?_
    refine qr rfl rfl rfl ((q_sub rfl rfl rfl (by intro hc; omega))) ?_
    refine qr rfl rfl rfl ((q_index rfl rfl rfl (by exact fun w hw => Stb.cl (by assumption) hw) (by intro hc; (simp only [AllT.iff, List.all_cons, List.all_nil, id, Bool.and_eq_true, Bool.not_eq_true', decide_eq_true_eq, decide_eq_false_iff_not, and_true] at hc; omega)))) ?_
    refine qr rfl rfl rfl ((q_fieldEl rfl rfl (by exact fun w hw => Stb.cl (by assumption) hw) (by intro hc; omega))) ?_
    refine qr rfl rfl rfl ((q_loadF rfl rfl rfl (by exact fun w hw => Stb.cl (by assumption) hw) (by intro hc; omega) rfl)) ?_
    refine qr rfl rfl rfl ((q_leq rfl rfl rfl)) (qr rfl rfl rfl ((q_and2 rfl rfl rfl)) (qr rfl rfl rfl ((q_or2 rfl rfl rfl)) (qr rfl rfl rfl ((q_move rfl rfl)) (qr rfl rfl rfl ((q_fieldAddr rfl rfl)) ?_))))
    refine qr rfl rfl rfl ((q_loadC rfl rfl (by exact .head _) rfl)) ?_
    refine qr rfl rfl rfl ((q_len rfl (.cons rfl inferInstance (.nil)) (by exact fun w hw => Stb.cl (by assumption) hw))) ?_
    refine qr rfl rfl rfl ((q_lss rfl rfl rfl)) (qr rfl rfl rfl ((q_or2 rfl rfl rfl)) (qr rfl rfl rfl ((q_move rfl rfl)) (qr rfl rfl rfl ((q_fieldAddr rfl rfl)) ?_)))
    refine qr rfl rfl rfl ((q_loadC rfl rfl (by exact .head _) rfl)) ?_
    refine qr rfl rfl rfl ((q_len rfl (.cons rfl inferInstance (.nil)) (by exact fun w hw => Stb.cl (by assumption) hw))) ?_
    refine qr rfl rfl rfl ((q_gtr rfl rfl rfl)) (qr rfl rfl rfl ((q_or2 rfl rfl rfl)) (qw_end (post_then ?_)))
    refine cw_cond rfl (fun h2 => ?_) (fun h2 => ?_)
    · skip
      have hf : bookOk b.bl = false := hno fun hh => by
        obtain ⟨f1, f2, f3, f4, _⟩ := hAf hh
        by_cases hk0 : 0 < k
        · have f2 := f2 hk0
          rw [e1 hk0] at h2
          simp [f1, hk0] at h2
          omega
        · have hk1 : k = 0 := by omega
          subst hk1
          simp [f1] at h2
          omega
      refine cw_seq (cw_region (sr rfl rfl rfl ((q_assign rfl rfl)) (sw_nil (post_then (cw_ret (post_then_r (post_blk_r (post_then_r (post_then_r (post_blk_r (post_then_r (post_ret1 rfl (resOk_tmp rfl) ?_))))))))))))
      exact fun w' hw => ⟨by rw [hf], (fun w h => Cl.sel (by exact .nil _) w h) _ hw⟩
    · skip
      have h3 : possC L.c = true ∧ (0 < k → (nth b.bl (k - 1)).c < L.c) ∧ 1 ≤ L.rl.length ∧ L.rl.length ≤ 1000 := by
        by_cases hk0 : 0 < k
        · rw [e1 hk0] at h2
          simp [hk0] at h2
          exact ⟨h2.1.1.1, fun _ => by omega, by omega, by omega⟩
        · have hk1 : k = 0 := by omega
          subst hk1
          simp at h2
          exact ⟨h2.1.1, fun h0 => by omega, by omega, by omega⟩
      refine cw_skip (post_then (cw_seq (cw_region (sr rfl rfl rfl ((q_assign rfl rfl)) (sw_nil (post_then (cw_block ?_)))))))
      refine cw_loop (S := Nat) (fun j => [(1, [], .pointer (some ⟨b1, 0, none⟩)), (3, [], .int .i64 k), (4, [], .pointer (some ⟨b4, 0, none⟩)), (5, [], .int .i64 j)]) (fun _ => Cl w [] [blk b4 (enc L) 61, blk b1 [b.b.v] 45]) (fun j => j ≤ L.rl.length ∧ ∀ i, i < j → ChAt L.rl i) (fun j => L.rl.length - j) 0 ⟨by omega, fun j hj => by omega⟩ (by exact .cons rfl (.cons rfl (.cons rfl (.cons rfl .nil)))) (fun w h => Cl.sel (by exact .take 0 rfl (.take 0 rfl (.nil _))) w h) ?_
      rintro j ⟨hj, hbj⟩
      refine cw_seq (cw_seq (cw_region (sr rfl rfl rfl ((q_move rfl rfl)) (sr rfl rfl rfl ((q_fieldAddr rfl rfl)) ?_))))
      refine sr rfl rfl rfl ((q_loadC rfl rfl (by exact .head _) rfl)) ?_
      refine sr rfl rfl rfl ((q_len rfl (.cons rfl inferInstance (.nil)) (by exact fun w hw => Stb.cl (by assumption) hw))) ?_
      refine sr rfl rfl rfl ((q_lss rfl rfl rfl)) (sw_nil (post_then ?_))
      refine cw_cond rfl (fun h4 => ?_) (fun h4 => ?_)
      · skip
        have hj' : j < L.rl.length := by simp at h4; omega
        have hno2 : ¬ ChAt L.rl j → bookOk b.bl = false := fun hn => hno fun hh => hn ((hAf hh).2.2.2.2 j hj')
        have hC := hLi.2 _ (nth_mem hj')
        have hC1 := rd_stb hC.1
        have hC2 := rd_stb hC.2
        have hC1l := rd_len hC1.here
        have hzp := hzi _ (nth_mem hj')
        refine cw_skip (post_then (cw_seq (cw_block (cw_seq (cw_region (sr rfl rfl rfl ((q_fieldAddr rfl rfl)) ?_))))))
        refine sr rfl rfl rfl ((q_loadC rfl rfl (by exact .head _) rfl)) ?_
        refine sr rfl rfl rfl ((q_move rfl rfl)) ?_
        refine sr rfl rfl rfl ((q_indexN rfl rfl rfl (by exact fun w hw => Stb.cl (by assumption) hw) (by intro hc; omega))) ?_
        refine sr rfl rfl rfl ((q_fieldEl rfl rfl (by exact fun w hw => Stb.cl (by assumption) hw) (by intro hc; omega))) ?_
        refine sr rfl rfl rfl ((q_loadF rfl rfl rfl (by exact fun w hw => Stb.cl (by assumption) hw) (by intro hc; omega) rfl)) ?_
        refine sr rfl rfl rfl ((q_assign rfl rfl)) (sw_nil (post_then (cw_seq (cw_seq (cw_region (sr rfl rfl rfl ((q_fieldAddr rfl rfl)) ?_))))))
        refine sr rfl rfl rfl ((q_loadC rfl rfl (by exact .head _) rfl)) ?_
        refine sr rfl rfl rfl ((q_move rfl rfl)) ?_
        refine sr rfl rfl rfl ((q_indexN rfl rfl rfl (by exact fun w hw => Stb.cl (by assumption) hw) (by intro hc; omega))) ?_
        refine sr rfl rfl rfl ((q_fieldEl rfl rfl (by exact fun w hw => Stb.cl (by assumption) hw) (by intro hc; omega))) ?_
        refine sr rfl rfl rfl ((q_loadF rfl rfl rfl (by exact fun w hw => Stb.cl (by assumption) hw) (by intro hc; omega) rfl)) ?_
        refine sw_step rfl rfl rfl (q_call (CanCall.mk Tryz.call23) rfl (.cons rfl inferInstance (.cons rfl inferInstance (.nil))) (fun _ w hw => callq hw (refPhones_spec _ _ _ w (by exact stb_arg hw (by assumption)) (by assumption)))) ?_
        refine sr rfl rfl rfl ((q_not rfl rfl)) (sr rfl rfl rfl ((q_move rfl rfl)) (sr rfl rfl rfl ((q_move rfl rfl)) ?_))
        refine sr rfl rfl rfl ((q_len rfl (.cons rfl inferInstance (.nil)) (by exact fun w hw => Stb.cl (by assumption) hw))) ?_
        refine sr rfl rfl rfl ((q_gtr rfl rfl rfl)) (sr rfl rfl rfl ((q_or2 rfl rfl rfl)) (sr rfl rfl rfl ((q_move rfl rfl)) (sr rfl rfl rfl ((q_move rfl rfl)) ?_)))
        refine sr rfl rfl rfl ((q_len rfl (.cons rfl inferInstance (.nil)) (by exact fun w hw => Stb.cl (by assumption) hw))) ?_
        refine sr rfl rfl rfl ((q_eql rfl rfl rfl)) (sr rfl rfl rfl ((q_move rfl rfl)) (sr rfl rfl rfl ((q_fieldAddr rfl rfl)) ?_))
        refine sr rfl rfl rfl ((q_loadC rfl rfl (by exact .head _) rfl)) ?_
        refine sr rfl rfl rfl ((q_len rfl (.cons rfl inferInstance (.nil)) (by exact fun w hw => Stb.cl (by assumption) hw))) ?_
        refine sr rfl rfl rfl ((q_sub rfl rfl rfl (by intro hc; omega))) ?_
        refine sr rfl rfl rfl ((q_eql rfl rfl rfl)) (sr rfl rfl rfl ((q_neq_b rfl rfl rfl Tryz.underlying4)) (sr rfl rfl rfl ((q_or2 rfl rfl rfl)) (sw_nil (post_then ?_))))
        have e2 : decide ((j : Int) = (L.rl.length : Int) - 1) = decide (j + 1 = L.rl.length) := by rw [Bool.eq_iff_iff]; simp; omega
        refine cw_cond rfl (fun h5 => ?_) (fun h5 => ?_)
        · skip
          have hf : bookOk b.bl = false := hno2 fun hh => by
            have f3 := hh.emp
            simp [hh.ph] at h5
            rw [← List.length_eq_zero_iff] at h5
            have := hh.two
            omega
          refine cw_seq (cw_region (sr rfl rfl rfl ((q_assign rfl rfl)) (sw_nil (post_then (cw_ret (post_then_r (post_blk_r (post_then_r (post_then_r (post_blk_r (post_blk_r (post_then_r (post_then_r (post_blk_r (post_then_r (post_ret1 rfl (resOk_tmp rfl) ?_))))))))))))))))
          exact fun w' hw => ⟨by rw [hf], (fun w h => Cl.sel (by exact .nil _) w h) _ hw⟩
        · skip
          have h6 : phonesOk (nth L.rl j).pl 3 = true ∧ (nth L.rl j).tl.length ≤ 2 ∧ ((nth L.rl j).tl.length = 0 ↔ j + 1 = L.rl.length) := by
            simp at h5
            rw [← List.length_eq_zero_iff] at h5
            exact ⟨h5.1.1, by omega, by omega⟩
          refine cw_skip (post_then (cw_seq (cw_region (sr rfl rfl rfl ((q_assign rfl rfl)) (sw_nil (post_then (cw_block ?_)))))))
          refine cw_loop (S := Nat) (fun m => [(1, [], .pointer (some ⟨b1, 0, none⟩)), (3, [], .int .i64 k), (4, [], .pointer (some ⟨b4, 0, none⟩)), (5, [], .int .i64 j), (6, [], (nth L.rl j).t.v), (7, [], .int .i64 m)]) (fun _ => Cl w [] [blk b4 (enc L) 61, blk b1 [b.b.v] 45]) (fun m => m ≤ (nth L.rl j).tl.length ∧ ∀ i, i < m → CdAt (nth L.rl j).tl i) (fun m => (nth L.rl j).tl.length - m) 0 ⟨by omega, fun m hm => by omega⟩ (by exact .cons rfl (.cons rfl (.cons rfl (.cons rfl (.cons rfl (.cons rfl .nil)))))) (fun w h => Cl.sel (by exact .take 0 rfl (.take 0 rfl (.nil _))) w h) ?_
          rintro m ⟨hm, hbm⟩
          refine cw_seq (cw_seq (cw_region (sr rfl rfl rfl ((q_move rfl rfl)) (sr rfl rfl rfl ((q_move rfl rfl)) ?_))))
          refine sr rfl rfl rfl ((q_len rfl (.cons rfl inferInstance (.nil)) (by exact fun w hw => Stb.cl (by assumption) hw))) ?_
          refine sr rfl rfl rfl ((q_lss rfl rfl rfl)) (sw_nil (post_then ?_))
          refine cw_cond rfl (fun h7 => ?_) (fun h7 => ?_)
          · skip
            have hm' : m < (nth L.rl j).tl.length := by simp at h7; omega
            have e3 : 0 < m → ((m : Int) - 1).toNat = m - 1 := fun h0 => by omega
            refine cw_skip (post_then (cw_seq (cw_block (cw_seq ?_))))
            refine cw_region_q mixed_Tryz (by kernel_rfl) ?_
            refine qr rfl rfl rfl ((q_move rfl rfl)) (qr rfl rfl rfl ((q_move rfl rfl)) ?_)
            refine qr rfl rfl rfl ((q_indexN rfl rfl rfl (by exact fun w hw => Stb.cl (by assumption) hw) (by intro hc; omega))) ?_
            refine qr rfl rfl rfl ((q_fieldEl rfl rfl (by exact fun w hw => Stb.cl (by assumption) hw) (by intro hc; omega))) ?_
            refine qr rfl rfl rfl ((q_loadF rfl rfl rfl (by exact fun w hw => Stb.cl (by assumption) hw) (by intro hc; omega) rfl)) ?_
            refine qr rfl rfl rfl ((q_lss rfl rfl rfl)) (qr rfl rfl rfl ((q_move rfl rfl)) (qr rfl rfl rfl ((q_move rfl rfl)) (qr rfl rfl rfl ((q_move rfl rfl)) ?_)))
            refine qr rfl rfl rfl ((q_indexN rfl rfl rfl (by exact fun w hw => Stb.cl (by assumption) hw) (by intro hc; omega))) ?_
            refine qr rfl rfl rfl ((q_fieldEl rfl rfl (by exact fun w hw => Stb.cl (by assumption) hw) (by intro hc; omega))) ?_
            refine qr rfl rfl rfl ((q_loadF rfl rfl rfl (by exact fun w hw => Stb.cl (by assumption) hw) (by intro hc; omega) rfl)) ?_
            refine qr rfl rfl rfl ((q_gtr rfl rfl rfl)) (qr rfl rfl rfl ((q_or2 rfl rfl rfl)) (qr rfl rfl rfl ((q_move rfl rfl)) (qr rfl rfl rfl ((q_move rfl rfl)) (qr rfl rfl rfl ((q_move rfl rfl)) ?_))))
            refine qr rfl rfl rfl ((q_indexN rfl rfl rfl (by exact fun w hw => Stb.cl (by assumption) hw) (by intro hc; omega))) ?_
            refine qr rfl rfl rfl ((q_fieldEl rfl rfl (by exact fun w hw => Stb.cl (by assumption) hw) (by intro hc; omega))) ?_
            refine qr rfl rfl rfl ((q_loadF rfl rfl rfl (by exact fun w hw => Stb.cl (by assumption) hw) (by intro hc; omega) rfl)) ?_
            refine qr rfl rfl rfl ((q_eql rfl rfl rfl)) (qr rfl rfl rfl ((q_or2 rfl rfl rfl)) (qr rfl rfl rfl ((q_move rfl rfl)) (qr rfl rfl rfl ((q_move rfl rfl)) (qr rfl rfl rfl ((q_move rfl rfl)) ?_))))
            refine qr rfl rfl rfl ((q_indexN rfl rfl rfl (by exact fun w hw => Stb.cl (by assumption) hw) (by intro hc; omega))) ?_
            refine qr rfl rfl rfl ((q_fieldEl rfl rfl (by exact fun w hw => Stb.cl (by assumption) hw) (by intro hc; omega))) ?_
            refine qr rfl rfl rfl ((q_loadF rfl rfl rfl (by exact fun w hw => Stb.cl (by assumption) hw) (by intro hc; omega) rfl)) ?_
            refine qr rfl rfl rfl ((q_neq rfl rfl rfl)) (qr rfl rfl rfl ((q_move rfl rfl)) (qr rfl rfl rfl ((q_move rfl rfl)) (qr rfl rfl rfl ((q_move rfl rfl)) ?_)))
            refine qr rfl rfl rfl ((q_indexN rfl rfl rfl (by exact fun w hw => Stb.cl (by assumption) hw) (by intro hc; omega))) ?_
            refine qr rfl rfl rfl ((q_fieldEl rfl rfl (by exact fun w hw => Stb.cl (by assumption) hw) (by intro hc; omega))) ?_
            refine qr rfl rfl rfl ((q_loadF rfl rfl rfl (by exact fun w hw => Stb.cl (by assumption) hw) (by intro hc; omega) rfl)) ?_
            refine qw_step rfl rfl rfl (q_call (CanCall.mk Tryz.call66) rfl (.cons rfl inferInstance (.nil)) (fun _ w hw => callq hw (refLetter_spec _ w))) (qr rfl rfl rfl ((q_not rfl rfl)) (qr rfl rfl rfl ((q_and2 rfl rfl rfl)) (qr rfl rfl rfl ((q_or2 rfl rfl rfl)) (qr rfl rfl rfl ((q_move rfl rfl)) (qr rfl rfl rfl ((q_move rfl rfl)) (qr rfl rfl rfl ((q_gtr rfl rfl rfl)) (qr rfl rfl rfl ((q_move rfl rfl)) (qr rfl rfl rfl ((q_move rfl rfl)) (qr rfl rfl rfl ((q_move rfl rfl)) ?_)))))))))
            refine qr rfl rfl rfl ((q_indexN rfl rfl rfl (by exact fun w hw => Stb.cl (by assumption) hw) (by intro hc; omega))) ?_
            refine qr rfl rfl rfl ((q_fieldEl rfl rfl (by exact fun w hw => Stb.cl (by assumption) hw) (by intro hc; omega))) ?_
            refine qr rfl rfl rfl ((q_loadF rfl rfl rfl (by exact fun w hw => Stb.cl (by assumption) hw) (by intro hc; omega) rfl)) ?_
            refine qr rfl rfl rfl ((q_move rfl rfl)) (qr rfl rfl rfl ((q_move rfl rfl)) ?_)
            refine qr rfl rfl rfl ((q_sub rfl rfl rfl (by intro hc; omega))) ?_
            refine qr rfl rfl rfl ((q_index rfl rfl rfl (by exact fun w hw => Stb.cl (by assumption) hw) (by intro hc; (simp only [AllT.iff, List.all_cons, List.all_nil, id, Bool.and_eq_true, Bool.not_eq_true', decide_eq_true_eq, decide_eq_false_iff_not, and_true] at hc; omega)))) ?_
            refine qr rfl rfl rfl ((q_fieldEl rfl rfl (by exact fun w hw => Stb.cl (by assumption) hw) (by intro hc; omega))) ?_
            refine qr rfl rfl rfl ((q_loadF rfl rfl rfl (by exact fun w hw => Stb.cl (by assumption) hw) (by intro hc; omega) rfl)) ?_
            refine qr rfl rfl rfl ((q_leq rfl rfl rfl)) (qr rfl rfl rfl ((q_and2 rfl rfl rfl)) (qr rfl rfl rfl ((q_or2 rfl rfl rfl)) (qw_end (post_then ?_))))
            refine cw_cond rfl (fun h8 => ?_) (fun h8 => ?_)
            · skip
              have hf : bookOk b.bl = false := hno2 fun hh => by
                obtain ⟨f1, f2⟩ := hh.cs m hm'
                unfold condOk at f1
                simp at f1
                by_cases hm0 : 0 < m
                · have f2 := f2 hm0
                  rw [e3 hm0] at h8
                  rcases f1.2 with f3 | f3 <;> simp [f3, hm0] at h8 <;> omega
                · have hm1 : m = 0 := by omega
                  subst hm1
                  rcases f1.2 with f3 | f3 <;> simp [f3] at h8 <;> omega
              refine cw_seq (cw_region (sr rfl rfl rfl ((q_assign rfl rfl)) (sw_nil (post_then (cw_ret (post_blk_r (post_then_r (post_then_r (post_blk_r (post_blk_r (post_then_r (post_then_r (post_blk_r (post_blk_r (post_then_r (post_then_r (post_blk_r (post_then_r (post_ret1 rfl (resOk_tmp rfl) ?_)))))))))))))))))))
              exact fun w' hw => ⟨by rw [hf], (fun w h => Cl.sel (by exact .nil _) w h) _ hw⟩
            · skip
              have h9 : CdAt (nth L.rl j).tl m := by
                by_cases hm0 : 0 < m
                · rw [e3 hm0] at h8
                  simp [hm0] at h8
                  refine ⟨?_, fun _ => by omega⟩
                  unfold condOk
                  simp
                  refine ⟨by omega, ?_⟩
                  by_cases f3 : (nth (nth L.rl j).tl m).c = 0
                  · exact .inl f3
                  · exact .inr (h8.1.2 f3)
                · have hm1 : m = 0 := by omega
                  subst hm1
                  simp at h8
                  refine ⟨?_, fun _ => by omega⟩
                  unfold condOk
                  simp
                  refine ⟨by omega, ?_⟩
                  by_cases f3 : (nth (nth L.rl j).tl 0).c = 0
                  · exact .inl f3
                  · exact .inr (h8.2 f3)
              refine cw_skip (post_blk (post_then (cw_region (sr rfl rfl rfl ((q_move rfl rfl)) ?_))))
              refine sr rfl rfl rfl ((q_add rfl rfl rfl (by intro hc; omega))) ?_
              refine sr rfl rfl rfl ((q_assign rfl rfl)) (sw_nil ?_)
              exact post_next (m + 1) (by exact .cons rfl (.cons rfl (.cons rfl (.cons rfl (.cons rfl (.cons rfl .nil)))))) (fun w h => Cl.sel (by exact .take 0 rfl (.take 0 rfl (.nil _))) w h) ⟨by omega, fun i hi => by
                rcases Nat.lt_or_ge i m with h6 | h6
                · exact hbm i h6
                · have : i = m := by omega
                  subst this; exact h9⟩ (by omega)
          · skip
            have hm' : m = (nth L.rl j).tl.length := by simp at h7; omega
            subst hm'
            have h9 : ChAt L.rl j := ⟨h6.1, h6.2.1, h6.2.2, hbm⟩
            refine cw_exit (post_then_x (post_then_x (post_blk_eq (post_blk (post_then (cw_region (sr rfl rfl rfl ((q_move rfl rfl)) ?_)))))))
            refine sr rfl rfl rfl ((q_add rfl rfl rfl (by intro hc; omega))) ?_
            refine sr rfl rfl rfl ((q_assign rfl rfl)) (sw_nil ?_)
            exact post_next (j + 1) (by exact .cons rfl (.cons rfl (.cons rfl (.cons rfl .nil)))) (fun w h => Cl.sel (by exact .take 0 rfl (.take 0 rfl (.nil _))) w h) ⟨by omega, fun i hi => by
              rcases Nat.lt_or_ge i j with h6 | h6
              · exact hbj i h6
              · have : i = j := by omega
                subst this; exact h9⟩ (by omega)
      · skip
        have hj' : j = L.rl.length := by simp at h4; omega
        subst hj'
        have h9 : LeAt b.bl k := hAt h3.1 h3.2.1 h3.2.2.1 h3.2.2.2 hbj
        refine cw_exit (post_then_x (post_then_x (post_blk_eq (post_blk (post_then (cw_region (sr rfl rfl rfl ((q_move rfl rfl)) ?_)))))))
        refine sr rfl rfl rfl ((q_add rfl rfl rfl (by intro hc; omega))) ?_
        refine sr rfl rfl rfl ((q_assign rfl rfl)) (sw_nil ?_)
        exact post_next (k + 1) (by exact .cons rfl (.cons rfl .nil)) (fun w h => Cl.sel (by exact .take 1 rfl (.nil _)) w h) ⟨by omega, fun i hi => by
          rcases Nat.lt_or_ge i k with h6 | h6
          · exact hbe i h6
          · have : i = k := by omega
            subst this; exact h9⟩ (by omega)
  · skip
    have hk' : k = b.bl.length := by simp at h; omega
    subst hk'
    have hf : bookOk b.bl = true := book_iff.2 hbe
    refine cw_exit (post_then_x (post_then_x (post_blk_eq (post_then (cw_seq (cw_region (sr rfl rfl rfl ((q_assign rfl rfl)) (sw_nil (post_then (cw_ret (post_ret1 rfl (resOk_tmp rfl) ?_)))))))))))
    exact fun w' hw => ⟨by rw [hf], (fun w h => Cl.sel (by exact .nil _) w h) _ hw⟩
end Go.Proofs.YtkmbliojafefdaaGreatDoor

set_option autoImplicit false
set_option maxRecDepth 100000
namespace Go.Proofs.YtkmbliojafefdaaGreatDoor
open Go.Sx
open Enc (enc val)
theorem lexE_zero {l : List Sp} : decide (lexE l = 0) = (decide (l.length ≤ 3000) && lexOk l) := by
  unfold lexE lexOk
  by_cases h : 3000 < l.length
  · rw [if_pos h, decide_eq_false (by omega : ¬ l.length ≤ 3000)]; rfl
  · rw [if_neg h, decide_eq_true (by omega : l.length ≤ 3000)]
    cases riseB spC l <;> cases l.all spOk <;> rfl
theorem prsE_zero2 {p : List Pr} : decide (prsE p = 0) = (decide (p.length ≤ 1000) && prsOk p) := by
  unfold prsE prsOk
  by_cases h : 1000 < p.length
  · rw [if_pos h, decide_eq_false (by omega : ¬ p.length ≤ 1000)]; rfl
  · rw [if_neg h, decide_eq_true (by omega : p.length ≤ 1000)]
    cases riseB prC p <;> cases p.all prOk <;> rfl
theorem validLex_spec (sv : Value) (l : List Sp) (hsz : ∀ u ∈ l, u.word.size ≤ 1000000) (w : World) (hT : Stb w [] Tab) (hs : Stb w [] (RdL sv l)) (hp : Stb w [] fun w' => ∀ u ∈ l, SpIn u w') : Calls Tryz.prog 50 #[sv] w fun e w' => e = .returned (.bool (decide (l.length ≤ 3000) && lexOk l)) ∧ Cl w [] [] w' := by
  refine calls_cw (vs := [_]) Tryz.func50 rfl Tryz.ntmps50 rfl (Cl.start0 w) (cw_seq (cw_region (sr rfl rfl rfl ((q_assign rfl rfl)) (sw_nil (post_then (cw_seq (cw_region (sr rfl rfl rfl ((q_move rfl rfl)) (sw_step rfl rfl rfl (q_call (CanCall.mk Tryz.call95) rfl (.cons rfl inferInstance (.nil)) (fun _ w hw => callq hw (lexicon_spec _ l hsz w (stb_arg hw hT) (stb_arg hw hs) (stb_arg hw hp)))) (sr rfl rfl rfl ((q_eql rfl rfl rfl)) (sr rfl rfl rfl ((q_assign rfl rfl)) (sw_nil (post_then (cw_ret (post_ret1 rfl (resOk_tmp rfl) ?_)))))))))))))))
  exact fun w' hw => ⟨by rw [← lexE_zero], (fun w h => Cl.sel (by exact .nil _) w h) _ hw⟩
theorem validPairs_spec (sv : Value) (p : List Pr) (w : World) (hs : Stb w [] (RdL sv p)) (hp : Stb w [] fun w' => ∀ u ∈ p, PrIn u w') : Calls Tryz.prog 52 #[sv] w fun e w' => e = .returned (.bool (decide (p.length ≤ 1000) && prsOk p)) ∧ Cl w [] [] w' := by
  refine calls_cw (vs := [_]) Tryz.func52 rfl Tryz.ntmps52 rfl (Cl.start0 w) (cw_seq (cw_region (sr rfl rfl rfl ((q_assign rfl rfl)) (sw_nil (post_then (cw_seq (cw_region (sr rfl rfl rfl ((q_move rfl rfl)) (sw_step rfl rfl rfl (q_call (CanCall.mk Tryz.call61) rfl (.cons rfl inferInstance (.nil)) (fun _ w hw => callq hw (pairs_spec _ p w (stb_arg hw hs) (stb_arg hw hp)))) (sr rfl rfl rfl ((q_eql rfl rfl rfl)) (sr rfl rfl rfl ((q_assign rfl rfl)) (sw_nil (post_then (cw_ret (post_ret1 rfl (resOk_tmp rfl) ?_)))))))))))))))
  exact fun w' hw => ⟨by rw [← prsE_zero2], (fun w h => Cl.sel (by exact .nil _) w h) _ hw⟩
theorem valid_spec (sl sp : SlV) (b : Bk) (l : List Sp) (p : List Pr) (hz : ∀ u ∈ l, u.word.size ≤ 9223372036854775807) (w : World) (hT : Stb w [] Tab) (hs : Stb w [] (RdL sl.v l)) (hsi : Stb w [] fun w' => ∀ u ∈ l, SpIn u w') (hp : Stb w [] (RdL sp.v p)) (hpi : Stb w [] fun w' => ∀ u ∈ p, PrIn u w') (hb : Stb w [] (BkIn b)) :
    Calls Tryz.prog 11 #[sl.v, sp.v, val b] w fun e w' => e = .returned (.bool true) ∧ Cl w [] [] w' := by
  have hL1 := rd_len hs.here
  have hL2 := rd_len hp.here
  refine calls_cw (vs := [_, _, _]) Tryz.func11 rfl Tryz.ntmps11 rfl (Cl.start0 w) (cw_seq (cw_region ?_))
  refine sw_x rfl rfl rfl (e_box rfl rfl rfl) (fun b5 => ?_)
  refine sr rfl rfl rfl ((q_assign rfl rfl)) (sw_nil (post_then (cw_seq (cw_seq (cw_region (sr rfl rfl rfl ((q_move rfl rfl)) (sw_step rfl rfl rfl (q_call (CanCall.mk Tryz.call27) rfl (.cons rfl inferInstance (.cons rfl inferInstance (.nil))) (fun _ w hw => callq hw (lawLex_spec _ l 20 hz w (stb_arg hw hs) (stb_arg hw hsi)))) (sr rfl rfl rfl ((q_not rfl rfl)) (sr rfl rfl rfl ((q_move rfl rfl)) (sr rfl rfl rfl ((q_move rfl rfl)) (sw_step rfl rfl rfl (q_call (CanCall.mk Tryz.call17) rfl (.cons rfl inferInstance (.nil)) (fun _ w hw => callq hw (lawPairs_spec _ p w (stb_arg hw hp) (stb_arg hw hpi)))) (sr rfl rfl rfl ((q_not rfl rfl)) (sr rfl rfl rfl ((q_or2 rfl rfl rfl)) (sr rfl rfl rfl ((q_move rfl rfl)) ?_))))))))))))))
  refine sr rfl rfl rfl ((q_loadA rfl rfl (by exact .head _) rfl)) ?_
  refine sw_step rfl rfl rfl (q_call (CanCall.mk Tryz.call40) rfl (.cons rfl inferInstance (.nil)) (fun _ w hw => callq hw (lawBook_spec b w (stb_arg hw hb)))) (sr rfl rfl rfl ((q_not rfl rfl)) (sr rfl rfl rfl ((q_or2 rfl rfl rfl)) (sw_nil (post_then ?_))))
  refine cw_cond rfl (fun h => ?_) (fun h => ?_)
  · skip
    refine cw_seq (cw_region ?_)
    refine sw_step rfl rfl rfl (q_call (CanCall.mk Tryz.call19) rfl (.nil) (fun _ w hw => callq hw (known_spec w (stb_arg hw (by assumption))))) ?_
    refine sr rfl rfl rfl ((q_assign rfl rfl)) (sw_nil (post_then (cw_ret (post_then_r (post_ret1 rfl (resOk_tmp rfl) ?_)))))
    exact fun w' hw => ⟨rfl, (fun w h => Cl.sel (by exact .nil _) w h) _ hw⟩
  · skip
    have h1 : lawLex l 20 = true ∧ lawPrs p = true ∧ lawBk b.bl = true := by
      simp at h; exact ⟨h.1.1, h.1.2, h.2⟩
    obtain ⟨c1, c2, c3⟩ := h1
    have z1 := lawLex_z c1
    have z2 := lawPrs_z c2
    have z3 := lawBk_small c3
    refine cw_skip (post_then (cw_seq ?_))
    refine cw_region_q mixed_Tryz (by kernel_rfl) ?_
    refine qr rfl rfl rfl ((q_move rfl rfl)) ?_
    refine qw_step rfl rfl rfl (q_call (CanCall.mk Tryz.call50) rfl (.cons rfl inferInstance (.nil)) (fun _ w hw => callq hw (validLex_spec _ l (fun u hu => by have := z1 u hu; omega) w (stb_arg hw hT) (stb_arg hw hs) (stb_arg hw hsi)))) ?_
    refine qr rfl rfl rfl ((q_move rfl rfl)) ?_
    refine qr rfl rfl rfl ((q_len rfl (.cons rfl inferInstance (.nil)) (by exact fun w hw => Stb.cl (by assumption) hw))) ?_
    refine qr rfl rfl rfl ((q_leq rfl rfl rfl)) (qr rfl rfl rfl ((q_move rfl rfl)) (qr rfl rfl rfl ((q_move rfl rfl)) ?_))
    refine qw_step rfl rfl rfl (q_call (CanCall.mk Tryz.call51) rfl (.cons rfl inferInstance (.nil)) (fun _ w hw => callq hw (refLexicon_spec _ l (fun u hu => ⟨by have := z1 u hu; omega, fun b hb => by have := (z1 u hu).2.2 b hb; omega⟩) w (stb_arg hw hT) (stb_arg hw hs) (stb_arg hw hsi)))) ?_
    refine qr rfl rfl rfl ((q_and2 rfl rfl rfl)) (qr rfl rfl rfl ((q_eql_b rfl rfl rfl Tryz.underlying4)) (qr rfl rfl rfl ((q_move rfl rfl)) (qr rfl rfl rfl ((q_move rfl rfl)) (qw_step rfl rfl rfl (q_call (CanCall.mk Tryz.call52) rfl (.cons rfl inferInstance (.nil)) (fun _ w hw => callq hw (validPairs_spec _ p w (stb_arg hw hp) (stb_arg hw hpi)))) (qr rfl rfl rfl ((q_move rfl rfl)) ?_)))))
    refine qr rfl rfl rfl ((q_len rfl (.cons rfl inferInstance (.nil)) (by exact fun w hw => Stb.cl (by assumption) hw))) ?_
    refine qr rfl rfl rfl ((q_leq rfl rfl rfl)) (qr rfl rfl rfl ((q_move rfl rfl)) (qr rfl rfl rfl ((q_move rfl rfl)) ?_))
    refine qw_step rfl rfl rfl (q_call (CanCall.mk Tryz.call22) rfl (.cons rfl inferInstance (.nil)) (fun _ w hw => callq hw (refPairs_spec _ p (fun u hu b hb => by have := (z2 u hu).2 b hb; omega) w (stb_arg hw hp) (stb_arg hw hpi)))) ?_
    refine qr rfl rfl rfl ((q_and2 rfl rfl rfl)) (qr rfl rfl rfl ((q_eql_b rfl rfl rfl Tryz.underlying4)) (qr rfl rfl rfl ((q_and2 rfl rfl rfl)) (qr rfl rfl rfl ((q_move rfl rfl)) ?_)))
    refine qr rfl rfl rfl ((q_loadA rfl rfl (by exact .head _) rfl)) ?_
    refine qw_step rfl rfl rfl (q_call (CanCall.mk Tryz.call33) rfl (.cons rfl inferInstance (.nil)) (fun _ w hw => callq hw (validBook_spec b w (stb_arg hw hb)))) ?_
    refine qr rfl rfl rfl ((q_loadA rfl rfl (by exact .head _) rfl)) ?_
    refine qw_step rfl rfl rfl (q_call (CanCall.mk Tryz.call41) rfl (.cons rfl inferInstance (.nil)) (fun _ w hw => callq hw (refBook_spec b (fun L hL r hr q hq => by have := z3 L hL r hr q hq; omega) w (stb_arg hw hb)))) ?_
    refine qr rfl rfl rfl ((q_eql_b rfl rfl rfl Tryz.underlying4)) (qr rfl rfl rfl ((q_and2 rfl rfl rfl)) (qr rfl rfl rfl ((q_move rfl rfl)) ?_))
    refine qw_step rfl rfl rfl (q_call (CanCall.mk Tryz.call19) rfl (.nil) (fun _ w hw => callq hw (known_spec w (stb_arg hw (by assumption))))) ?_
    refine qr rfl rfl rfl ((q_and2 rfl rfl rfl)) (qr rfl rfl rfl ((q_assign rfl rfl)) (qw_end (post_then (cw_ret (post_ret1 rfl (resOk_tmp rfl) ?_)))))
    refine fun w' hw => ⟨?_, (fun w h => Cl.sel (by exact .nil _) w h) _ hw⟩
    have e1 : decide ((l.length : Int) ≤ 3000) = decide (l.length ≤ 3000) := by rw [Bool.eq_iff_iff]; simp; omega
    have e2 : decide ((p.length : Int) ≤ 1000) = decide (p.length ≤ 1000) := by rw [Bool.eq_iff_iff]; simp; omega
    rw [e1, e2]
    simp
end Go.Proofs.YtkmbliojafefdaaGreatDoor

set_option autoImplicit false
namespace Go.Proofs.YtkmbliojafefdaaGreatDoor.letterValid
open Go.ChangeShapes Go.WideShapes Go.ChangeAt Go.RowKit Go.Sx
theorem own : ownKnob Tryz.prog.godebug = none := by kernel_rfl
theorem laid : laidOutB Tryz.prog = true := by kernel_rfl
theorem rowed : ∀ t ∈ Tryz.f11.params.toList, Tryz.prog.readableRec t = true ∧ t < Tryz.prog.types.size := by
  rw [Tryz.params11]
  intro t ht
  change t ∈ [38, 22, 45] at ht
  simp only [List.mem_cons, List.not_mem_nil, or_false] at ht
  rcases ht with rfl | rfl | rfl <;> exact ⟨by kernel_rfl, of_decide_eq_true (by kernel_rfl)⟩
set_option maxHeartbeats 1000000 in
set_option maxRecDepth 100000 in
theorem lifted (os : Os) (started : os.Started) (H : Type) (enc : TypeId × Value → H) :
    ReturnsInHanded {} Tryz.checked os 11 .any (fun w args => (Rows.letterValidSpec.pre enc Tryz.prog Tryz.f11 Rows.letterValidRow.domain false w args ∧ laidMetH Tryz.prog Rows.letterValidRow.laid w) ∧ sizedMet enc Tryz.prog Tryz.f11 (OpenSpec.ofChange Rows.letterValidSpec) false w args)
      (Rows.letterValidSpec.post enc Tryz.prog Tryz.f11 false true false false) := by
  refine returnsInHanded_of_change_and (C := Tryz.checked) (X := fun w _ => laidMetH Tryz.prog Rows.letterValidRow.laid w) (fun _ _ _ hh h => h.of_heap hh) own started (by kernel_rfl) Tryz.func11
    (ChangeSpec.witness_shaped (enc := enc) (C := Tryz.checked) (os := os) (X := fun w _ => laidMetH Tryz.prog Rows.letterValidRow.laid w) false (World.laidAll Tryz.prog os Rows.letterValidRow.laid) #[.slice none 0 0, .slice none 0 0, .agg #[.slice none 0 0]] 8 (World.laidAll_os _ _ _)
      (World.shaped_of_ZipB (by kernel_rfl) (by kernel_rfl)) (by kernel_rfl) (by kernel_rfl) (by kernel_rfl)
      (by rw [MakeChecks.laidMetH_plain _ _ _ (by kernel_rfl)]; exact laidMet_laidAll _ (by kernel_rfl) (by kernel_rfl))) ?_
  intro W base args ds gs before hval0 hW hcnd _ hL _
  have hval : ∀ (j : Nat) t v, Tryz.f11.params[j]? = some t → args[j]? = some v → Value.okWide Tryz.prog W .any base t v := hval0
  have hW' := hW
  have hlt := hW.lt
  obtain ⟨p, q, hA0, hV, rfl, hfz, hnd⟩ := hW
  have hA : DataW.TrodAll enc Tryz.prog W 0 (fun _ => true) true Tryz.f11.params.toList args.toList ds p := hA0
  have hkeep := fun (W' : World) (hb : Below W.heap.size W W') (sp : Nat → Bool) (hsp : ∀ x ∈ p, sp x.block = true) => trodAll_keep laid hb sp rowed hA (fun x hx => hlt x (by simp [hx])) hsp
  rw [Tryz.params11] at hA hval
  obtain ⟨v0, vs0, d0, ds0, p0, q0, hargs, rfl, rfl, h0, r0⟩ := trodAll_cons hA
  obtain ⟨v1, vs1, d1, ds1, p1, q1, rfl, rfl, rfl, h1, r1⟩ := trodAll_cons r0
  obtain ⟨v2, vs2, d2, ds2, p2, q2, rfl, rfl, rfl, h2, r2⟩ := trodAll_cons r1
  obtain ⟨rfl, rfl, rfl⟩ := trodAll_nil r2
  obtain rfl : args = #[v0, v1, v2] := by cases args; simp_all
  obtain ⟨rfl, rfl⟩ := trodVars_none hV
  obtain ⟨a0, b0, rfl, k0⟩ := open_deep (hval 0 38 v0 rfl rfl) h0
  obtain ⟨a1, b1, rfl, k1⟩ := open_deep (hval 1 22 v1 rfl rfl) h1
  obtain ⟨a2, b2, rfl, k2⟩ := open_deep (hval 2 45 v2 rfl rfl) h2
  clear hA0 hval0
  rw [MakeChecks.laidMetH_plain _ _ _ (by kernel_rfl)] at hL
  have hT : Stb W [] Tab := tab_stb (utf8Tabs_of_readsT (U8Types.of196 Tryz.lays196) ⟨by kernel_rfl, by kernel_rfl, by kernel_rfl, by kernel_rfl, by kernel_rfl, by kernel_rfl, by kernel_rfl⟩ (Pinned.utf8First_eq ▸ Lib.laidMet.reads hL (.tail _ (.head _))) (Lib.laidMet.reads hL (.head _)))
  obtain rfl := k2.here.1
  refine (valid_spec a0 a1 a2 b0 b1 (sp_size k0.here) W hT (stb_flat (fun a b w h => h.1) k0) (sp_all k0) (stb_flat (fun a b w h => h.1) k1) (pr_all k1) (stb_map k2 fun _ h => h.2)).mono fun e W' ⟨he, hc⟩ => ?_
  subst he
  have hb := below_of hc
  exact ⟨_, rfl, _, _, _, [], _, [], hW', trodAll_cons_mk (shut_bool Tryz.underlying4 _) trodAll_mk0, hkeep W' hb _ (fun x hx => by simpa using hlt x (by simpa using hx)), rfl, hb.frame _, fun h => by cases h⟩
end Go.Proofs.YtkmbliojafefdaaGreatDoor.letterValid

set_option autoImplicit false
namespace Go.Proofs.YtkmbliojafefdaaGreatDoor.letterValid
open Go.Sx
theorem named : Tryz.prog.funcNamed "declaim/declaimlaw03.LetterValid" = some 11 := by kernel_rfl
theorem inst : Tryz.f11.isInstance Tryz.prog Rows.letterValidRow.origin Rows.letterValidRow.targs := of_decide_eq_true (by kernel_rfl)
theorem wrap : Tryz.f11.isWrapper Tryz.prog Rows.letterValidRow.wrapper Rows.letterValidRow.mainSum := by unfold Func.isWrapper; first | (rw [if_pos (by decide +kernel)]; kernel_rfl) | (rw [if_neg (by decide +kernel)]; exact ⟨rfl, rfl⟩)
theorem over : Rows.letterValidRow.holds Tryz.pinned (OpenSpec.ofChange Rows.letterValidSpec) :=
  OpenClaim.holds_of_wide 11 Tryz.f11 rfl rfl rfl rfl rfl rfl rfl ⟨rfl, rfl, rfl, rfl, rfl⟩ rfl rfl rfl rfl rfl named Tryz.func11 closed inst wrap
    (fun os started H enc _ => lifted os started H enc)
end Go.Proofs.YtkmbliojafefdaaGreatDoor.letterValid
