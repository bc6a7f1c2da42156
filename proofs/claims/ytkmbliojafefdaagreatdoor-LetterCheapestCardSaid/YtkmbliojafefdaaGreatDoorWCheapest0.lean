import Derived.Test.YtkmbliojafefdaaGreatDoorWB6
import Derived.Test.YtkmbliojafefdaaGreatDoorRows
import Derived.LaidMore
import Derived.Lay
import Derived.Stop.Joined
import Derived.Test.YtkmbliojafefdaaGreatDoorVCheapest1

set_option autoImplicit false
set_option linter.unusedSimpArgs false
set_option linter.unusedVariables false
set_option maxRecDepth 100000
namespace Go.Proofs.YtkmbliojafefdaaGreatDoor
open Go.Sx
open Enc (enc val)
structure FgAt (a : List Fgn) (k : Nat) : Prop where
  ph : phonesOk [(nth a k).phone] 1 = true
  lt : 0 < k → sLt (nth a (k - 1)).phone (nth a k).phone = true
  l1 : 1 ≤ (nth a k).sl.length
  l5 : (nth a k).sl.length ≤ 5
  st : ∀ j, j < (nth a k).sl.length → phonesOk (nth (nth a k).sl j) 3 = true
theorem foreign_yes {a : List Fgn} (h : ∀ k, k < a.length → FgAt a k) (hl : a.length ≤ 200) : foreignOk a = true := by
  unfold foreignOk
  simp only [Bool.and_eq_true, decide_eq_true_eq, List.all_eq_true]
  refine ⟨⟨hl, riseB_yes.2 fun k h1 h2 => cmpS_neg.2 ((h k h2).lt (by omega))⟩, fun x hx => ?_⟩
  obtain ⟨k, hk, rfl⟩ := List.getElem_of_mem hx
  have := h k hk
  obtain ⟨h1, _, h3, h4, h5⟩ := this
  rw [nth_get hk] at h1 h3 h4 h5
  unfold accOk
  simp only [Bool.and_eq_true, decide_eq_true_eq, List.all_eq_true]
  refine ⟨⟨⟨h1, h3⟩, h4⟩, fun q hq => ?_⟩
  obtain ⟨j, hj, rfl⟩ := List.getElem_of_mem hq
  have := h5 j hj
  rwa [nth_get hj] at this
theorem foreign_at {a : List Fgn} (h : foreignOk a = true) {k : Nat} (hk : k < a.length) : FgAt a k := by
  unfold foreignOk at h
  simp only [Bool.and_eq_true, decide_eq_true_eq, List.all_eq_true] at h
  obtain ⟨⟨_, h1⟩, h2⟩ := h
  have h3 := h2 _ (nth_mem hk)
  unfold accOk at h3
  simp only [Bool.and_eq_true, decide_eq_true_eq, List.all_eq_true] at h3
  exact ⟨h3.1.1.1, fun h0 => cmpS_neg.1 (riseB_yes.1 h1 k (by omega) hk), h3.1.1.2, h3.1.2, fun j hj => h3.2 _ (nth_mem hj)⟩
theorem lt_asym {x y : ByteArray} (h : sLt y x = true) : sLt x y = false ∧ ¬ x = y := by
  refine ⟨?_, fun e => ?_⟩
  · cases h2 : sLt x y with
    | false => rfl
    | true => have := sLt_trans h h2; rw [sLt_irr] at this; cases this
  · subst e; rw [sLt_irr] at h; cases h
theorem lt_of {x y : ByteArray} (h : sLt x y = false ∧ ¬ x = y) : sLt y x = true := by
  rcases sLt_tri x y with h1 | h1 | h1
  · rw [h1] at h; cases h.1
  · exact absurd h1 h.2
  · exact h1
theorem refForeign_spec (sv : Value) (a : List Fgn) (hz : ∀ x ∈ a, x.phone.size ≤ 1000 ∧ ∀ q ∈ x.sl, ∀ b ∈ q, b.size ≤ 1000) (w : World) (hs : Stb w [] (RdL sv a)) (hp : Stb w [] fun w' => ∀ u ∈ a, FgnIn u w') : Calls Tryz.prog 48 #[sv] w fun e w' => e = .returned (.bool (foreignOk a)) ∧ Cl w [] [] w' := by
  have hL := rd_len hs.here
  refine calls_cw (vs := [_]) Tryz.func48 rfl Tryz.ntmps48 rfl (Cl.start0 w) (cw_seq (cw_region (sr rfl rfl rfl ((q_assign rfl rfl)) (sw_nil (post_then (cw_seq (cw_seq (cw_region (sr rfl rfl rfl ((q_assign rfl rfl)) (sw_nil (post_then (cw_block ?_))))))))))))
  refine cw_loop (S := Nat) (fun k => [(0, [], sv), (3, [], .int .i64 k)]) (fun _ => Cl w [] []) (fun k => k ≤ a.length ∧ ∀ j, j < k → FgAt a j) (fun k => a.length - k) 0 ⟨by omega, fun j hj => by omega⟩ (by exact .cons rfl (.cons rfl .nil)) (fun _ h => h) ?_
  rintro k ⟨hk, hbe⟩
  refine cw_seq (cw_seq (cw_region (sr rfl rfl rfl ((q_move rfl rfl)) (sr rfl rfl rfl ((q_move rfl rfl)) ?_))))
  refine sr rfl rfl rfl ((q_len rfl (.cons rfl inferInstance (.nil)) (by exact fun w hw => Stb.cl (by assumption) hw))) ?_
  refine sr rfl rfl rfl ((q_lss rfl rfl rfl)) (sw_nil (post_then ?_))
  refine cw_cond rfl (fun h => ?_) (fun h => ?_)
  · skip
    have hk' : k < a.length := by simp at h; omega
    have hxm : nth a k ∈ a := nth_mem hk'
    obtain ⟨hz1, hz2⟩ := hz _ hxm
    have hzp : ∀ b ∈ [(nth a k).phone], b.size ≤ 9223372036854775807 := fun b hb => by simp at hb; subst hb; omega
    obtain ⟨vs, g1, g2⟩ := hp.here _ hxm
    have g1 := rd_stb g1
    have g2 := rdR_stb g2
    have hvl := g2.here.1
    have hvL := rd_len g1.here
    have e1 : 0 < k → ((k : Int) - 1).toNat = k - 1 := fun h0 => by omega
    refine cw_skip (post_then (cw_seq (cw_block (cw_seq (cw_seq (cw_region_a (Cl w [] []) [] mixed_Tryz ?_))))))
    refine aw_pure 0 rfl (by kernel_rfl) (by kernel_rfl) (by kernel_rfl) (by kernel_rfl) (by kernel_rfl) rfl rfl rfl (q_move rfl rfl) ?_
    refine aw_pure 1 rfl (by kernel_rfl) (by kernel_rfl) (by kernel_rfl) (by kernel_rfl) (by kernel_rfl) rfl rfl rfl (q_move rfl rfl) ?_
    refine aw_take 2 (fun w h => Cl.sel (by exact .nil _) w h) rfl (by kernel_rfl) (by kernel_rfl) (by kernel_rfl) (by kernel_rfl) (by kernel_rfl) (by kernel_rfl) rfl rfl rfl (q_indexN rfl rfl rfl (by exact fun w hw => Stb.cl (by assumption) hw) (by intro hc; omega)) ?_
    refine aw_take 3 (fun w h => Cl.sel (by exact .nil _) w h) rfl (by kernel_rfl) (by kernel_rfl) (by kernel_rfl) (by kernel_rfl) (by kernel_rfl) (by kernel_rfl) rfl rfl rfl (q_fieldEl rfl rfl (by exact fun w hw => Stb.cl (by assumption) hw) (by intro hc; omega)) ?_
    refine aw_take 4 (fun w h => Cl.sel (by exact .nil _) w h) rfl (by kernel_rfl) (by kernel_rfl) (by kernel_rfl) (by kernel_rfl) (by kernel_rfl) (by kernel_rfl) rfl rfl rfl (q_loadF rfl rfl rfl (by exact fun w hw => Stb.cl (by assumption) hw) (by intro hc; omega) rfl) ?_
    refine aw_x 5 (by kernel_rfl) rfl rfl rfl rfl (e_build1 (α := ByteArray) rfl rfl rfl rfl) (by intro hb; exact fun _ => (fun w h => Cl.sel (by exact .nil _) w h)) (fun s16 => ?_)
    refine aw_q 6 (by kernel_rfl) rfl rfl rfl rfl (q_call (CanCall.mk Tryz.call23) rfl (.cons rfl inferInstance (.cons rfl inferInstance (.nil))) (fun _ w hw => callq hw (refPhones_spec _ _ _ w (by exact stb_own hw (by exact .head _)) (by assumption)))) (by intro hb; exact (fun w h => Cl.sel (by exact .nil _) w h)) ?_
    refine aw_pure 7 rfl (by kernel_rfl) (by kernel_rfl) (by kernel_rfl) (by kernel_rfl) (by kernel_rfl) rfl rfl rfl (q_not rfl rfl) ?_
    refine aw_pure 8 rfl (by kernel_rfl) (by kernel_rfl) (by kernel_rfl) (by kernel_rfl) (by kernel_rfl) rfl rfl rfl (q_move rfl rfl) ?_
    refine aw_pure 9 rfl (by kernel_rfl) (by kernel_rfl) (by kernel_rfl) (by kernel_rfl) (by kernel_rfl) rfl rfl rfl (q_move rfl rfl) ?_
    refine aw_pure 10 rfl (by kernel_rfl) (by kernel_rfl) (by kernel_rfl) (by kernel_rfl) (by kernel_rfl) rfl rfl rfl (q_gtr rfl rfl rfl) ?_
    refine aw_pure 11 rfl (by kernel_rfl) (by kernel_rfl) (by kernel_rfl) (by kernel_rfl) (by kernel_rfl) rfl rfl rfl (q_move rfl rfl) ?_
    refine aw_pure 12 rfl (by kernel_rfl) (by kernel_rfl) (by kernel_rfl) (by kernel_rfl) (by kernel_rfl) rfl rfl rfl (q_move rfl rfl) ?_
    refine aw_pure 13 rfl (by kernel_rfl) (by kernel_rfl) (by kernel_rfl) (by kernel_rfl) (by kernel_rfl) rfl rfl rfl (q_move rfl rfl) ?_
    refine aw_take 14 (fun w h => Cl.sel (by exact .nil _) w h) rfl (by kernel_rfl) (by kernel_rfl) (by kernel_rfl) (by kernel_rfl) (by kernel_rfl) (by kernel_rfl) rfl rfl rfl (q_indexN rfl rfl rfl (by exact fun w hw => Stb.cl (by assumption) hw) (by intro hc; omega)) ?_
    refine aw_take 15 (fun w h => Cl.sel (by exact .nil _) w h) rfl (by kernel_rfl) (by kernel_rfl) (by kernel_rfl) (by kernel_rfl) (by kernel_rfl) (by kernel_rfl) rfl rfl rfl (q_fieldEl rfl rfl (by exact fun w hw => Stb.cl (by assumption) hw) (by intro hc; omega)) ?_
    refine aw_take 16 (fun w h => Cl.sel (by exact .nil _) w h) rfl (by kernel_rfl) (by kernel_rfl) (by kernel_rfl) (by kernel_rfl) (by kernel_rfl) (by kernel_rfl) rfl rfl rfl (q_loadF rfl rfl rfl (by exact fun w hw => Stb.cl (by assumption) hw) (by intro hc; omega) rfl) ?_
    refine aw_pure 17 rfl (by kernel_rfl) (by kernel_rfl) (by kernel_rfl) (by kernel_rfl) (by kernel_rfl) rfl rfl rfl (q_move rfl rfl) ?_
    refine aw_pure 18 rfl (by kernel_rfl) (by kernel_rfl) (by kernel_rfl) (by kernel_rfl) (by kernel_rfl) rfl rfl rfl (q_move rfl rfl) ?_
    refine aw_pure 19 rfl (by kernel_rfl) (by kernel_rfl) (by kernel_rfl) (by kernel_rfl) (by kernel_rfl) rfl rfl rfl (q_sub rfl rfl rfl (by intro hc; omega)) ?_
    refine aw_take 20 (fun w h => Cl.sel (by exact .nil _) w h) rfl (by kernel_rfl) (by kernel_rfl) (by kernel_rfl) (by kernel_rfl) (by kernel_rfl) (by kernel_rfl) rfl rfl rfl (q_index rfl rfl rfl (by exact fun w hw => Stb.cl (by assumption) hw) (by intro hc; (simp only [AllT.iff, List.all_cons, List.all_nil, id, Bool.and_eq_true, Bool.not_eq_true', decide_eq_true_eq, decide_eq_false_iff_not, and_true] at hc; omega))) ?_
    refine aw_take 21 (fun w h => Cl.sel (by exact .nil _) w h) rfl (by kernel_rfl) (by kernel_rfl) (by kernel_rfl) (by kernel_rfl) (by kernel_rfl) (by kernel_rfl) rfl rfl rfl (q_fieldEl rfl rfl (by exact fun w hw => Stb.cl (by assumption) hw) (by intro hc; omega)) ?_
    refine aw_take 22 (fun w h => Cl.sel (by exact .nil _) w h) rfl (by kernel_rfl) (by kernel_rfl) (by kernel_rfl) (by kernel_rfl) (by kernel_rfl) (by kernel_rfl) rfl rfl rfl (q_loadF rfl rfl rfl (by exact fun w hw => Stb.cl (by assumption) hw) (by intro hc; omega) rfl) ?_
    refine aw_pure 23 rfl (by kernel_rfl) (by kernel_rfl) (by kernel_rfl) (by kernel_rfl) (by kernel_rfl) rfl rfl rfl (q_leqStr rfl rfl rfl Tryz.underlying9) ?_
    refine aw_pure 24 rfl (by kernel_rfl) (by kernel_rfl) (by kernel_rfl) (by kernel_rfl) (by kernel_rfl) rfl rfl rfl (q_and2 rfl rfl rfl) ?_
    refine aw_pure 25 rfl (by kernel_rfl) (by kernel_rfl) (by kernel_rfl) (by kernel_rfl) (by kernel_rfl) rfl rfl rfl (q_or2 rfl rfl rfl) ?_
    refine aw_pure 26 rfl (by kernel_rfl) (by kernel_rfl) (by kernel_rfl) (by kernel_rfl) (by kernel_rfl) rfl rfl rfl (q_move rfl rfl) ?_
    refine aw_pure 27 rfl (by kernel_rfl) (by kernel_rfl) (by kernel_rfl) (by kernel_rfl) (by kernel_rfl) rfl rfl rfl (q_move rfl rfl) ?_
    refine aw_pure 28 rfl (by kernel_rfl) (by kernel_rfl) (by kernel_rfl) (by kernel_rfl) (by kernel_rfl) rfl rfl rfl (q_move rfl rfl) ?_
    refine aw_take 29 (fun w h => Cl.sel (by exact .nil _) w h) rfl (by kernel_rfl) (by kernel_rfl) (by kernel_rfl) (by kernel_rfl) (by kernel_rfl) (by kernel_rfl) rfl rfl rfl (q_indexN rfl rfl rfl (by exact fun w hw => Stb.cl (by assumption) hw) (by intro hc; omega)) ?_
    refine aw_take 30 (fun w h => Cl.sel (by exact .nil _) w h) rfl (by kernel_rfl) (by kernel_rfl) (by kernel_rfl) (by kernel_rfl) (by kernel_rfl) (by kernel_rfl) rfl rfl rfl (q_fieldEl rfl rfl (by exact fun w hw => Stb.cl (by assumption) hw) (by intro hc; omega)) ?_
    refine aw_take 31 (fun w h => Cl.sel (by exact .nil _) w h) rfl (by kernel_rfl) (by kernel_rfl) (by kernel_rfl) (by kernel_rfl) (by kernel_rfl) (by kernel_rfl) rfl rfl rfl (q_loadF rfl rfl rfl (by exact fun w hw => Stb.cl (by assumption) hw) (by intro hc; omega) rfl) ?_
    refine aw_take 32 (fun w h => Cl.sel (by exact .nil _) w h) rfl (by kernel_rfl) (by kernel_rfl) (by kernel_rfl) (by kernel_rfl) (by kernel_rfl) (by kernel_rfl) rfl rfl rfl (q_len rfl (.cons rfl inferInstance (.nil)) (by exact fun w hw => Stb.cl (by assumption) hw)) ?_
    refine aw_pure 33 rfl (by kernel_rfl) (by kernel_rfl) (by kernel_rfl) (by kernel_rfl) (by kernel_rfl) rfl rfl rfl (q_lss rfl rfl rfl) ?_
    refine aw_pure 34 rfl (by kernel_rfl) (by kernel_rfl) (by kernel_rfl) (by kernel_rfl) (by kernel_rfl) rfl rfl rfl (q_or2 rfl rfl rfl) ?_
    refine aw_pure 35 rfl (by kernel_rfl) (by kernel_rfl) (by kernel_rfl) (by kernel_rfl) (by kernel_rfl) rfl rfl rfl (q_move rfl rfl) ?_
    refine aw_pure 36 rfl (by kernel_rfl) (by kernel_rfl) (by kernel_rfl) (by kernel_rfl) (by kernel_rfl) rfl rfl rfl (q_move rfl rfl) ?_
    refine aw_pure 37 rfl (by kernel_rfl) (by kernel_rfl) (by kernel_rfl) (by kernel_rfl) (by kernel_rfl) rfl rfl rfl (q_move rfl rfl) ?_
    refine aw_take 38 (fun w h => Cl.sel (by exact .nil _) w h) rfl (by kernel_rfl) (by kernel_rfl) (by kernel_rfl) (by kernel_rfl) (by kernel_rfl) (by kernel_rfl) rfl rfl rfl (q_indexN rfl rfl rfl (by exact fun w hw => Stb.cl (by assumption) hw) (by intro hc; omega)) ?_
    refine aw_take 39 (fun w h => Cl.sel (by exact .nil _) w h) rfl (by kernel_rfl) (by kernel_rfl) (by kernel_rfl) (by kernel_rfl) (by kernel_rfl) (by kernel_rfl) rfl rfl rfl (q_fieldEl rfl rfl (by exact fun w hw => Stb.cl (by assumption) hw) (by intro hc; omega)) ?_
    refine aw_take 40 (fun w h => Cl.sel (by exact .nil _) w h) rfl (by kernel_rfl) (by kernel_rfl) (by kernel_rfl) (by kernel_rfl) (by kernel_rfl) (by kernel_rfl) rfl rfl rfl (q_loadF rfl rfl rfl (by exact fun w hw => Stb.cl (by assumption) hw) (by intro hc; omega) rfl) ?_
    refine aw_take 41 (fun w h => Cl.sel (by exact .nil _) w h) rfl (by kernel_rfl) (by kernel_rfl) (by kernel_rfl) (by kernel_rfl) (by kernel_rfl) (by kernel_rfl) rfl rfl rfl (q_len rfl (.cons rfl inferInstance (.nil)) (by exact fun w hw => Stb.cl (by assumption) hw)) ?_
    refine aw_pure 42 rfl (by kernel_rfl) (by kernel_rfl) (by kernel_rfl) (by kernel_rfl) (by kernel_rfl) rfl rfl rfl (q_gtr rfl rfl rfl) ?_
    refine aw_pure 43 rfl (by kernel_rfl) (by kernel_rfl) (by kernel_rfl) (by kernel_rfl) (by kernel_rfl) rfl rfl rfl (q_or2 rfl rfl rfl) ?_
    refine aw_end (by kernel_rfl) ?_
    refine post_then ?_
    refine cw_cond rfl (fun h2 => ?_) (fun h2 => ?_)
    · skip
      have hf : foreignOk a = false := by
        cases hf : foreignOk a with
        | false => rfl
        | true =>
          exfalso
          obtain ⟨f1, f2, f3, f4, f5⟩ := foreign_at hf hk'
          by_cases hk0 : 0 < k
          · have f2 := f2 hk0
            rw [e1 hk0] at h2
            have f6 := lt_asym f2
            simp [f1, f6, hk0] at h2
            omega
          · have hk1 : k = 0 := by omega
            subst hk1
            simp [f1] at h2
            omega
      refine cw_seq (cw_region (sr rfl rfl rfl ((q_assign rfl rfl)) (sw_nil (post_then (cw_ret (post_then_r (post_blk_r (post_then_r (post_then_r (post_blk_r (post_then_r (post_ret1 rfl (resOk_tmp rfl) ?_))))))))))))
      exact fun w' hw => ⟨by rw [hf], (fun w h => Cl.sel (by exact .nil _) w h) _ hw⟩
    · skip
      refine cw_skip (post_then (cw_seq (cw_region (sr rfl rfl rfl ((q_assign rfl rfl)) (sw_nil (post_then (cw_block ?_)))))))
      refine cw_loop (S := Nat) (fun j => [(0, [], sv), (3, [], .int .i64 k), (4, [], .int .i64 j)]) (fun _ => Cl w [] []) (fun j => j ≤ vs.length ∧ ∀ i, i < j → phonesOk (nth (nth a k).sl i) 3 = true) (fun j => vs.length - j) 0 ⟨by omega, fun j hj => by omega⟩ (by exact .cons rfl (.cons rfl (.cons rfl .nil))) (fun w h => Cl.sel (by exact .nil _) w h) ?_
      rintro j ⟨hj, hbj⟩
      refine cw_seq (cw_seq (cw_region (sr rfl rfl rfl ((q_move rfl rfl)) (sr rfl rfl rfl ((q_move rfl rfl)) (sr rfl rfl rfl ((q_move rfl rfl)) ?_)))))
      refine sr rfl rfl rfl ((q_indexN rfl rfl rfl (by exact fun w hw => Stb.cl (by assumption) hw) (by intro hc; omega))) ?_
      refine sr rfl rfl rfl ((q_fieldEl rfl rfl (by exact fun w hw => Stb.cl (by assumption) hw) (by intro hc; omega))) ?_
      refine sr rfl rfl rfl ((q_loadF rfl rfl rfl (by exact fun w hw => Stb.cl (by assumption) hw) (by intro hc; omega) rfl)) ?_
      refine sr rfl rfl rfl ((q_len rfl (.cons rfl inferInstance (.nil)) (by exact fun w hw => Stb.cl (by assumption) hw))) ?_
      refine sr rfl rfl rfl ((q_lss rfl rfl rfl)) (sw_nil (post_then ?_))
      refine cw_cond rfl (fun h3 => ?_) (fun h3 => ?_)
      · skip
        have hj' : j < vs.length := by simp at h3; omega
        have hrow : Stb w [] (RdL (nth vs j).v (nth (nth a k).sl j)) := stb_row g2 (by omega)
        have hzq : ∀ b ∈ nth (nth a k).sl j, b.size ≤ 9223372036854775807 := fun b hb => by have := hz2 _ (nth_mem (by omega)) b hb; omega
        refine cw_skip (post_then (cw_seq (cw_block (cw_seq (cw_region (sr rfl rfl rfl ((q_move rfl rfl)) (sr rfl rfl rfl ((q_move rfl rfl)) ?_)))))))
        refine sr rfl rfl rfl ((q_indexN rfl rfl rfl (by exact fun w hw => Stb.cl (by assumption) hw) (by intro hc; omega))) ?_
        refine sr rfl rfl rfl ((q_fieldEl rfl rfl (by exact fun w hw => Stb.cl (by assumption) hw) (by intro hc; omega))) ?_
        refine sr rfl rfl rfl ((q_loadF rfl rfl rfl (by exact fun w hw => Stb.cl (by assumption) hw) (by intro hc; omega) rfl)) ?_
        refine sr rfl rfl rfl ((q_move rfl rfl)) ?_
        refine sr rfl rfl rfl ((q_indexN rfl rfl rfl (by exact fun w hw => Stb.cl (by assumption) hw) (by intro hc; omega))) ?_
        refine sr rfl rfl rfl ((q_loadEl rfl rfl rfl (by exact fun w hw => Stb.cl (by assumption) hw) (by intro hc; omega))) ?_
        refine sw_step rfl rfl rfl (q_call (CanCall.mk Tryz.call23) rfl (.cons rfl inferInstance (.cons rfl inferInstance (.nil))) (fun _ w hw => callq hw (refPhones_spec _ _ _ w (by exact stb_arg hw (by assumption)) (by assumption)))) ?_
        refine sr rfl rfl rfl ((q_not rfl rfl)) (sw_nil (post_then ?_))
        refine cw_cond rfl (fun h4 => ?_) (fun h4 => ?_)
        · skip
          have hf : foreignOk a = false := by
            cases hf : foreignOk a with
            | false => rfl
            | true =>
              exfalso
              have := (foreign_at hf hk').st j (by omega)
              rw [this] at h4; simp at h4
          refine cw_seq (cw_region (sr rfl rfl rfl ((q_assign rfl rfl)) (sw_nil (post_then (cw_ret (post_blk_r (post_then_r (post_then_r (post_blk_r (post_blk_r (post_then_r (post_then_r (post_blk_r (post_then_r (post_ret1 rfl (resOk_tmp rfl) ?_)))))))))))))))
          exact fun w' hw => ⟨by rw [hf], (fun w h => Cl.sel (by exact .nil _) w h) _ hw⟩
        · skip
          have h5 : phonesOk (nth (nth a k).sl j) 3 = true := by simpa using h4
          refine cw_skip (post_blk (post_then (cw_region (sr rfl rfl rfl ((q_move rfl rfl)) ?_))))
          refine sr rfl rfl rfl ((q_add rfl rfl rfl (by intro hc; omega))) ?_
          refine sr rfl rfl rfl ((q_assign rfl rfl)) (sw_nil ?_)
          exact post_next (j + 1) (by exact .cons rfl (.cons rfl (.cons rfl .nil))) (fun _ h => (fun w h => Cl.sel (by exact .nil _) w h) _ h) ⟨by omega, fun i hi => by
            rcases Nat.lt_or_ge i j with h6 | h6
            · exact hbj i h6
            · have : i = j := by omega
              subst this; exact h5⟩ (by omega)
      · skip
        have hj' : j = vs.length := by simp at h3; omega
        subst hj'
        have hAt : FgAt a k := by
          by_cases hk0 : 0 < k
          · rw [e1 hk0] at h2
            simp [hk0] at h2
            exact ⟨h2.1.1.1, fun _ => lt_of h2.1.1.2, by omega, by omega, fun i hi => hbj i (by omega)⟩
          · have hk1 : k = 0 := by omega
            subst hk1
            simp at h2
            exact ⟨h2.1.1, fun h0 => by omega, by omega, by omega, fun i hi => hbj i (by omega)⟩
        refine cw_exit (post_then_x (post_then_x (post_blk_eq (post_blk (post_then (cw_region (sr rfl rfl rfl ((q_move rfl rfl)) ?_)))))))
        refine sr rfl rfl rfl ((q_add rfl rfl rfl (by intro hc; omega))) ?_
        refine sr rfl rfl rfl ((q_assign rfl rfl)) (sw_nil ?_)
        exact post_next (k + 1) (by exact .cons rfl (.cons rfl .nil)) (fun _ h => (fun w h => Cl.sel (by exact .nil _) w h) _ h) ⟨by omega, fun i hi => by
          rcases Nat.lt_or_ge i k with h6 | h6
          · exact hbe i h6
          · have : i = k := by omega
            subst this; exact hAt⟩ (by omega)
  · skip
    have hk' : k = a.length := by simp at h; omega
    subst hk'
    have hf : decide ((a.length : Int) ≤ 200) = foreignOk a := by
      by_cases hl : a.length ≤ 200
      · rw [foreign_yes hbe hl]; simp; omega
      · have : foreignOk a = false := by unfold foreignOk; rw [decide_eq_false hl]; rfl
        rw [this]; simp; omega
    refine cw_exit (post_then_x (post_then_x (post_blk_eq (post_then (cw_seq (cw_region (sr rfl rfl rfl ((q_move rfl rfl)) ?_)))))))
    refine sr rfl rfl rfl ((q_len rfl (.cons rfl inferInstance (.nil)) (by exact fun w hw => Stb.cl (by assumption) hw))) ?_
    refine sr rfl rfl rfl ((q_leq rfl rfl rfl)) (sr rfl rfl rfl ((q_assign rfl rfl)) (sw_nil (post_then (cw_ret (post_ret1 rfl (resOk_tmp rfl) ?_)))))
    exact fun w' hw => ⟨by rw [hf], (fun w h => Cl.sel (by exact .nil _) w h) _ hw⟩
end Go.Proofs.YtkmbliojafefdaaGreatDoor

set_option autoImplicit false
set_option maxRecDepth 100000
namespace Go.Proofs.YtkmbliojafefdaaGreatDoor
open Go.Sx
open Enc (enc val)
def lawChc (r : Chc) : Bool := decide (r.tl.length ≤ 5) && lawPh r.pl 5
def lawLet (L : Let) : Bool := decide (L.rl.length ≤ 30) && L.rl.all lawChc
def lawBk (bl : List Let) : Bool := decide (bl.length ≤ 12) && bl.all lawLet
theorem all_no {α : Type} [Inhabited α] {p : α → Bool} {l : List α} {k : Nat} (hk : k < l.length) (h : p (nth l k) = false) : l.all p = false := by
  rw [List.all_eq_false]; exact ⟨_, nth_mem hk, by simp [h]⟩
theorem all_yes {α : Type} [Inhabited α] {p : α → Bool} {l : List α} (h : ∀ k, k < l.length → p (nth l k) = true) : l.all p = true := by
  rw [List.all_eq_true]
  intro x hx
  obtain ⟨k, hk, rfl⟩ := List.getElem_of_mem hx
  have := h k hk
  rwa [nth_get hk] at this
theorem lawBook_spec (b : Bk) (w : World) (hb : Stb w [] (BkIn b)) : Calls Tryz.prog 40 #[val b] w fun e w' => e = .returned (.bool (lawBk b.bl)) ∧ Cl w [] [] w' := by
  have hB := rd_stb hb.here.1
  have hL := rd_len hB.here
  refine calls_cw (vs := [_]) Tryz.func40 rfl Tryz.ntmps40 rfl (Cl.start0 w) (cw_seq (cw_region ?_))
  refine sw_x rfl rfl rfl (e_box rfl rfl rfl) (fun b1 => ?_)
  refine sr rfl rfl rfl ((q_assign rfl rfl)) (sw_nil (post_then (cw_seq (cw_seq (cw_region (sr rfl rfl rfl ((q_fieldAddr rfl rfl)) ?_))))))
  refine sr rfl rfl rfl ((q_loadC rfl rfl (by exact .head _) rfl)) ?_
  refine sr rfl rfl rfl ((q_len rfl (.cons rfl inferInstance (.nil)) (by exact fun w hw => Stb.cl (by assumption) hw))) ?_
  refine sr rfl rfl rfl ((q_gtr rfl rfl rfl)) (sw_nil (post_then ?_))
  refine cw_cond rfl (fun h => ?_) (fun h => ?_)
  · skip
    have e1 : lawBk b.bl = false := by unfold lawBk; rw [decide_eq_false (by simp at h; omega)]; rfl
    refine cw_seq (cw_region (sr rfl rfl rfl ((q_assign rfl rfl)) (sw_nil (post_then (cw_ret (post_then_r (post_ret1 rfl (resOk_tmp rfl) ?_)))))))
    exact fun w' hw => ⟨by rw [e1], (fun w h => Cl.sel (by exact .nil _) w h) _ hw⟩
  · skip
    refine cw_skip (post_then (cw_seq (cw_seq (cw_region (sr rfl rfl rfl ((q_assign rfl rfl)) (sw_nil (post_then (cw_block ?_))))))))
    refine cw_loop (S := Nat) (fun i => [(1, [], .pointer (some ⟨b1, 0, none⟩)), (3, [], .int .i64 i)]) (fun _ => Cl w [] [blk b1 [b.b.v] 45]) (fun i => i ≤ b.bl.length ∧ ∀ j, j < i → lawLet (nth b.bl j) = true) (fun i => b.bl.length - i) 0 ⟨by omega, fun j hj => by omega⟩ (by exact .cons rfl (.cons rfl .nil)) (fun w h => Cl.sel (by exact .take 0 rfl (.nil _)) w h) ?_
    rintro i ⟨hi, hbe⟩
    refine cw_seq (cw_seq (cw_region (sr rfl rfl rfl ((q_move rfl rfl)) (sr rfl rfl rfl ((q_fieldAddr rfl rfl)) ?_))))
    refine sr rfl rfl rfl ((q_loadC rfl rfl (by exact .head _) rfl)) ?_
    refine sr rfl rfl rfl ((q_len rfl (.cons rfl inferInstance (.nil)) (by exact fun w hw => Stb.cl (by assumption) hw))) ?_
    refine sr rfl rfl rfl ((q_lss rfl rfl rfl)) (sw_nil (post_then ?_))
    refine cw_cond rfl (fun h2 => ?_) (fun h2 => ?_)
    · skip
      have hi' : i < b.bl.length := by simp at h2; omega
      have hLi := hb.here.2 _ (nth_mem hi')
      have hR := rd_stb hLi.1
      have hRl := rd_len hR.here
      refine cw_skip (post_then (cw_seq (cw_block (cw_seq (cw_seq (cw_region (sr rfl rfl rfl ((q_fieldAddr rfl rfl)) ?_)))))))
      refine sr rfl rfl rfl ((q_loadC rfl rfl (by exact .head _) rfl)) ?_
      refine sr rfl rfl rfl ((q_move rfl rfl)) ?_
      refine sr rfl rfl rfl ((q_indexN rfl rfl rfl (by exact fun w hw => Stb.cl (by assumption) hw) (by intro hc; omega))) ?_
      refine sr rfl rfl rfl ((q_fieldEl rfl rfl (by exact fun w hw => Stb.cl (by assumption) hw) (by intro hc; omega))) ?_
      refine sr rfl rfl rfl ((q_loadF rfl rfl rfl (by exact fun w hw => Stb.cl (by assumption) hw) (by intro hc; omega) rfl)) ?_
      refine sr rfl rfl rfl ((q_len rfl (.cons rfl inferInstance (.nil)) (by exact fun w hw => Stb.cl (by assumption) hw))) ?_
      refine sr rfl rfl rfl ((q_gtr rfl rfl rfl)) (sw_nil (post_then ?_))
      refine cw_cond rfl (fun h3 => ?_) (fun h3 => ?_)
      · skip
        have e1 : lawBk b.bl = false := by
          unfold lawBk
          rw [all_no hi' (by unfold lawLet; rw [decide_eq_false (by simp at h3; omega)]; rfl)]; simp
        refine cw_seq (cw_region (sr rfl rfl rfl ((q_assign rfl rfl)) (sw_nil (post_then (cw_ret (post_then_r (post_blk_r (post_then_r (post_then_r (post_blk_r (post_then_r (post_ret1 rfl (resOk_tmp rfl) ?_))))))))))))
        exact fun w' hw => ⟨by rw [e1], (fun w h => Cl.sel (by exact .nil _) w h) _ hw⟩
      · skip
        have h30 : (nth b.bl i).rl.length ≤ 30 := by simp at h3; omega
        refine cw_skip (post_then (cw_seq (cw_region (sr rfl rfl rfl ((q_assign rfl rfl)) (sw_nil (post_then (cw_block ?_)))))))
        refine cw_loop (S := Nat) (fun j => [(1, [], .pointer (some ⟨b1, 0, none⟩)), (3, [], .int .i64 i), (4, [], .int .i64 j)]) (fun _ => Cl w [] [blk b1 [b.b.v] 45]) (fun j => j ≤ (nth b.bl i).rl.length ∧ ∀ k, k < j → lawChc (nth (nth b.bl i).rl k) = true) (fun j => (nth b.bl i).rl.length - j) 0 ⟨by omega, fun j hj => by omega⟩ (by exact .cons rfl (.cons rfl (.cons rfl .nil))) (fun w h => Cl.sel (by exact .take 0 rfl (.nil _)) w h) ?_
        rintro j ⟨hj, hbj⟩
        refine cw_seq (cw_seq (cw_region (sr rfl rfl rfl ((q_move rfl rfl)) (sr rfl rfl rfl ((q_fieldAddr rfl rfl)) ?_))))
        refine sr rfl rfl rfl ((q_loadC rfl rfl (by exact .head _) rfl)) ?_
        refine sr rfl rfl rfl ((q_move rfl rfl)) ?_
        refine sr rfl rfl rfl ((q_indexN rfl rfl rfl (by exact fun w hw => Stb.cl (by assumption) hw) (by intro hc; omega))) ?_
        refine sr rfl rfl rfl ((q_fieldEl rfl rfl (by exact fun w hw => Stb.cl (by assumption) hw) (by intro hc; omega))) ?_
        refine sr rfl rfl rfl ((q_loadF rfl rfl rfl (by exact fun w hw => Stb.cl (by assumption) hw) (by intro hc; omega) rfl)) ?_
        refine sr rfl rfl rfl ((q_len rfl (.cons rfl inferInstance (.nil)) (by exact fun w hw => Stb.cl (by assumption) hw))) ?_
        refine sr rfl rfl rfl ((q_lss rfl rfl rfl)) (sw_nil (post_then ?_))
        refine cw_cond rfl (fun h4 => ?_) (fun h4 => ?_)
        · skip
          have hj' : j < (nth b.bl i).rl.length := by simp at h4; omega
          have hC := hLi.2 _ (nth_mem hj')
          have hC1 := rd_stb hC.1
          have hC2 := rd_stb hC.2
          have hC1l := rd_len hC1.here
          refine cw_skip (post_then (cw_seq (cw_block (cw_seq (cw_region (sr rfl rfl rfl ((q_fieldAddr rfl rfl)) ?_))))))
          refine sr rfl rfl rfl ((q_loadC rfl rfl (by exact .head _) rfl)) ?_
          refine sr rfl rfl rfl ((q_move rfl rfl)) ?_
          refine sr rfl rfl rfl ((q_indexN rfl rfl rfl (by exact fun w hw => Stb.cl (by assumption) hw) (by intro hc; omega))) ?_
          refine sr rfl rfl rfl ((q_fieldEl rfl rfl (by exact fun w hw => Stb.cl (by assumption) hw) (by intro hc; omega))) ?_
          refine sr rfl rfl rfl ((q_loadF rfl rfl rfl (by exact fun w hw => Stb.cl (by assumption) hw) (by intro hc; omega) rfl)) ?_
          refine sr rfl rfl rfl ((q_move rfl rfl)) ?_
          refine sr rfl rfl rfl ((q_indexN rfl rfl rfl (by exact fun w hw => Stb.cl (by assumption) hw) (by intro hc; omega))) ?_
          refine sr rfl rfl rfl ((q_loadEl rfl rfl rfl (by exact fun w hw => Stb.cl (by assumption) hw) (by intro hc; omega))) ?_
          refine sw_x rfl rfl rfl (e_alloc rfl) (fun b5 => ?_)
          refine sw_eff0 rfl rfl (e_store (i := 0) rfl rfl rfl rfl rfl rfl rfl rfl) (sw_nil (post_then (cw_seq (cw_region (sr rfl rfl rfl ((q_fieldAddr rfl rfl)) ?_)))))
          refine sr rfl rfl rfl ((q_loadC rfl rfl (by exact .head _) rfl)) ?_
          refine sr rfl rfl rfl ((q_len rfl (.cons rfl inferInstance (.nil)) (by exact fun w hw => Stb.cl (by assumption) hw))) ?_
          refine sr rfl rfl rfl ((q_gtr rfl rfl rfl)) (sr rfl rfl rfl ((q_move rfl rfl)) (sr rfl rfl rfl ((q_fieldAddr rfl rfl)) ?_))
          refine sr rfl rfl rfl ((q_loadC rfl rfl (by exact .head _) rfl)) ?_
          refine sw_step rfl rfl rfl (q_call (CanCall.mk Tryz.call18) rfl (.cons rfl inferInstance (.cons rfl inferInstance (.nil))) (fun _ w hw => callq hw (lawPhones_spec _ _ _ (by omega) w (by exact stb_arg hw (by assumption))))) ?_
          refine sr rfl rfl rfl ((q_not rfl rfl)) (sr rfl rfl rfl ((q_or2 rfl rfl rfl)) (sw_nil (post_then ?_)))
          refine cw_cond rfl (fun h5 => ?_) (fun h5 => ?_)
          · skip
            have e1 : lawBk b.bl = false := by
              unfold lawBk
              rw [all_no hi' (by
                unfold lawLet
                rw [all_no hj' (by
                  unfold lawChc
                  cases hx : lawPh (nth (nth b.bl i).rl j).pl 5 with
                  | false => simp
                  | true => rw [hx] at h5; simp at h5; simp; omega)]
                simp)]
              simp
            refine cw_seq (cw_region (sr rfl rfl rfl ((q_assign rfl rfl)) (sw_nil (post_then (cw_ret (post_blk_r (post_then_r (post_then_r (post_blk_r (post_blk_r (post_then_r (post_then_r (post_blk_r (post_then_r (post_ret1 rfl (resOk_tmp rfl) ?_)))))))))))))))
            exact fun w' hw => ⟨by rw [e1], (fun w h => Cl.sel (by exact .nil _) w h) _ hw⟩
          · skip
            have e1 : lawChc (nth (nth b.bl i).rl j) = true := by
              unfold lawChc
              cases hx : lawPh (nth (nth b.bl i).rl j).pl 5 with
              | false => rw [hx] at h5; simp at h5
              | true => rw [hx] at h5; simp at h5; simp; omega
            refine cw_skip (post_blk (post_then (cw_region (sr rfl rfl rfl ((q_move rfl rfl)) ?_))))
            refine sr rfl rfl rfl ((q_add rfl rfl rfl (by intro hc; omega))) ?_
            refine sr rfl rfl rfl ((q_assign rfl rfl)) (sw_nil ?_)
            exact post_next (j + 1) (by exact .cons rfl (.cons rfl (.cons rfl .nil))) (fun w h => Cl.sel (by exact .take 1 rfl (.nil _)) w h) ⟨by omega, fun k hk => by
              rcases Nat.lt_or_ge k j with h6 | h6
              · exact hbj k h6
              · have : k = j := by omega
                subst this; exact e1⟩ (by omega)
        · skip
          have hj' : j = (nth b.bl i).rl.length := by simp at h4; omega
          subst hj'
          have e1 : lawLet (nth b.bl i) = true := by unfold lawLet; rw [all_yes hbj, decide_eq_true h30]; rfl
          refine cw_exit (post_then_x (post_then_x (post_blk_eq (post_blk (post_then (cw_region (sr rfl rfl rfl ((q_move rfl rfl)) ?_)))))))
          refine sr rfl rfl rfl ((q_add rfl rfl rfl (by intro hc; omega))) ?_
          refine sr rfl rfl rfl ((q_assign rfl rfl)) (sw_nil ?_)
          exact post_next (i + 1) (by exact .cons rfl (.cons rfl .nil)) (fun w h => Cl.sel (by exact .take 0 rfl (.nil _)) w h) ⟨by omega, fun k hk => by
            rcases Nat.lt_or_ge k i with h6 | h6
            · exact hbe k h6
            · have : k = i := by omega
              subst this; exact e1⟩ (by omega)
    · skip
      have hi' : i = b.bl.length := by simp at h2; omega
      subst hi'
      have e1 : lawBk b.bl = true := by unfold lawBk; rw [all_yes hbe, decide_eq_true (by simp at h; omega)]; rfl
      refine cw_exit (post_then_x (post_then_x (post_blk_eq (post_then (cw_seq (cw_region (sr rfl rfl rfl ((q_assign rfl rfl)) (sw_nil (post_then (cw_ret (post_ret1 rfl (resOk_tmp rfl) ?_)))))))))))
      exact fun w' hw => ⟨by rw [e1], (fun w h => Cl.sel (by exact .nil _) w h) _ hw⟩
theorem lawBk_small {bl : List Let} (h : lawBk bl = true) : ∀ L ∈ bl, ∀ r ∈ L.rl, ∀ p ∈ r.pl, p.size ≤ 12 := by
  intro L hL r hr p hp
  unfold lawBk lawLet lawChc lawPh at h
  simp only [Bool.and_eq_true, List.all_eq_true, decide_eq_true_eq] at h
  exact ((h.2 L hL).2 r hr).2.2 p hp
end Go.Proofs.YtkmbliojafefdaaGreatDoor

set_option autoImplicit false
set_option maxRecDepth 100000
namespace Go.Proofs.YtkmbliojafefdaaGreatDoor
open Go.Sx
open Enc (enc val)
def lawPrs (p : List Pr) : Bool := !(decide (30 < p.length) && decide (p.length ≤ 1000) || decide (1100 < p.length)) && p.all fun u => lawPh u.pl 5
theorem lawPairs_spec (sv : Value) (p : List Pr) (w : World) (hs : Stb w [] (RdL sv p)) (hp : Stb w [] fun w' => ∀ u ∈ p, PrIn u w') : Calls Tryz.prog 17 #[sv] w fun e w' => e = .returned (.bool (lawPrs p)) ∧ Cl w [] [] w' := by
  have hL := rd_len hs.here
  refine calls_cw (vs := [_]) Tryz.func17 rfl Tryz.ntmps17 rfl (Cl.start0 w) (cw_seq (cw_region (sr rfl rfl rfl ((q_assign rfl rfl)) (sw_nil (post_then (cw_seq (cw_seq (cw_region (sr rfl rfl rfl ((q_move rfl rfl)) ?_)))))))))
  refine sr rfl rfl rfl ((q_len rfl (.cons rfl inferInstance (.nil)) (by exact fun w hw => Stb.cl (by assumption) hw))) ?_
  refine sr rfl rfl rfl ((q_gtr rfl rfl rfl)) (sr rfl rfl rfl ((q_move rfl rfl)) (sr rfl rfl rfl ((q_move rfl rfl)) ?_))
  refine sr rfl rfl rfl ((q_len rfl (.cons rfl inferInstance (.nil)) (by exact fun w hw => Stb.cl (by assumption) hw))) ?_
  refine sr rfl rfl rfl ((q_leq rfl rfl rfl)) (sr rfl rfl rfl ((q_and2 rfl rfl rfl)) (sr rfl rfl rfl ((q_move rfl rfl)) (sr rfl rfl rfl ((q_move rfl rfl)) ?_)))
  refine sr rfl rfl rfl ((q_len rfl (.cons rfl inferInstance (.nil)) (by exact fun w hw => Stb.cl (by assumption) hw))) ?_
  refine sr rfl rfl rfl ((q_gtr rfl rfl rfl)) (sr rfl rfl rfl ((q_or2 rfl rfl rfl)) (sw_nil (post_then ?_)))
  refine cw_cond rfl (fun h => ?_) (fun h => ?_)
  · skip
    have e1 : lawPrs p = false := by
      unfold lawPrs
      simp at h
      rcases h with h | h
      · rw [decide_eq_true (by omega : 30 < p.length), decide_eq_true (by omega : p.length ≤ 1000)]; simp
      · rw [decide_eq_true (by omega : 1100 < p.length)]; simp
    refine cw_seq (cw_region (sr rfl rfl rfl ((q_assign rfl rfl)) (sw_nil (post_then (cw_ret (post_then_r (post_ret1 rfl (resOk_tmp rfl) ?_)))))))
    exact fun w' hw => ⟨by rw [e1], (fun w h => Cl.sel (by exact .nil _) w h) _ hw⟩
  · skip
    have e0 : (!(decide (30 < p.length) && decide (p.length ≤ 1000) || decide (1100 < p.length))) = true := by
      simp at h
      simp; omega
    refine cw_skip (post_then (cw_seq (cw_seq (cw_region (sr rfl rfl rfl ((q_assign rfl rfl)) (sw_nil (post_then (cw_block ?_))))))))
    refine cw_loop (S := Nat) (fun k => [(0, [], sv), (3, [], .int .i64 k)]) (fun _ => Cl w [] []) (fun k => k ≤ p.length ∧ ∀ i, i < k → lawPh (nth p i).pl 5 = true) (fun k => p.length - k) 0 ⟨by omega, fun j hj => by omega⟩ (by exact .cons rfl (.cons rfl .nil)) (fun w h => Cl.sel (by exact .nil _) w h) ?_
    rintro k ⟨hk, hbe⟩
    refine cw_seq (cw_seq (cw_region (sr rfl rfl rfl ((q_move rfl rfl)) (sr rfl rfl rfl ((q_move rfl rfl)) ?_))))
    refine sr rfl rfl rfl ((q_len rfl (.cons rfl inferInstance (.nil)) (by exact fun w hw => Stb.cl (by assumption) hw))) ?_
    refine sr rfl rfl rfl ((q_lss rfl rfl rfl)) (sw_nil (post_then ?_))
    refine cw_cond rfl (fun h2 => ?_) (fun h2 => ?_)
    · skip
      have hk' : k < p.length := by simp at h2; omega
      have hx := rd_stb (hp.here _ (nth_mem hk'))
      refine cw_skip (post_then (cw_seq (cw_block (cw_seq (cw_region (sr rfl rfl rfl ((q_move rfl rfl)) (sr rfl rfl rfl ((q_move rfl rfl)) ?_)))))))
      refine sr rfl rfl rfl ((q_indexN rfl rfl rfl (by exact fun w hw => Stb.cl (by assumption) hw) (by intro hc; omega))) ?_
      refine sr rfl rfl rfl ((q_fieldEl rfl rfl (by exact fun w hw => Stb.cl (by assumption) hw) (by intro hc; omega))) ?_
      refine sr rfl rfl rfl ((q_loadF rfl rfl rfl (by exact fun w hw => Stb.cl (by assumption) hw) (by intro hc; omega) rfl)) ?_
      refine sw_step rfl rfl rfl (q_call (CanCall.mk Tryz.call18) rfl (.cons rfl inferInstance (.cons rfl inferInstance (.nil))) (fun _ w hw => callq hw (lawPhones_spec _ _ _ (by omega) w (by exact stb_arg hw (by assumption))))) ?_
      refine sr rfl rfl rfl ((q_not rfl rfl)) (sw_nil (post_then ?_))
      refine cw_cond rfl (fun h3 => ?_) (fun h3 => ?_)
      · skip
        have e1 : lawPrs p = false := by
          unfold lawPrs
          rw [all_no hk' (by simpa using h3)]
          simp
        refine cw_seq (cw_region (sr rfl rfl rfl ((q_assign rfl rfl)) (sw_nil (post_then (cw_ret (post_blk_r (post_then_r (post_then_r (post_blk_r (post_then_r (post_ret1 rfl (resOk_tmp rfl) ?_)))))))))))
        exact fun w' hw => ⟨by rw [e1], (fun w h => Cl.sel (by exact .nil _) w h) _ hw⟩
      · skip
        have e1 : lawPh (nth p k).pl 5 = true := by simpa using h3
        refine cw_skip (post_blk (post_then (cw_region (sr rfl rfl rfl ((q_move rfl rfl)) ?_))))
        refine sr rfl rfl rfl ((q_add rfl rfl rfl (by intro hc; omega))) ?_
        refine sr rfl rfl rfl ((q_assign rfl rfl)) (sw_nil ?_)
        exact post_next (k + 1) (by exact .cons rfl (.cons rfl .nil)) (fun w h => Cl.sel (by exact .nil _) w h) ⟨by omega, fun i hi => by
          rcases Nat.lt_or_ge i k with h6 | h6
          · exact hbe i h6
          · have : i = k := by omega
            subst this; exact e1⟩ (by omega)
    · skip
      have hk' : k = p.length := by simp at h2; omega
      subst hk'
      have e1 : lawPrs p = true := by unfold lawPrs; rw [all_yes hbe, e0]; rfl
      refine cw_exit (post_then_x (post_then_x (post_blk_eq (post_then (cw_seq (cw_region (sr rfl rfl rfl ((q_assign rfl rfl)) (sw_nil (post_then (cw_ret (post_ret1 rfl (resOk_tmp rfl) ?_)))))))))))
      exact fun w' hw => ⟨by rw [e1], (fun w h => Cl.sel (by exact .nil _) w h) _ hw⟩
theorem lawPrs_z {p : List Pr} (h : lawPrs p = true) : ∀ u ∈ p, u.pl.length ≤ 5 ∧ ∀ b ∈ u.pl, b.size ≤ 12 := fun u hu => by
  unfold lawPrs lawPh at h
  simp only [Bool.and_eq_true, List.all_eq_true, decide_eq_true_eq] at h
  have := h.2 u hu
  exact ⟨by omega, this.2⟩
def lawLex (l : List Sp) (most : Int) : Bool := !(decide (most < l.length) && decide (l.length ≤ 3000) || decide (3500 < l.length)) && l.all fun u => decide (u.word.size ≤ 60) && lawPh u.pl 130
theorem lawLex_spec (sv : Value) (l : List Sp) (most : Int) (hz : ∀ u ∈ l, u.word.size ≤ 9223372036854775807) (w : World) (hs : Stb w [] (RdL sv l)) (hp : Stb w [] fun w' => ∀ u ∈ l, SpIn u w') : Calls Tryz.prog 27 #[sv, .int .i64 most] w fun e w' => e = .returned (.bool (lawLex l most)) ∧ Cl w [] [] w' := by
  have hL := rd_len hs.here
  refine calls_cw (vs := [_, _]) Tryz.func27 rfl Tryz.ntmps27 rfl (Cl.start0 w) (cw_seq (cw_region (sr rfl rfl rfl ((q_assign rfl rfl)) (sw_nil (post_then (cw_seq (cw_seq (cw_region (sr rfl rfl rfl ((q_move rfl rfl)) ?_)))))))))
  refine sr rfl rfl rfl ((q_len rfl (.cons rfl inferInstance (.nil)) (by exact fun w hw => Stb.cl (by assumption) hw))) ?_
  refine sr rfl rfl rfl ((q_move rfl rfl)) (sr rfl rfl rfl ((q_gtr rfl rfl rfl)) (sr rfl rfl rfl ((q_move rfl rfl)) (sr rfl rfl rfl ((q_move rfl rfl)) ?_)))
  refine sr rfl rfl rfl ((q_len rfl (.cons rfl inferInstance (.nil)) (by exact fun w hw => Stb.cl (by assumption) hw))) ?_
  refine sr rfl rfl rfl ((q_leq rfl rfl rfl)) (sr rfl rfl rfl ((q_and2 rfl rfl rfl)) (sr rfl rfl rfl ((q_move rfl rfl)) (sr rfl rfl rfl ((q_move rfl rfl)) ?_)))
  refine sr rfl rfl rfl ((q_len rfl (.cons rfl inferInstance (.nil)) (by exact fun w hw => Stb.cl (by assumption) hw))) ?_
  refine sr rfl rfl rfl ((q_gtr rfl rfl rfl)) (sr rfl rfl rfl ((q_or2 rfl rfl rfl)) (sw_nil (post_then ?_)))
  refine cw_cond rfl (fun h => ?_) (fun h => ?_)
  · skip
    have e1 : lawLex l most = false := by
      unfold lawLex
      simp at h
      rcases h with h | h
      · rw [decide_eq_true (by omega : most < l.length), decide_eq_true (by omega : l.length ≤ 3000)]; simp
      · rw [decide_eq_true (by omega : 3500 < l.length)]; simp
    refine cw_seq (cw_region (sr rfl rfl rfl ((q_assign rfl rfl)) (sw_nil (post_then (cw_ret (post_then_r (post_ret1 rfl (resOk_tmp rfl) ?_)))))))
    exact fun w' hw => ⟨by rw [e1], (fun w h => Cl.sel (by exact .nil _) w h) _ hw⟩
  · skip
    have e0 : (!(decide (most < l.length) && decide (l.length ≤ 3000) || decide (3500 < l.length))) = true := by
      simp at h
      simp; omega
    refine cw_skip (post_then (cw_seq (cw_seq (cw_region (sr rfl rfl rfl ((q_assign rfl rfl)) (sw_nil (post_then (cw_block ?_))))))))
    refine cw_loop (S := Nat) (fun k => [(0, [], sv), (5, [], .int .i64 k)]) (fun _ => Cl w [] []) (fun k => k ≤ l.length ∧ ∀ i, i < k → (decide ((nth l i).word.size ≤ 60) && lawPh (nth l i).pl 130) = true) (fun k => l.length - k) 0 ⟨by omega, fun j hj => by omega⟩ (by exact .cons rfl (.cons rfl .nil)) (fun w h => Cl.sel (by exact .nil _) w h) ?_
    rintro k ⟨hk, hbe⟩
    refine cw_seq (cw_seq (cw_region (sr rfl rfl rfl ((q_move rfl rfl)) (sr rfl rfl rfl ((q_move rfl rfl)) ?_))))
    refine sr rfl rfl rfl ((q_len rfl (.cons rfl inferInstance (.nil)) (by exact fun w hw => Stb.cl (by assumption) hw))) ?_
    refine sr rfl rfl rfl ((q_lss rfl rfl rfl)) (sw_nil (post_then ?_))
    refine cw_cond rfl (fun h2 => ?_) (fun h2 => ?_)
    · skip
      have hk' : k < l.length := by simp at h2; omega
      have hx := rd_stb (hp.here _ (nth_mem hk'))
      have hzk := hz _ (nth_mem hk')
      refine cw_skip (post_then (cw_seq (cw_block (cw_seq (cw_region (sr rfl rfl rfl ((q_move rfl rfl)) (sr rfl rfl rfl ((q_move rfl rfl)) ?_)))))))
      refine sr rfl rfl rfl ((q_indexN rfl rfl rfl (by exact fun w hw => Stb.cl (by assumption) hw) (by intro hc; omega))) ?_
      refine sr rfl rfl rfl ((q_fieldEl rfl rfl (by exact fun w hw => Stb.cl (by assumption) hw) (by intro hc; omega))) ?_
      refine sr rfl rfl rfl ((q_loadF rfl rfl rfl (by exact fun w hw => Stb.cl (by assumption) hw) (by intro hc; omega) rfl)) ?_
      refine sr rfl rfl rfl ((q_lenS rfl (.cons rfl inferInstance (.nil)) Tryz.underlying9)) (sr rfl rfl rfl ((q_gtr rfl rfl rfl)) (sr rfl rfl rfl ((q_move rfl rfl)) (sr rfl rfl rfl ((q_move rfl rfl)) (sr rfl rfl rfl ((q_move rfl rfl)) ?_))))
      refine sr rfl rfl rfl ((q_indexN rfl rfl rfl (by exact fun w hw => Stb.cl (by assumption) hw) (by intro hc; omega))) ?_
      refine sr rfl rfl rfl ((q_fieldEl rfl rfl (by exact fun w hw => Stb.cl (by assumption) hw) (by intro hc; omega))) ?_
      refine sr rfl rfl rfl ((q_loadF rfl rfl rfl (by exact fun w hw => Stb.cl (by assumption) hw) (by intro hc; omega) rfl)) ?_
      refine sw_step rfl rfl rfl (q_call (CanCall.mk Tryz.call18) rfl (.cons rfl inferInstance (.cons rfl inferInstance (.nil))) (fun _ w hw => callq hw (lawPhones_spec _ _ _ (by omega) w (by exact stb_arg hw (by assumption))))) ?_
      refine sr rfl rfl rfl ((q_not rfl rfl)) (sr rfl rfl rfl ((q_or2 rfl rfl rfl)) (sw_nil (post_then ?_)))
      refine cw_cond rfl (fun h3 => ?_) (fun h3 => ?_)
      · skip
        have e1 : lawLex l most = false := by
          unfold lawLex
          rw [all_no hk' (by
            cases q1 : lawPh (nth l k).pl 130 <;> simp [q1] at h3 ⊢; omega)]
          simp
        refine cw_seq (cw_region (sr rfl rfl rfl ((q_assign rfl rfl)) (sw_nil (post_then (cw_ret (post_blk_r (post_then_r (post_then_r (post_blk_r (post_then_r (post_ret1 rfl (resOk_tmp rfl) ?_)))))))))))
        exact fun w' hw => ⟨by rw [e1], (fun w h => Cl.sel (by exact .nil _) w h) _ hw⟩
      · skip
        have e1 : (decide ((nth l k).word.size ≤ 60) && lawPh (nth l k).pl 130) = true := by
          cases q1 : lawPh (nth l k).pl 130 <;> simp [q1] at h3 ⊢; omega
        refine cw_skip (post_blk (post_then (cw_region (sr rfl rfl rfl ((q_move rfl rfl)) ?_))))
        refine sr rfl rfl rfl ((q_add rfl rfl rfl (by intro hc; omega))) ?_
        refine sr rfl rfl rfl ((q_assign rfl rfl)) (sw_nil ?_)
        exact post_next (k + 1) (by exact .cons rfl (.cons rfl .nil)) (fun w h => Cl.sel (by exact .nil _) w h) ⟨by omega, fun i hi => by
          rcases Nat.lt_or_ge i k with h6 | h6
          · exact hbe i h6
          · have : i = k := by omega
            subst this; exact e1⟩ (by omega)
    · skip
      have hk' : k = l.length := by simp at h2; omega
      subst hk'
      have e1 : lawLex l most = true := by unfold lawLex; rw [all_yes hbe, e0]; rfl
      refine cw_exit (post_then_x (post_then_x (post_blk_eq (post_then (cw_seq (cw_region (sr rfl rfl rfl ((q_assign rfl rfl)) (sw_nil (post_then (cw_ret (post_ret1 rfl (resOk_tmp rfl) ?_)))))))))))
      exact fun w' hw => ⟨by rw [e1], (fun w h => Cl.sel (by exact .nil _) w h) _ hw⟩
theorem lawLex_z {l : List Sp} {most : Int} (h : lawLex l most = true) : ∀ u ∈ l, u.word.size ≤ 60 ∧ u.pl.length ≤ 130 ∧ ∀ b ∈ u.pl, b.size ≤ 12 := fun u hu => by
  unfold lawLex lawPh at h
  simp only [Bool.and_eq_true, List.all_eq_true, decide_eq_true_eq] at h
  have := h.2 u hu
  exact ⟨this.1, by omega, this.2.2⟩
def prsOk (p : List Pr) : Bool := riseB prC p && p.all prOk
structure PrAt (p : List Pr) (k : Nat) : Prop where
  ok : prOk (nth p k) = true
  lt : 0 < k → (nth p (k - 1)).c < (nth p k).c ∨ (nth p (k - 1)).c = (nth p k).c ∧ ordL (nth p (k - 1)).pl (nth p k).pl < 0
theorem prC_neg {a b : Pr} : prC a b < 0 ↔ a.c < b.c ∨ a.c = b.c ∧ ordL a.pl b.pl < 0 := by
  unfold prC orL
  by_cases h : sgn (a.c - b.c) = 0
  · rw [if_pos h]
    rw [sgn_zero] at h
    unfold orL
    split
    · rw [show orL [] = 0 from rfl]; constructor <;> omega
    · constructor <;> omega
  · rw [if_neg h]
    rw [sgn_neg]
    rw [sgn_zero] at h
    constructor <;> omega
theorem prs_iff {p : List Pr} : prsOk p = true ↔ ∀ k, k < p.length → PrAt p k := by
  unfold prsOk
  simp only [Bool.and_eq_true, List.all_eq_true]
  constructor
  · intro ⟨h1, h2⟩ k hk
    exact ⟨h2 _ (nth_mem hk), fun h0 => prC_neg.1 (riseB_yes.1 h1 k (by omega) hk)⟩
  · intro h
    refine ⟨riseB_yes.2 fun k h1 h2 => prC_neg.2 ((h k h2).lt (by omega)), fun L hL => ?_⟩
    obtain ⟨k, hk, rfl⟩ := List.getElem_of_mem hL
    rw [← nth_get hk]
    exact (h k hk).ok
theorem refPairs_spec (sv : Value) (p : List Pr) (hz : ∀ u ∈ p, ∀ b ∈ u.pl, b.size ≤ 9223372036854775807) (w : World) (hs : Stb w [] (RdL sv p)) (hp : Stb w [] fun w' => ∀ u ∈ p, PrIn u w') : Calls Tryz.prog 22 #[sv] w fun e w' => e = .returned (.bool (prsOk p)) ∧ Cl w [] [] w' := by
  have hL := rd_len hs.here
  refine calls_cw (vs := [_]) Tryz.func22 rfl Tryz.ntmps22 rfl (Cl.start0 w) (cw_seq (cw_region (sr rfl rfl rfl ((q_assign rfl rfl)) (sw_nil (post_then (cw_seq (cw_seq (cw_region (sr rfl rfl rfl ((q_assign rfl rfl)) (sw_nil (post_then (cw_block ?_))))))))))))
  refine cw_loop (S := Nat) (fun k => [(0, [], sv), (3, [], .int .i64 k)]) (fun _ => Cl w [] []) (fun k => k ≤ p.length ∧ ∀ j, j < k → PrAt p j) (fun k => p.length - k) 0 ⟨by omega, fun j hj => by omega⟩ (by exact .cons rfl (.cons rfl .nil)) (fun w h => Cl.sel (by exact .nil _) w h) ?_
  rintro k ⟨hk, hbe⟩
  refine cw_seq (cw_seq (cw_region (sr rfl rfl rfl ((q_move rfl rfl)) (sr rfl rfl rfl ((q_move rfl rfl)) ?_))))
  refine sr rfl rfl rfl ((q_len rfl (.cons rfl inferInstance (.nil)) (by exact fun w hw => Stb.cl (by assumption) hw))) ?_
  refine sr rfl rfl rfl ((q_lss rfl rfl rfl)) (sw_nil (post_then ?_))
  refine cw_cond rfl (fun h => ?_) (fun h => ?_)
  · skip
    have hk' : k < p.length := by simp at h; omega
    have hno : ¬ PrAt p k → prsOk p = false := fun hn => by
      cases hx : prsOk p with
      | false => rfl
      | true => exact absurd (prs_iff.1 hx k hk') hn
    have e1 : 0 < k → ((k : Int) - 1).toNat = k - 1 := fun h0 => by omega
    have hx := rd_stb (hp.here _ (nth_mem hk'))
    have hx2 : Stb w [] (RdL (nth p ((k : Int) - 1).toNat).p.v (nth p ((k : Int) - 1).toNat).pl) := by
      by_cases h0 : 0 < k
      · rw [e1 h0]; exact rd_stb (hp.here _ (nth_mem (by omega)))
      · rw [show ((k : Int) - 1).toNat = 0 by omega]; exact rd_stb (hp.here _ (nth_mem (by omega)))
    have hzk := hz _ (nth_mem hk')
    refine cw_skip (post_then (cw_seq (cw_block (cw_seq (cw_seq (cw_region (sr rfl rfl rfl ((q_move rfl rfl)) (sr rfl rfl rfl ((q_move rfl rfl)) ?_))))))))
    refine sr rfl rfl rfl ((q_indexN rfl rfl rfl (by exact fun w hw => Stb.cl (by assumption) hw) (by intro hc; omega))) ?_
    refine sr rfl rfl rfl ((q_fieldEl rfl rfl (by exact fun w hw => Stb.cl (by assumption) hw) (by intro hc; omega))) ?_
    refine sr rfl rfl rfl ((q_loadF rfl rfl rfl (by exact fun w hw => Stb.cl (by assumption) hw) (by intro hc; omega) rfl)) ?_
    refine sw_step rfl rfl rfl (q_call (CanCall.mk Tryz.call66) rfl (.cons rfl inferInstance (.nil)) (fun _ w hw => callq hw (refLetter_spec _ w))) (sr rfl rfl rfl ((q_not rfl rfl)) (sr rfl rfl rfl ((q_move rfl rfl)) (sr rfl rfl rfl ((q_move rfl rfl)) (sr rfl rfl rfl ((q_move rfl rfl)) ?_))))
    refine sr rfl rfl rfl ((q_indexN rfl rfl rfl (by exact fun w hw => Stb.cl (by assumption) hw) (by intro hc; omega))) ?_
    refine sr rfl rfl rfl ((q_fieldEl rfl rfl (by exact fun w hw => Stb.cl (by assumption) hw) (by intro hc; omega))) ?_
    refine sr rfl rfl rfl ((q_loadF rfl rfl rfl (by exact fun w hw => Stb.cl (by assumption) hw) (by intro hc; omega) rfl)) ?_
    refine sw_step rfl rfl rfl (q_call (CanCall.mk Tryz.call23) rfl (.cons rfl inferInstance (.cons rfl inferInstance (.nil))) (fun _ w hw => callq hw (refPhones_spec _ _ _ w (by exact stb_arg hw (by assumption)) (by assumption)))) ?_
    refine sr rfl rfl rfl ((q_not rfl rfl)) (sr rfl rfl rfl ((q_or2 rfl rfl rfl)) (sr rfl rfl rfl ((q_move rfl rfl)) (sr rfl rfl rfl ((q_move rfl rfl)) (sr rfl rfl rfl ((q_move rfl rfl)) ?_))))
    refine sr rfl rfl rfl ((q_indexN rfl rfl rfl (by exact fun w hw => Stb.cl (by assumption) hw) (by intro hc; omega))) ?_
    refine sr rfl rfl rfl ((q_fieldEl rfl rfl (by exact fun w hw => Stb.cl (by assumption) hw) (by intro hc; omega))) ?_
    refine sr rfl rfl rfl ((q_loadF rfl rfl rfl (by exact fun w hw => Stb.cl (by assumption) hw) (by intro hc; omega) rfl)) ?_
    refine sr rfl rfl rfl ((q_lss rfl rfl rfl)) (sr rfl rfl rfl ((q_or2 rfl rfl rfl)) (sr rfl rfl rfl ((q_move rfl rfl)) (sr rfl rfl rfl ((q_move rfl rfl)) (sr rfl rfl rfl ((q_move rfl rfl)) ?_))))
    refine sr rfl rfl rfl ((q_indexN rfl rfl rfl (by exact fun w hw => Stb.cl (by assumption) hw) (by intro hc; omega))) ?_
    refine sr rfl rfl rfl ((q_fieldEl rfl rfl (by exact fun w hw => Stb.cl (by assumption) hw) (by intro hc; omega))) ?_
    refine sr rfl rfl rfl ((q_loadF rfl rfl rfl (by exact fun w hw => Stb.cl (by assumption) hw) (by intro hc; omega) rfl)) ?_
    refine sr rfl rfl rfl ((q_gtr rfl rfl rfl)) (sr rfl rfl rfl ((q_or2 rfl rfl rfl)) (sw_nil (post_then ?_)))
    refine cw_cond rfl (fun h2 => ?_) (fun h2 => ?_)
    · skip
      have hf : prsOk p = false := hno fun hh => by
        have f1 := hh.ok
        unfold prOk at f1
        simp only [Bool.and_eq_true, decide_eq_true_eq] at f1
        simp [f1] at h2
        omega
      refine cw_seq (cw_region (sr rfl rfl rfl ((q_assign rfl rfl)) (sw_nil (post_then (cw_ret (post_then_r (post_blk_r (post_then_r (post_then_r (post_blk_r (post_then_r (post_ret1 rfl (resOk_tmp rfl) ?_))))))))))))
      exact fun w' hw => ⟨by rw [hf], (fun w h => Cl.sel (by exact .nil _) w h) _ hw⟩
    · skip
      have h3 : prOk (nth p k) = true := by
        simp at h2
        unfold prOk
        simp only [Bool.and_eq_true, decide_eq_true_eq]
        exact ⟨⟨⟨h2.1.1.1, h2.1.1.2⟩, by omega⟩, by omega⟩
      refine cw_skip (post_then (cw_seq ?_))
      refine cw_region_q mixed_Tryz (by kernel_rfl) ?_
      refine qr rfl rfl rfl ((q_move rfl rfl)) (qr rfl rfl rfl ((q_gtr rfl rfl rfl)) (qr rfl rfl rfl ((q_move rfl rfl)) (qr rfl rfl rfl ((q_move rfl rfl)) (qr rfl rfl rfl ((q_move rfl rfl)) ?_))))
      refine qr rfl rfl rfl ((q_indexN rfl rfl rfl (by exact fun w hw => Stb.cl (by assumption) hw) (by intro hc; omega))) ?_
      refine qr rfl rfl rfl ((q_fieldEl rfl rfl (by exact fun w hw => Stb.cl (by assumption) hw) (by intro hc; omega))) ?_
      refine qr rfl rfl rfl ((q_loadF rfl rfl rfl (by exact fun w hw => Stb.cl (by assumption) hw) (by intro hc; omega) rfl)) ?_
      refine qr rfl rfl rfl ((q_move rfl rfl)) (qr rfl rfl rfl ((q_move rfl rfl)) ?_)
      refine qr rfl rfl rfl ((q_sub rfl rfl rfl (by intro hc; omega))) ?_
      refine qr rfl rfl rfl ((q_index rfl rfl rfl (by exact fun w hw => Stb.cl (by assumption) hw) (by intro hc; (simp only [AllT.iff, List.all_cons, List.all_nil, id, Bool.and_eq_true, Bool.not_eq_true', decide_eq_true_eq, decide_eq_false_iff_not, and_true] at hc; omega)))) ?_
      refine qr rfl rfl rfl ((q_fieldEl rfl rfl (by exact fun w hw => Stb.cl (by assumption) hw) (by intro hc; omega))) ?_
      refine qr rfl rfl rfl ((q_loadF rfl rfl rfl (by exact fun w hw => Stb.cl (by assumption) hw) (by intro hc; omega) rfl)) ?_
      refine qr rfl rfl rfl ((q_lss rfl rfl rfl)) (qr rfl rfl rfl ((q_move rfl rfl)) (qr rfl rfl rfl ((q_move rfl rfl)) (qr rfl rfl rfl ((q_move rfl rfl)) ?_)))
      refine qr rfl rfl rfl ((q_indexN rfl rfl rfl (by exact fun w hw => Stb.cl (by assumption) hw) (by intro hc; omega))) ?_
      refine qr rfl rfl rfl ((q_fieldEl rfl rfl (by exact fun w hw => Stb.cl (by assumption) hw) (by intro hc; omega))) ?_
      refine qr rfl rfl rfl ((q_loadF rfl rfl rfl (by exact fun w hw => Stb.cl (by assumption) hw) (by intro hc; omega) rfl)) ?_
      refine qr rfl rfl rfl ((q_move rfl rfl)) (qr rfl rfl rfl ((q_move rfl rfl)) ?_)
      refine qr rfl rfl rfl ((q_sub rfl rfl rfl (by intro hc; omega))) ?_
      refine qr rfl rfl rfl ((q_index rfl rfl rfl (by exact fun w hw => Stb.cl (by assumption) hw) (by intro hc; (simp only [AllT.iff, List.all_cons, List.all_nil, id, Bool.and_eq_true, Bool.not_eq_true', decide_eq_true_eq, decide_eq_false_iff_not, and_true] at hc; omega)))) ?_
      refine qr rfl rfl rfl ((q_fieldEl rfl rfl (by exact fun w hw => Stb.cl (by assumption) hw) (by intro hc; omega))) ?_
      refine qr rfl rfl rfl ((q_loadF rfl rfl rfl (by exact fun w hw => Stb.cl (by assumption) hw) (by intro hc; omega) rfl)) ?_
      refine qr rfl rfl rfl ((q_eql rfl rfl rfl)) (qr rfl rfl rfl ((q_move rfl rfl)) (qr rfl rfl rfl ((q_move rfl rfl)) (qr rfl rfl rfl ((q_move rfl rfl)) ?_)))
      refine qr rfl rfl rfl ((q_sub rfl rfl rfl (by intro hc; omega))) ?_
      refine qr rfl rfl rfl ((q_index rfl rfl rfl (by exact fun w hw => Stb.cl (by assumption) hw) (by intro hc; (simp only [AllT.iff, List.all_cons, List.all_nil, id, Bool.and_eq_true, Bool.not_eq_true', decide_eq_true_eq, decide_eq_false_iff_not, and_true] at hc; omega)))) ?_
      refine qr rfl rfl rfl ((q_fieldEl rfl rfl (by exact fun w hw => Stb.cl (by assumption) hw) (by intro hc; omega))) ?_
      refine qr rfl rfl rfl ((q_loadF rfl rfl rfl (by exact fun w hw => Stb.cl (by assumption) hw) (by intro hc; omega) rfl)) ?_
      refine qr rfl rfl rfl ((q_move rfl rfl)) (qr rfl rfl rfl ((q_move rfl rfl)) ?_)
      refine qr rfl rfl rfl ((q_indexN rfl rfl rfl (by exact fun w hw => Stb.cl (by assumption) hw) (by intro hc; omega))) ?_
      refine qr rfl rfl rfl ((q_fieldEl rfl rfl (by exact fun w hw => Stb.cl (by assumption) hw) (by intro hc; omega))) ?_
      refine qr rfl rfl rfl ((q_loadF rfl rfl rfl (by exact fun w hw => Stb.cl (by assumption) hw) (by intro hc; omega) rfl)) ?_
      refine qw_step rfl rfl rfl (q_call (CanCall.mk Tryz.call38) rfl (.cons rfl inferInstance (.cons rfl inferInstance (.nil))) (fun _ w hw => callq hw (order_spec _ _ _ _ w (by exact stb_arg hw (by assumption)) (by exact stb_arg hw (by assumption))))) ?_
      refine qr rfl rfl rfl ((q_geq rfl rfl rfl)) (qr rfl rfl rfl ((q_and2 rfl rfl rfl)) (qr rfl rfl rfl ((q_or2 rfl rfl rfl)) (qr rfl rfl rfl ((q_and2 rfl rfl rfl)) (qw_end (post_then ?_)))))
      refine cw_cond rfl (fun h4 => ?_) (fun h4 => ?_)
      · skip
        have hf : prsOk p = false := hno fun hh => by
          by_cases hk0 : 0 < k
          · have f2 := hh.lt hk0
            rw [e1 hk0] at h4
            simp [hk0] at h4
            omega
          · have hk1 : k = 0 := by omega
            subst hk1
            simp at h4
        refine cw_seq (cw_region (sr rfl rfl rfl ((q_assign rfl rfl)) (sw_nil (post_then (cw_ret (post_blk_r (post_then_r (post_then_r (post_blk_r (post_then_r (post_ret1 rfl (resOk_tmp rfl) ?_)))))))))))
        exact fun w' hw => ⟨by rw [hf], (fun w h => Cl.sel (by exact .nil _) w h) _ hw⟩
      · skip
        have h9 : PrAt p k := by
          refine ⟨h3, fun hk0 => ?_⟩
          rw [e1 hk0] at h4
          simp [hk0] at h4
          by_cases h5 : (nth p (k - 1)).c = (nth p k).c
          · right
            have := h4.2 h5.symm
            exact ⟨h5, by omega⟩
          · left; omega
        refine cw_skip (post_blk (post_then (cw_region (sr rfl rfl rfl ((q_move rfl rfl)) ?_))))
        refine sr rfl rfl rfl ((q_add rfl rfl rfl (by intro hc; omega))) ?_
        refine sr rfl rfl rfl ((q_assign rfl rfl)) (sw_nil ?_)
        exact post_next (k + 1) (by exact .cons rfl (.cons rfl .nil)) (fun w h => Cl.sel (by exact .nil _) w h) ⟨by omega, fun i hi => by
          rcases Nat.lt_or_ge i k with h6 | h6
          · exact hbe i h6
          · have : i = k := by omega
            subst this; exact h9⟩ (by omega)
  · skip
    have hk' : k = p.length := by simp at h; omega
    subst hk'
    have hf : prsOk p = true := prs_iff.2 hbe
    refine cw_exit (post_then_x (post_then_x (post_blk_eq (post_then (cw_seq (cw_region (sr rfl rfl rfl ((q_assign rfl rfl)) (sw_nil (post_then (cw_ret (post_ret1 rfl (resOk_tmp rfl) ?_)))))))))))
    exact fun w' hw => ⟨by rw [hf], (fun w h => Cl.sel (by exact .nil _) w h) _ hw⟩
def lexOk (l : List Sp) : Bool := riseB spC l && l.all spOk
structure SpAt (l : List Sp) (k : Nat) : Prop where
  ok : spOk (nth l k) = true
  lt : 0 < k → sLt (nth l (k - 1)).word (nth l k).word = true
theorem lex_iff {l : List Sp} : lexOk l = true ↔ ∀ k, k < l.length → SpAt l k := by
  unfold lexOk
  simp only [Bool.and_eq_true, List.all_eq_true]
  constructor
  · intro ⟨h1, h2⟩ k hk
    exact ⟨h2 _ (nth_mem hk), fun h0 => cmpS_neg.1 (riseB_yes.1 h1 k (by omega) hk)⟩
  · intro h
    refine ⟨riseB_yes.2 fun k h1 h2 => cmpS_neg.2 ((h k h2).lt (by omega)), fun L hL => ?_⟩
    obtain ⟨k, hk, rfl⟩ := List.getElem_of_mem hL
    rw [← nth_get hk]
    exact (h k hk).ok
theorem refLexicon_spec (sv : Value) (l : List Sp) (hz : ∀ u ∈ l, u.word.size ≤ 1000 ∧ ∀ b ∈ u.pl, b.size ≤ 9223372036854775807) (w : World) (hT : Stb w [] Tab) (hs : Stb w [] (RdL sv l)) (hp : Stb w [] fun w' => ∀ u ∈ l, SpIn u w') : Calls Tryz.prog 51 #[sv] w fun e w' => e = .returned (.bool (lexOk l)) ∧ Cl w [] [] w' := by
  have hL := rd_len hs.here
  refine calls_cw (vs := [_]) Tryz.func51 rfl Tryz.ntmps51 rfl (Cl.start0 w) (cw_seq (cw_region (sr rfl rfl rfl ((q_assign rfl rfl)) (sw_nil (post_then (cw_seq (cw_seq (cw_region (sr rfl rfl rfl ((q_assign rfl rfl)) (sw_nil (post_then (cw_block ?_))))))))))))
  refine cw_loop (S := Nat) (fun k => [(0, [], sv), (3, [], .int .i64 k)]) (fun _ => Cl w [] []) (fun k => k ≤ l.length ∧ ∀ j, j < k → SpAt l j) (fun k => l.length - k) 0 ⟨by omega, fun j hj => by omega⟩ (by exact .cons rfl (.cons rfl .nil)) (fun w h => Cl.sel (by exact .nil _) w h) ?_
  rintro k ⟨hk, hbe⟩
  refine cw_seq (cw_seq (cw_region (sr rfl rfl rfl ((q_move rfl rfl)) (sr rfl rfl rfl ((q_move rfl rfl)) ?_))))
  refine sr rfl rfl rfl ((q_len rfl (.cons rfl inferInstance (.nil)) (by exact fun w hw => Stb.cl (by assumption) hw))) ?_
  refine sr rfl rfl rfl ((q_lss rfl rfl rfl)) (sw_nil (post_then ?_))
  refine cw_cond rfl (fun h => ?_) (fun h => ?_)
  · skip
    have hk' : k < l.length := by simp at h; omega
    have hno : ¬ SpAt l k → lexOk l = false := fun hn => by
      cases hx : lexOk l with
      | false => rfl
      | true => exact absurd (lex_iff.1 hx k hk') hn
    have e1 : 0 < k → ((k : Int) - 1).toNat = k - 1 := fun h0 => by omega
    have hx := rd_stb (hp.here _ (nth_mem hk'))
    obtain ⟨hzw, hzk⟩ := hz _ (nth_mem hk')
    refine cw_skip (post_then (cw_seq (cw_block (cw_seq (cw_region (sr rfl rfl rfl ((q_move rfl rfl)) (sr rfl rfl rfl ((q_move rfl rfl)) ?_)))))))
    refine sr rfl rfl rfl ((q_indexN rfl rfl rfl (by exact fun w hw => Stb.cl (by assumption) hw) (by intro hc; omega))) ?_
    refine sr rfl rfl rfl ((q_fieldEl rfl rfl (by exact fun w hw => Stb.cl (by assumption) hw) (by intro hc; omega))) ?_
    refine sr rfl rfl rfl ((q_loadF rfl rfl rfl (by exact fun w hw => Stb.cl (by assumption) hw) (by intro hc; omega) rfl)) ?_
    refine sw_x rfl rfl rfl (e_call (CanCall.mk Tryz.call21) rfl (.cons rfl inferInstance (.nil)) (fun w hw => refLetters_spec _ w (by omega) (stb_arg hw (by assumption)))) (fun x18 => ?_)
    refine sw_imp (fun hx18 => ?_)
    refine sr rfl rfl rfl ((q_move rfl rfl)) (sr rfl rfl rfl ((q_extract rfl rfl rfl)) (sr rfl rfl rfl ((q_extract rfl rfl rfl)) (sr rfl rfl rfl ((q_assign rfl rfl)) (sr rfl rfl rfl ((q_assign rfl rfl)) (sw_nil (post_then (cw_seq ?_)))))))
    refine cw_region_q mixed_Tryz (by kernel_rfl) ?_
    refine qr rfl rfl rfl ((q_move rfl rfl)) (qr rfl rfl rfl ((q_not rfl rfl)) (qr rfl rfl rfl ((q_move rfl rfl)) (qr rfl rfl rfl ((q_move rfl rfl)) (qr rfl rfl rfl ((q_move rfl rfl)) ?_))))
    refine qr rfl rfl rfl ((q_indexN rfl rfl rfl (by exact fun w hw => Stb.cl (by assumption) hw) (by intro hc; omega))) ?_
    refine qr rfl rfl rfl ((q_fieldEl rfl rfl (by exact fun w hw => Stb.cl (by assumption) hw) (by intro hc; omega))) ?_
    refine qr rfl rfl rfl ((q_loadF rfl rfl rfl (by exact fun w hw => Stb.cl (by assumption) hw) (by intro hc; omega) rfl)) ?_
    refine qw_step rfl rfl rfl (q_call (CanCall.mk Tryz.call23) rfl (.cons rfl inferInstance (.cons rfl inferInstance (.nil))) (fun _ w hw => callq hw (refPhones_spec _ _ _ w (by exact stb_arg hw (by assumption)) (by assumption)))) ?_
    refine qr rfl rfl rfl ((q_not rfl rfl)) (qr rfl rfl rfl ((q_or2 rfl rfl rfl)) (qr rfl rfl rfl ((q_move rfl rfl)) (qr rfl rfl rfl ((q_move rfl rfl)) (qr rfl rfl rfl ((q_gtr rfl rfl rfl)) (qr rfl rfl rfl ((q_move rfl rfl)) (qr rfl rfl rfl ((q_move rfl rfl)) (qr rfl rfl rfl ((q_move rfl rfl)) ?_)))))))
    refine qr rfl rfl rfl ((q_indexN rfl rfl rfl (by exact fun w hw => Stb.cl (by assumption) hw) (by intro hc; omega))) ?_
    refine qr rfl rfl rfl ((q_fieldEl rfl rfl (by exact fun w hw => Stb.cl (by assumption) hw) (by intro hc; omega))) ?_
    refine qr rfl rfl rfl ((q_loadF rfl rfl rfl (by exact fun w hw => Stb.cl (by assumption) hw) (by intro hc; omega) rfl)) ?_
    refine qr rfl rfl rfl ((q_move rfl rfl)) (qr rfl rfl rfl ((q_move rfl rfl)) ?_)
    refine qr rfl rfl rfl ((q_sub rfl rfl rfl (by intro hc; omega))) ?_
    refine qr rfl rfl rfl ((q_index rfl rfl rfl (by exact fun w hw => Stb.cl (by assumption) hw) (by intro hc; (simp only [AllT.iff, List.all_cons, List.all_nil, id, Bool.and_eq_true, Bool.not_eq_true', decide_eq_true_eq, decide_eq_false_iff_not, and_true] at hc; omega)))) ?_
    refine qr rfl rfl rfl ((q_fieldEl rfl rfl (by exact fun w hw => Stb.cl (by assumption) hw) (by intro hc; omega))) ?_
    refine qr rfl rfl rfl ((q_loadF rfl rfl rfl (by exact fun w hw => Stb.cl (by assumption) hw) (by intro hc; omega) rfl)) ?_
    refine qr rfl rfl rfl ((q_leqStr rfl rfl rfl Tryz.underlying9)) (qr rfl rfl rfl ((q_and2 rfl rfl rfl)) (qr rfl rfl rfl ((q_or2 rfl rfl rfl)) (qw_end (post_then ?_))))
    refine cw_cond rfl (fun h2 => ?_) (fun h2 => ?_)
    · skip
      have hf : lexOk l = false := hno fun hh => by
        have f1 := hh.ok
        unfold spOk at f1
        simp only [Bool.and_eq_true] at f1
        by_cases hk0 : 0 < k
        · have f2 := hh.lt hk0
          rw [e1 hk0] at h2
          have f6 := lt_asym f2
          simp [f1, f6, hk0] at h2
        · have hk1 : k = 0 := by omega
          subst hk1
          simp [f1] at h2
      refine cw_seq (cw_region (sr rfl rfl rfl ((q_assign rfl rfl)) (sw_nil (post_then (cw_ret (post_blk_r (post_then_r (post_then_r (post_blk_r (post_then_r (post_ret1 rfl (resOk_tmp rfl) ?_)))))))))))
      exact fun w' hw => ⟨by rw [hf], (fun w h => Cl.sel (by exact .nil _) w h) _ hw⟩
    · skip
      have h9 : SpAt l k := by
        by_cases hk0 : 0 < k
        · rw [e1 hk0] at h2
          simp [hk0] at h2
          exact ⟨by unfold spOk; rw [h2.1.1, h2.1.2]; rfl, fun _ => lt_of h2.2⟩
        · have hk1 : k = 0 := by omega
          subst hk1
          simp at h2
          exact ⟨by unfold spOk; rw [h2.1, h2.2]; rfl, fun _ => by omega⟩
      refine cw_skip (post_blk (post_then (cw_region (sr rfl rfl rfl ((q_move rfl rfl)) ?_))))
      refine sr rfl rfl rfl ((q_add rfl rfl rfl (by intro hc; omega))) ?_
      refine sr rfl rfl rfl ((q_assign rfl rfl)) (sw_nil ?_)
      exact post_next (k + 1) (by exact .cons rfl (.cons rfl .nil)) (fun w h => Cl.sel (by exact .nil _) w h) ⟨by omega, fun i hi => by
        rcases Nat.lt_or_ge i k with h6 | h6
        · exact hbe i h6
        · have : i = k := by omega
          subst this; exact h9⟩ (by omega)
  · skip
    have hk' : k = l.length := by simp at h; omega
    subst hk'
    have hf : lexOk l = true := lex_iff.2 hbe
    refine cw_exit (post_then_x (post_then_x (post_blk_eq (post_then (cw_seq (cw_region (sr rfl rfl rfl ((q_assign rfl rfl)) (sw_nil (post_then (cw_ret (post_ret1 rfl (resOk_tmp rfl) ?_)))))))))))
    exact fun w' hw => ⟨by rw [hf], (fun w h => Cl.sel (by exact .nil _) w h) _ hw⟩
end Go.Proofs.YtkmbliojafefdaaGreatDoor

set_option autoImplicit false
set_option maxRecDepth 100000
namespace Go.Proofs.YtkmbliojafefdaaGreatDoor
open Go.Sx
open Enc (enc val)
theorem offers_snoc (p : List Pr) (x : Pr) (c : Int) : offers (p ++ [x]) c = offers p c ++ if x.c = c then [x] else [] := by
  unfold offers
  rw [List.filter_append]
  congr 1
  by_cases h : x.c = c <;> simp [h]
theorem offers_le (p : List Pr) (c : Int) : (offers p c).length ≤ p.length := List.length_filter_le _ _
theorem pieces_spec (sv : Value) (p : List Pr) (c : Int) (hl : p.length ≤ 100000) (w : World) (hs : Stb w [] (RdL sv p)) : Calls Tryz.prog 67 #[sv, .int .i32 c] w fun e w' => ∃ r : SlV, e = .returned r.v ∧ True ∧ Cl w [] [ownL 68 r.v (offers p c)] w' := by
  have hL := rd_len hs.here
  refine calls_cw (vs := [_, _]) Tryz.func67 rfl Tryz.ntmps67 rfl (Cl.start0 w) (cw_seq (cw_region (sr rfl rfl rfl ((q_assign rfl rfl)) (sw_nil (post_then (cw_seq (cw_region (sr rfl rfl rfl ((q_assign rfl rfl)) (sw_nil (post_then (cw_seq (cw_seq (cw_region (sr rfl rfl rfl ((q_assign rfl rfl)) (sw_nil (post_then (cw_block ?_)))))))))))))))))
  refine cw_loop (S := Nat × SlV) (fun y => [(0, [], sv), (1, [], .int .i32 c), (5, [], y.2.v), (6, [], .int .i64 y.1)]) (fun y => Cl w [] [ownL 68 y.2.v (offers (p.take y.1) c)]) (fun y => y.1 ≤ p.length) (fun y => p.length - y.1) (0, ⟨none, 0, 0⟩) (by simp) (by exact .cons rfl (.cons rfl (.cons rfl (.cons rfl .nil)))) (fun w' h => Cl.addNil 68 ((fun w h => Cl.sel (by exact .nil _) w h) _ h)) ?_
  rintro ⟨k, so⟩ hk
  dsimp only at hk ⊢
  have hob := offers_le (p.take k) c
  rw [List.length_take] at hob
  refine cw_seq (cw_seq (cw_region (sr rfl rfl rfl ((q_move rfl rfl)) (sr rfl rfl rfl ((q_move rfl rfl)) ?_))))
  refine sr rfl rfl rfl ((q_len rfl (.cons rfl inferInstance (.nil)) (by exact fun w hw => Stb.cl (by assumption) hw))) ?_
  refine sr rfl rfl rfl ((q_lss rfl rfl rfl)) (sw_nil (post_then ?_))
  refine cw_cond rfl (fun h => ?_) (fun h => ?_)
  · skip
    have hk' : k < p.length := by simp at h; omega
    have hst : offers (p.take (k + 1)) c = offers (p.take k) c ++ if (nth p k).c = c then [nth p k] else [] := by rw [List.take_succ_eq_append_getElem hk', ← nth_get hk', offers_snoc]
    refine cw_skip (post_then (cw_seq (cw_block (cw_seq (cw_region (sr rfl rfl rfl ((q_move rfl rfl)) (sr rfl rfl rfl ((q_move rfl rfl)) ?_)))))))
    refine sr rfl rfl rfl ((q_indexN rfl rfl rfl (by exact fun w hw => Stb.cl (by assumption) hw) (by intro hc; omega))) ?_
    refine sr rfl rfl rfl ((q_fieldEl rfl rfl (by exact fun w hw => Stb.cl (by assumption) hw) (by intro hc; omega))) ?_
    refine sr rfl rfl rfl ((q_loadF rfl rfl rfl (by exact fun w hw => Stb.cl (by assumption) hw) (by intro hc; omega) rfl)) ?_
    refine sr rfl rfl rfl ((q_move rfl rfl)) (sr rfl rfl rfl ((q_eql rfl rfl rfl)) (sw_nil (post_then ?_)))
    refine cw_cond rfl (fun h2 => ?_) (fun h2 => ?_)
    · skip
      have h3 : (nth p k).c = c := by simpa using h2
      rw [if_pos h3] at hst
      refine cw_region (sr rfl rfl rfl ((q_move rfl rfl)) (sr rfl rfl rfl ((q_move rfl rfl)) (sr rfl rfl rfl ((q_move rfl rfl)) ?_)))
      refine sr rfl rfl rfl ((q_indexN rfl rfl rfl (by exact fun w hw => Stb.cl (by assumption) hw) (by intro hc; omega))) ?_
      refine sr rfl rfl rfl ((q_loadEl rfl rfl rfl (by exact fun w hw => Stb.cl (by assumption) hw) (by intro hc; omega))) ?_
      refine sw_x rfl rfl rfl (e_buildL (α := Pr) (l := [nth p k]) rfl (.cons rfl inferInstance (.nil)) rfl rfl rfl rfl) (fun s25 => ?_)
      refine sw_x rfl rfl rfl (e_append (i := 1) rfl (.cons rfl inferInstance (.cons rfl inferInstance (.nil))) rfl rfl (by exact fun w hw => rd_own hw (by exact .head _)) (by first | omega | (simp only [List.length_set, List.length_append, List.length_cons, List.length_nil, List.length_replicate, List.length_take, List.length_drop, List.length_map]; omega)) rfl) (fun s26 => ?_)
      refine sr rfl rfl rfl ((q_assign rfl rfl)) (sw_nil (post_blk (post_then (cw_region (sr rfl rfl rfl ((q_move rfl rfl)) ?_)))))
      refine sr rfl rfl rfl ((q_add rfl rfl rfl (by intro hc; omega))) ?_
      refine sr rfl rfl rfl ((q_assign rfl rfl)) (sw_nil ?_)
      exact post_next (k + 1, s26) (by exact .cons rfl (.cons rfl (.cons rfl (.cons rfl .nil)))) (fun w' h => by simp only; rw [hst]; exact (fun w h => Cl.sel (by exact .take 1 rfl (.nil _)) w h) _ h) (by simp only; omega) (by simp only; omega)
    · skip
      have h3 : ¬ (nth p k).c = c := by simpa using h2
      rw [if_neg h3, List.append_nil] at hst
      refine cw_skip (post_blk (post_then (cw_region (sr rfl rfl rfl ((q_move rfl rfl)) ?_))))
      refine sr rfl rfl rfl ((q_add rfl rfl rfl (by intro hc; omega))) ?_
      refine sr rfl rfl rfl ((q_assign rfl rfl)) (sw_nil ?_)
      exact post_next (k + 1, so) (by exact .cons rfl (.cons rfl (.cons rfl (.cons rfl .nil)))) (fun w' h => by simp only; rw [hst]; exact (fun w h => Cl.sel (by exact .take 0 rfl (.nil _)) w h) _ h) (by simp only; omega) (by simp only; omega)
  · skip
    have hk' : k = p.length := by simp at h; omega
    subst hk'
    rw [List.take_length]
    refine cw_exit (post_then_x (post_then_x (post_blk_eq (post_then (cw_seq (cw_region (sr rfl rfl rfl ((q_move rfl rfl)) (sr rfl rfl rfl ((q_assign rfl rfl)) (sw_nil (post_then (cw_ret (post_ret1 rfl (resOk_tmp rfl) ?_))))))))))))
    exact fun w' hw => ⟨so, rfl, trivial, hw⟩
theorem begins_spec (sa : SlV) (sb : Value) (a b : List ByteArray) (w : World) (ha : Stb w [] (RdL sa.v a)) (hb : Stb w [] (RdL sb b)) : Calls Tryz.prog 68 #[sa.v, sb] w fun e w' => e = .returned (.bool (pre b a)) ∧ Cl w [] [] w' := by
  have z1 := rd_len ha.here
  have z2 := rd_len hb.here
  have f2 : b.length ≤ a.length → Stb w [] (RdL (sa.sub 1 0 (b.length : Int).toNat).v ((a.take b.length).drop 0)) := fun h => stb_sub ha (Nat.zero_le _) h
  refine calls_cw (vs := [_, _]) Tryz.func68 rfl Tryz.ntmps68 rfl (Cl.start0 w) (cw_seq (cw_region (sr rfl rfl rfl ((q_assign rfl rfl)) (sw_nil (post_then (cw_seq (cw_region (sr rfl rfl rfl ((q_move rfl rfl)) ?_))))))))
  refine sr rfl rfl rfl ((q_len rfl (.cons rfl inferInstance (.nil)) (by exact fun w hw => Stb.cl (by assumption) hw))) ?_
  refine sr rfl rfl rfl ((q_move rfl rfl)) ?_
  refine sr rfl rfl rfl ((q_len rfl (.cons rfl inferInstance (.nil)) (by exact fun w hw => Stb.cl (by assumption) hw))) ?_
  refine sr rfl rfl rfl ((q_geq rfl rfl rfl)) (sr rfl rfl rfl ((q_move rfl rfl)) (sr rfl rfl rfl ((q_move rfl rfl)) (sr rfl rfl rfl ((q_move rfl rfl)) ?_)))
  refine sr rfl rfl rfl ((q_len rfl (.cons rfl inferInstance (.nil)) (by exact fun w hw => Stb.cl (by assumption) hw))) ?_
  refine sr rfl rfl rfl ((q_sliceH rfl rfl rfl (by exact fun w hw => Stb.cl (by assumption) hw) (fun hcc => by simp [AllT] at hcc; omega))) ?_
  refine sr rfl rfl rfl ((q_move rfl rfl)) ?_
  refine sw_step rfl rfl rfl (q_call (CanCall.mk Tryz.call38) rfl (.cons rfl inferInstance (.cons rfl inferInstance (.nil))) (fun hcc w1 hw => callq hw (order_spec _ _ ((a.take b.length).drop 0) b w1 (stb_arg hw (f2 (by simp [AllT] at hcc; omega))) (stb_arg hw hb)))) ?_
  refine sr rfl rfl rfl ((q_eql rfl rfl rfl)) (sr rfl rfl rfl ((q_and2 rfl rfl rfl)) (sr rfl rfl rfl ((q_assign rfl rfl)) (sw_nil (post_then (cw_ret (post_ret1 rfl (resOk_tmp rfl) ?_))))))
  refine fun w' hw => ⟨?_, (fun w h => Cl.sel (by exact .nil _) w h) _ hw⟩
  congr 2
  unfold pre
  rw [List.drop_zero, show decide ((b.length : Int) ≤ (a.length : Int)) = decide (b.length ≤ a.length) from decide_eq_decide.2 ⟨fun h => by omega, fun h => by omega⟩]
  congr 1
  rw [Bool.eq_iff_iff]; simp [ordL_eq]
theorem begins_at (sl : SlV) (sb : Value) (l x : List ByteArray) (k : Nat) (hk : k ≤ l.length) (w : World) (hl : Stb w [] (RdL sl.v l)) (hx : Stb w [] (RdL sb x)) : Calls Tryz.prog 68 #[(sl.sub 1 k l.length).v, sb] w fun e w' => e = .returned (.bool (decide (k + x.length ≤ l.length) && decide ((l.take (k + x.length)).drop k = x))) ∧ Cl w [] [] w' := by
  have h1 : Stb w [] (RdL (sl.sub 1 k l.length).v (l.drop k)) := by
    have := stb_sub hl hk (Nat.le_refl l.length)
    rwa [List.take_length] at this
  rw [← pre_at hk]
  exact begins_spec _ sb _ _ w h1 hx
end Go.Proofs.YtkmbliojafefdaaGreatDoor

set_option autoImplicit false
set_option maxRecDepth 100000
namespace Go.Proofs.YtkmbliojafefdaaGreatDoor
open Go.Sx
open Enc (enc val)
theorem nth_out {l : List Int} {i : Nat} (h : l.length ≤ i) : nth l i = 0 := by
  simp only [nth, List.getD, List.getElem?_eq_none h]; rfl
theorem sets_same {l : List Int} {i : Nat} {v : Int} (h : nth l i = v) (hi : i < l.length) : l.set i v = l := by
  rw [← h, nth_get hi]; exact List.set_getElem_self hi
theorem perm_rot {α : Type} {a b : α} {R : List α} : (a :: b :: R).Perm (b :: (R ++ [a])) := (List.Perm.swap b a R).trans (.cons b (List.perm_append_comm (l₁ := [a]) (l₂ := R)))
theorem perm_in1 {α : Type} {a b : α} {R T : List α} (h : (a :: R).Perm T) : (a :: b :: R).Perm (b :: T) := (List.Perm.swap b a R).trans (.cons b h)
theorem perm_in2 {α : Type} {a b c : α} {R T : List α} (h : (a :: b :: R).Perm T) : (a :: b :: c :: R).Perm (c :: T) :=
  ((List.Perm.swap c b R).cons a).trans ((List.Perm.swap c a (b :: R)).trans (.cons c h))
theorem step_no {f : Pr → Int} {b : Int} {x : Pr} (h : ¬ (0 ≤ f x ∧ (b < 0 ∨ f x < b))) : stepC f b x = b := by unfold stepC; rw [if_neg h]
theorem step_yes {f : Pr → Int} {b : Int} {x : Pr} (h : 0 ≤ f x ∧ (b < 0 ∨ f x < b)) : stepC f b x = f x := by unfold stepC; rw [if_pos h]
set_option maxHeartbeats 4000000 in
theorem refAlign_spec (sp sw sl : SlV) (p : List Pr) (ws : List Rn) (l : List ByteArray) (hn : ws.length ≤ 80) (hm : l.length ≤ 800) (hpn : p.length ≤ 100000) (hcost : CostOk p) (hpl : ∀ x ∈ p, x.pl.length ≤ 1000) (w : World) (hp : Stb w [] (RdL sp.v p)) (hpi : Stb w [] fun w' => ∀ u ∈ p, PrIn u w') (hw0 : Stb w [] (RdL sw.v ws)) (hl : Stb w [] (RdL sl.v l)) :
    Calls Tryz.prog 24 #[sp.v, sw.v, sl.v] w fun e w' => ∃ r : SlV, e = .returned (.tuple #[r.v, .int .i64 (leastC p ws l)]) ∧ True ∧ Cl w [] [frz (RdRR r.v (if 0 ≤ leastC p ws l then pathC p ws l else []))] w' := by
  have hLp := rd_len hp.here
  have hLw := rd_len hw0.here
  have hLl := rd_len hl.here
  obtain ⟨n, hne⟩ : ∃ n, ws.length = n := ⟨_, rfl⟩
  obtain ⟨m, hme⟩ : ∃ m, l.length = m := ⟨_, rfl⟩
  rw [hne] at hn
  rw [hme] at hm
  obtain ⟨D, hD⟩ : ∃ D : Nat → Nat → Int, ∀ i k, D i k = leastC p (ws.drop i) (l.drop k) := ⟨_, fun _ _ => rfl⟩
  have hDb : ∀ i k, -1 ≤ D i k ∧ D i k ≤ 80000 := fun i k => by
    have := least_bd hcost (ws.drop i) (l.drop k)
    rw [hD]
    rw [List.length_drop, hne] at this
    omega
  have hDn : ∀ k, k ≤ m → D n k = if k = m then 0 else -1 := fun k hk => by
    rw [hD, ← hne, List.drop_length]
    unfold leastC
    by_cases e : k = m
    · rw [if_pos e, if_pos (by rw [e, ← hme, List.drop_length])]
    · rw [if_neg e, if_neg (by rw [List.drop_eq_nil_iff]; omega)]
  have hDs : ∀ i k, i < n → D i k = (offers p (nth ws i).v).foldl (stepC (tryC (leastC p (ws.drop (i + 1))) (l.drop k))) (-1) := fun i k hi => by rw [hD, least_at (by omega)]
  have hTr : ∀ i k x, k ≤ m → tryC (leastC p (ws.drop (i + 1))) (l.drop k) x = if (decide (k + x.pl.length ≤ m) && decide ((l.take (k + x.pl.length)).drop k = x.pl)) = true ∧ 0 ≤ D (i + 1) (k + x.pl.length) then x.cost + D (i + 1) (k + x.pl.length) else -1 := fun i k x hk => by
    unfold tryC
    rw [pre_at (by omega), List.drop_drop, hme, hD]
  have hbg : ∀ (k : Nat) (x : Pr) (w1 : World), k ≤ m → Stb w1 [] (RdL sl.v l) → Stb w1 [] (RdL x.p.v x.pl) → Calls Tryz.prog 68 #[(sl.sub 1 k m).v, x.p.v] w1 fun e w' => e = .returned (.bool (decide (k + x.pl.length ≤ m) && decide ((l.take (k + x.pl.length)).drop k = x.pl))) ∧ Cl w1 [] [] w' := fun k x w1 hk h1 h2 => by
    subst hme
    exact begins_at sl _ l x.pl k hk w1 h1 h2
  refine calls_cw (vs := [_, _, _]) Tryz.func24 rfl Tryz.ntmps24 rfl (Cl.start0 w) (cw_seq (cw_region (sr rfl rfl rfl ((q_assign rfl rfl)) (sr rfl rfl rfl ((q_assign rfl rfl)) (sw_nil (post_then (cw_seq (cw_region (sr rfl rfl rfl ((q_move rfl rfl)) ?_)))))))))
  refine sr rfl rfl rfl ((q_len rfl (.cons rfl inferInstance (.nil)) (by exact fun w hw => Stb.cl (by assumption) hw))) ?_
  refine sr rfl rfl rfl ((q_add rfl rfl rfl (by intro hc; omega))) ?_
  rw [hne]
  refine sw_x rfl rfl rfl (e_make (α := SlV) (zero := ⟨none, 0, 0⟩) rfl rfl rfl rfl rfl (by omega) (by omega) (by decide)) (fun s25 => ?_)
  have e0 : ((n : Int) + 1).toNat = n + 1 := by omega
  rw [e0]
  refine sr rfl rfl rfl ((q_assign rfl rfl)) (sw_nil (post_then (cw_seq (cw_seq (cw_region (sr rfl rfl rfl ((q_assign rfl rfl)) (sw_nil (post_then (cw_block ?_)))))))))
  refine cw_loop (S := List SlV) (fun V => [(0, [], sp.v), (1, [], sw.v), (2, [], sl.v), (8, [], s25.v), (9, [], .int .i64 V.length)]) (fun V => Cl w [] (ownL 116 s25.v (V ++ List.replicate (n + 1 - V.length) ⟨none, 0, 0⟩) :: rowsF 3 V (fun _ => List.replicate (m + 1) (-1 : Int)))) (fun V => V.length ≤ n + 1) (fun V => n + 1 - V.length) [] (Nat.zero_le _) (by exact .cons rfl (.cons rfl (.cons rfl (.cons rfl (.cons rfl .nil))))) (fun w' h => h) ?_
  intro V hV
  refine cw_seq (cw_seq (cw_region (sr rfl rfl rfl ((q_move rfl rfl)) (sr rfl rfl rfl ((q_move rfl rfl)) ?_))))
  refine sr rfl rfl rfl ((q_len rfl (.cons rfl inferInstance (.nil)) (by exact fun w hw => Stb.cl (by assumption) hw))) ?_
  refine sr rfl rfl rfl ((q_leq rfl rfl rfl)) (sw_nil (post_then ?_))
  refine cw_cond rfl (fun h => ?_) (fun h => ?_)
  · skip
    have hV' : V.length < n + 1 := by simp only [decide_eq_true_eq] at h; omega
    have hcl : (V ++ List.replicate (n + 1 - V.length) (⟨none, 0, 0⟩ : SlV)).length = n + 1 := by simp; omega
    refine cw_skip (post_then (cw_seq (cw_block (cw_seq (cw_region (sr rfl rfl rfl ((q_move rfl rfl)) (sr rfl rfl rfl ((q_move rfl rfl)) (sr rfl rfl rfl ((q_move rfl rfl)) ?_))))))))
    refine sr rfl rfl rfl ((q_len rfl (.cons rfl inferInstance (.nil)) (by exact fun w hw => Stb.cl (by assumption) hw))) ?_
    refine sr rfl rfl rfl ((q_add rfl rfl rfl (by intro hc; omega))) ?_
    rw [hme]
    refine sw_x rfl rfl rfl (e_make (α := Int) (zero := 0) rfl rfl rfl rfl rfl (by omega) (by omega) (by decide)) (fun s37 => ?_)
    have e1 : ((m : Int) + 1).toNat = m + 1 := by omega
    rw [e1]
    refine sr rfl rfl rfl ((q_indexN rfl rfl rfl (by exact fun w hw => rd_own hw (by exact .tail _ (.head _))) (by intro hc; omega))) ?_
    refine sw_eff0 rfl rfl (e_storeEl1 (i := 1) rfl rfl rfl rfl rfl (by omega)) ?_
    refine sw_nil (post_then (cw_seq (cw_region (sr rfl rfl rfl ((q_assign rfl rfl)) (sw_nil (post_then (cw_block ?_)))))))
    have hcv : (V ++ List.replicate (n + 1 - V.length) (⟨none, 0, 0⟩ : SlV)).set V.length s37 = (V ++ [s37]) ++ List.replicate (n + 1 - (V ++ [s37]).length) ⟨none, 0, 0⟩ := by
      rw [List.set_append_right _ _ (Nat.le_refl _), Nat.sub_self, show n + 1 - V.length = (n + 1 - (V ++ [s37]).length) + 1 by simp; omega, List.replicate_succ, List.set_cons_zero]
      simp
    have hrow : nth ((V ++ List.replicate (n + 1 - V.length) (⟨none, 0, 0⟩ : SlV)).set V.length s37) V.length = s37 := by rw [nth_setP _ _ _ _ (by omega), if_pos rfl]
    have hcl2 : ((V ++ List.replicate (n + 1 - V.length) (⟨none, 0, 0⟩ : SlV)).set V.length s37).length = n + 1 := by rw [List.length_set, hcl]
    generalize (V ++ List.replicate (n + 1 - V.length) (⟨none, 0, 0⟩ : SlV)).set V.length s37 = cv at hcv hrow hcl2 ⊢
    refine cw_loop (S := Nat × List Int) (fun y => [(0, [], sp.v), (1, [], sw.v), (2, [], sl.v), (8, [], s25.v), (9, [], .int .i64 V.length), (10, [], .int .i64 y.1)]) (fun y => Cl w [] (ownL 3 (nth cv V.length).v y.2 :: ownL 116 s25.v cv :: rowsF 3 V (fun _ => List.replicate (m + 1) (-1 : Int)))) (fun y => y.1 ≤ m + 1 ∧ y.2.length = m + 1 ∧ ∀ j, j < y.1 → nth y.2 j = -1) (fun y => m + 1 - y.1) (0, List.replicate (m + 1) 0) ⟨Nat.zero_le _, by simp, fun j hj => by omega⟩ (by exact .cons rfl (.cons rfl (.cons rfl (.cons rfl (.cons rfl (.cons rfl .nil)))))) (fun w' h => by rw [hrow]; exact h) ?_
    rintro ⟨k, r⟩ ⟨hk, hll, hlt⟩
    dsimp only at hk hll hlt ⊢
    refine cw_seq (cw_seq (cw_region (sr rfl rfl rfl ((q_move rfl rfl)) (sr rfl rfl rfl ((q_move rfl rfl)) ?_))))
    refine sr rfl rfl rfl ((q_len rfl (.cons rfl inferInstance (.nil)) (by exact fun w hw => Stb.cl (by assumption) hw))) ?_
    refine sr rfl rfl rfl ((q_leq rfl rfl rfl)) (sw_nil (post_then ?_))
    refine cw_cond rfl (fun h3 => ?_) (fun h3 => ?_)
    · skip
      have hk' : k < m + 1 := by simp only [decide_eq_true_eq] at h3; omega
      refine cw_skip (post_then (cw_seq (cw_block (cw_region (sr rfl rfl rfl ((q_move rfl rfl)) (sr rfl rfl rfl ((q_move rfl rfl)) ?_))))))
      refine sr rfl rfl rfl ((q_indexN rfl rfl rfl (by exact fun w hw => rd_own hw (by exact .tail _ (.head _))) (by intro hc; omega))) ?_
      refine sr rfl rfl rfl ((q_loadEl rfl rfl rfl (by exact fun w hw => rd_own hw (by exact .tail _ (.head _))) (by intro hc; omega))) ?_
      refine sr rfl rfl rfl ((q_move rfl rfl)) ?_
      refine sr rfl rfl rfl ((q_indexN rfl rfl rfl (by exact fun w hw => rd_own hw (by exact .head _)) (by intro hc; omega))) ?_
      refine sw_eff0 rfl rfl (e_storeEl1 (i := 0) rfl rfl rfl rfl rfl (by omega)) ?_
      refine sw_nil (post_blk (post_then (cw_region (sr rfl rfl rfl ((q_move rfl rfl)) ?_))))
      refine sr rfl rfl rfl ((q_add rfl rfl rfl (by intro hc; omega))) ?_
      refine sr rfl rfl rfl ((q_assign rfl rfl)) (sw_nil ?_)
      refine post_next (k + 1, r.set k (-1)) (by exact .cons rfl (.cons rfl (.cons rfl (.cons rfl (.cons rfl (.cons rfl .nil)))))) (fun _ h => h) ⟨by simp only; omega, by simp [hll], fun j hj => ?_⟩ (by simp only; omega)
      simp only at hj ⊢
      rw [nth_setP _ _ _ _ (by omega)]
      by_cases e : j = k
      · rw [if_pos e]
      · rw [if_neg e]; exact hlt j (by omega)
    · skip
      have hk' : k = m + 1 := by simp only [decide_eq_false_iff_not] at h3; omega
      have hr : r = List.replicate (m + 1) (-1) := by
        apply List.ext_getElem (by simp [hll])
        intro j a b
        have := hlt j (by omega)
        rw [nth_get a] at this
        simp [this]
      refine cw_exit (post_then_x (post_then_x (post_blk_eq (post_blk (post_then (cw_region (sr rfl rfl rfl ((q_move rfl rfl)) ?_)))))))
      refine sr rfl rfl rfl ((q_add rfl rfl rfl (by intro hc; omega))) ?_
      refine sr rfl rfl rfl ((q_assign rfl rfl)) (sw_nil ?_)
      refine post_next (V ++ [s37]) ?_ (fun w3 hw3 => ?_) (by simp; omega) (by simp; omega)
      · exact Le.cons rfl (Le.cons rfl (Le.cons rfl (Le.cons rfl (Le.cons' rfl (by congr 1; simp) Le.nil))))
      · rw [hrow, hcv, hr] at hw3
        rw [rowsF_snoc]
        exact hw3.perm perm_rot
  · skip
    have hV' : V.length = n + 1 := by simp only [decide_eq_false_iff_not] at h; omega
    rw [hV', Nat.sub_self, List.replicate_zero, List.append_nil]
    refine cw_c (C' := Cl w [] (ownL 3 (nth V ws.length).v (List.replicate (m + 1) (-1 : Int)) :: ownL 116 s25.v V :: rowsO 3 V (fun _ => List.replicate (m + 1) (-1 : Int)) n)) (fun w' hw => by rw [hne]; exact hw.perm ((rowsF_out (by omega)).cons _ |>.trans (.swap _ _ _))) ?_
    refine cw_exit (post_then_x (post_then_x (post_blk_eq (post_then (cw_seq (cw_region (sr rfl rfl rfl ((q_move rfl rfl)) (sr rfl rfl rfl ((q_move rfl rfl)) ?_))))))))
    refine sr rfl rfl rfl ((q_len rfl (.cons rfl inferInstance (.nil)) (by exact fun w hw => Stb.cl (by assumption) hw))) ?_
    refine sr rfl rfl rfl ((q_indexN rfl rfl rfl (by exact fun w hw => rd_own hw (by exact .tail _ (.head _))) (by intro hc; omega))) ?_
    refine sr rfl rfl rfl ((q_loadEl rfl rfl rfl (by exact fun w hw => rd_own hw (by exact .tail _ (.head _))) (by intro hc; omega))) ?_
    refine sr rfl rfl rfl ((q_move rfl rfl)) ?_
    refine sr rfl rfl rfl ((q_len rfl (.cons rfl inferInstance (.nil)) (by exact fun w hw => Stb.cl (by assumption) hw))) ?_
    refine sr rfl rfl rfl ((q_indexN rfl rfl rfl (by exact fun w hw => rd_own hw (by exact .head _)) (by intro hc; (simp only [List.length_set, List.length_append, List.length_cons, List.length_nil, List.length_replicate, List.length_take, List.length_drop, List.length_map]; omega)))) ?_
    refine sw_eff0 rfl rfl (e_storeEl1 (i := 0) rfl rfl rfl rfl rfl (by (simp only [List.length_set, List.length_append, List.length_cons, List.length_nil, List.length_replicate, List.length_take, List.length_drop, List.length_map]; omega))) ?_
    refine sw_nil (post_then (cw_seq (cw_seq (cw_region (sr rfl rfl rfl ((q_move rfl rfl)) ?_)))))
    refine sr rfl rfl rfl ((q_len rfl (.cons rfl inferInstance (.nil)) (by exact fun w hw => Stb.cl (by assumption) hw))) ?_
    refine sr rfl rfl rfl ((q_sub rfl rfl rfl (by intro hc; omega))) ?_
    refine sr rfl rfl rfl ((q_assign rfl rfl)) (sw_nil (post_then (cw_block ?_)))
    refine cw_loop (S := Nat × (Nat → List Int)) (fun y => [(0, [], sp.v), (1, [], sw.v), (2, [], sl.v), (8, [], s25.v), (11, [], .int .i64 ((n : Int) - y.1 - 1))]) (fun y => Cl w [] (ownL 116 s25.v V :: rowsF 3 V y.2)) (fun y => y.1 ≤ n ∧ ∀ j, j ≤ n → (y.2 j).length = m + 1 ∧ ∀ k, k ≤ m → nth (y.2 j) k = if n - y.1 ≤ j then D j k else -1) (fun y => n - y.1) (0, fun j => if j = n then (List.replicate (m + 1) (-1 : Int)).set m 0 else List.replicate (m + 1) (-1 : Int)) ⟨Nat.zero_le _, fun j hj => ?_⟩ ?_ (fun w' hw => ?_) ?_
    · dsimp only
      by_cases e : j = n
      · rw [if_pos e]
        refine ⟨by simp, fun k hk => ?_⟩
        rw [nth_setP _ _ _ _ (by simp), e, show (if n - 0 ≤ n then D n k else -1) = D n k from if_pos (by omega), hDn k hk]
        by_cases e2 : k = m
        · simp [e2]
        · rw [if_neg e2, if_neg e2, nth_get (by simp; omega)]; simp
      · rw [if_neg e]
        refine ⟨by simp, fun k hk => ?_⟩
        rw [if_neg (by omega), nth_get (by simp; omega)]; simp
    · exact Le.cons rfl (Le.cons rfl (Le.cons rfl (Le.cons rfl (Le.cons' rfl (by congr 1; simp only; omega) Le.nil))))
    · rw [hne, hme] at hw
      exact hw.perm (perm_in1 (rowsF_in (by omega) (fun k _ hk => by dsimp only; rw [if_neg hk]) (by dsimp only; rw [if_pos rfl])))
    rintro ⟨q, F⟩ ⟨hq, hF⟩
    dsimp only at hq hF ⊢
    refine cw_seq (cw_seq (cw_region (sr rfl rfl rfl ((q_move rfl rfl)) (sr rfl rfl rfl ((q_geq rfl rfl rfl)) (sw_nil (post_then ?_))))))
    refine cw_cond rfl (fun h3 => ?_) (fun h3 => ?_)
    · skip
      obtain ⟨r, hre⟩ : ∃ r, n - (q + 1) = r := ⟨_, rfl⟩
      have hq' : q < n := by simp only [decide_eq_true_eq] at h3; omega
      have hrn : r < n := by omega
      have er : ((n : Int) - q - 1) = (r : Int) := by omega
      rw [er]
      obtain ⟨hl1, hr1⟩ := hF (r + 1) (by omega)
      obtain ⟨hl0, hr0⟩ := hF r (by omega)
      have hF1 : ∀ k, k ≤ m → nth (F (r + 1)) k = D (r + 1) k := fun k hk => by rw [hr1 k hk, if_pos (by omega)]
      obtain ⟨cc, hcc⟩ : ∃ cc, (nth ws r).v = cc := ⟨_, rfl⟩
      have hol := offers_le p cc
      refine cw_c (C' := Cl w [] (ownL 3 (nth V r).v (F r) :: ownL 3 (nth V (r + 1)).v (F (r + 1)) :: ownL 116 s25.v V :: rowsO2 3 V F r (r + 1))) (fun w' hw => hw.perm (perm_in2 (rowsF_out2 (by omega) (by omega) (by omega)).symm).symm) ?_
      refine cw_skip (post_then (cw_seq (cw_block (cw_seq (cw_region (sr rfl rfl rfl ((q_move rfl rfl)) (sr rfl rfl rfl ((q_move rfl rfl)) (sr rfl rfl rfl ((q_move rfl rfl)) ?_))))))))
      refine sr rfl rfl rfl ((q_indexN rfl rfl rfl (by exact fun w hw => Stb.cl (by assumption) hw) (by intro hc; omega))) ?_
      refine sr rfl rfl rfl ((q_loadEl rfl rfl rfl (by exact fun w hw => Stb.cl (by assumption) hw) (by intro hc; omega))) ?_
      refine sw_x rfl rfl rfl (e_call (CanCall.mk Tryz.call67) rfl (.cons rfl inferInstance (.cons rfl inferInstance (.nil))) (fun w1 hw => pieces_spec sp.v p (nth ws r).v hpn w1 (stb_arg hw hp))) (fun s71 => ?_)
      refine sw_imp fun _ => ?_
      rw [hcc]
      refine sr rfl rfl rfl ((q_assign rfl rfl)) (sw_nil (post_then (cw_seq (cw_region (sr rfl rfl rfl ((q_assign rfl rfl)) (sw_nil (post_then (cw_block ?_))))))))
      refine cw_loop (S := Nat × List Int) (fun y => [(0, [], sp.v), (1, [], sw.v), (2, [], sl.v), (8, [], s25.v), (11, [], .int .i64 r), (12, [], s71.v), (13, [], .int .i64 y.1)]) (fun y => Cl w [] (ownL 68 s71.v (offers p cc) :: ownL 3 (nth V r).v y.2 :: ownL 3 (nth V (r + 1)).v (F (r + 1)) :: ownL 116 s25.v V :: rowsO2 3 V F r (r + 1))) (fun y => y.1 ≤ m + 1 ∧ y.2.length = m + 1 ∧ (∀ j, j < y.1 → nth y.2 j = D r j) ∧ ∀ j, y.1 ≤ j → j ≤ m → nth y.2 j = -1) (fun y => m + 1 - y.1) (0, F r) ⟨Nat.zero_le _, hl0, fun j hj => by omega, fun j _ hj => by rw [hr0 j hj, if_neg (by omega)]⟩ (by exact .cons rfl (.cons rfl (.cons rfl (.cons rfl (.cons rfl (.cons rfl (.cons rfl .nil))))))) (fun w' h => h) ?_
      rintro ⟨k, cur⟩ ⟨hk1, hcl, hcd, hcn⟩
      dsimp only at hk1 hcl hcd hcn ⊢
      refine cw_seq (cw_seq (cw_region (sr rfl rfl rfl ((q_move rfl rfl)) (sr rfl rfl rfl ((q_move rfl rfl)) ?_))))
      refine sr rfl rfl rfl ((q_len rfl (.cons rfl inferInstance (.nil)) (by exact fun w hw => Stb.cl (by assumption) hw))) ?_
      refine sr rfl rfl rfl ((q_leq rfl rfl rfl)) (sw_nil (post_then ?_))
      refine cw_cond rfl (fun h4 => ?_) (fun h4 => ?_)
      · skip
        have hkm : k ≤ m := by simp only [decide_eq_true_eq] at h4; omega
        have hck : nth cur k = -1 := hcn k (Nat.le_refl _) hkm
        obtain ⟨fx, hfx⟩ : ∃ fx, tryC (leastC p (ws.drop (r + 1))) (l.drop k) = fx := ⟨_, rfl⟩
        have hfxe : ∀ x, fx x = if (decide (k + x.pl.length ≤ m) && decide ((l.take (k + x.pl.length)).drop k = x.pl)) = true ∧ 0 ≤ D (r + 1) (k + x.pl.length) then x.cost + D (r + 1) (k + x.pl.length) else -1 := fun x => by rw [← hfx]; exact hTr r k x hkm
        obtain ⟨vv, hvv⟩ : ∃ vv : Nat → Int, ∀ X, vv X = ((offers p cc).take X).foldl (stepC fx) (-1) := ⟨_, fun _ => rfl⟩
        have hv0 : vv 0 = -1 := by rw [hvv]; rfl
        have hvs : ∀ X, X < (offers p cc).length → vv (X + 1) = stepC fx (vv X) (nth (offers p cc) X) := fun X hX => by rw [hvv, hvv, take_fold _ _ hX]
        have hfb : ∀ x ∈ offers p cc, -1 ≤ fx x ∧ fx x ≤ 81000 := fun x hx => by
          have h1 := hcost x (offers_mem.1 hx).1
          have h2 := hDb (r + 1) (k + x.pl.length)
          rw [hfxe]
          split <;> omega
        have hvb : ∀ X, X ≤ (offers p cc).length → -1 ≤ vv X ∧ vv X ≤ 81000 := fun X hX => by
          induction X with
          | zero => rw [hv0]; omega
          | succ X ih =>
            have h1 := ih (by omega)
            have h2 := hfb _ (nth_mem (by omega : X < (offers p cc).length))
            rw [hvs X (by omega)]
            unfold stepC
            split <;> omega
        refine cw_skip (post_then (cw_seq (cw_block (cw_seq (cw_region (sr rfl rfl rfl ((q_assign rfl rfl)) (sw_nil (post_then (cw_block ?_)))))))))
        refine cw_loop (S := Nat) (fun X => [(0, [], sp.v), (1, [], sw.v), (2, [], sl.v), (8, [], s25.v), (11, [], .int .i64 r), (12, [], s71.v), (13, [], .int .i64 k), (14, [], .int .i64 X)]) (fun X => Cl w [] (ownL 68 s71.v (offers p cc) :: ownL 3 (nth V r).v (cur.set k (vv X)) :: ownL 3 (nth V (r + 1)).v (F (r + 1)) :: ownL 116 s25.v V :: rowsO2 3 V F r (r + 1))) (fun X => X ≤ (offers p cc).length) (fun X => (offers p cc).length - X) 0 (Nat.zero_le _) (by exact .cons rfl (.cons rfl (.cons rfl (.cons rfl (.cons rfl (.cons rfl (.cons rfl (.cons rfl .nil)))))))) (fun w' h => by rw [hv0, sets_same hck (by omega)]; exact h) ?_
        intro X hX
        have hcsl : (cur.set k (vv X)).length = m + 1 := by rw [List.length_set, hcl]
        have hcsk : nth (cur.set k (vv X)) k = vv X := by rw [nth_setP _ _ _ _ (by omega), if_pos rfl]
        have hvbX := hvb X hX
        refine cw_seq (cw_seq (cw_region (sr rfl rfl rfl ((q_move rfl rfl)) (sr rfl rfl rfl ((q_move rfl rfl)) ?_))))
        refine sr rfl rfl rfl ((q_len rfl (.cons rfl inferInstance (.nil)) (by exact fun w hw => rd_own hw (by exact .head _)))) ?_
        refine sr rfl rfl rfl ((q_lss rfl rfl rfl)) (sw_nil (post_then ?_))
        refine cw_cond rfl (fun h5 => ?_) (fun h5 => ?_)
        · skip
          have hX' : X < (offers p cc).length := by simp only [decide_eq_true_eq] at h5; omega
          have hxm : (nth (offers p cc) X) ∈ p := (offers_mem.1 (nth_mem hX')).1
          have hxs : Stb w [] (RdL (nth (offers p cc) X).p.v (nth (offers p cc) X).pl) := stb_mem hpi hxm
          have hxc := hcost (nth (offers p cc) X) hxm
          have hxl := hpl (nth (offers p cc) X) hxm
          have hfxx := hfxe (nth (offers p cc) X)
          have hst := hvs X hX'
          have hxD := hDb (r + 1) (k + (nth (offers p cc) X).pl.length)
          have hb1 : -1 ≤ nth (F (r + 1)) (k + (nth (offers p cc) X).pl.length) ∧ nth (F (r + 1)) (k + (nth (offers p cc) X).pl.length) ≤ 80000 := by
            by_cases h6 : k + (nth (offers p cc) X).pl.length ≤ m
            · rw [hF1 _ h6]; exact hxD
            · rw [nth_out (by omega)]; omega
          refine cw_skip (post_then (cw_seq (cw_block (cw_seq (cw_seq ?_)))))
          refine cw_region_q mixed_Tryz (by kernel_rfl) ?_
          refine qr rfl rfl rfl ((q_move rfl rfl)) (qr rfl rfl rfl ((q_move rfl rfl)) ?_)
          refine qr rfl rfl rfl ((q_sliceL rfl rfl rfl (by exact fun w hw => Stb.cl (by assumption) hw) (by intro hc; omega))) ?_
          refine qr rfl rfl rfl ((q_move rfl rfl)) (qr rfl rfl rfl ((q_move rfl rfl)) ?_)
          refine qr rfl rfl rfl ((q_indexN rfl rfl rfl (by exact fun w hw => rd_own hw (by exact .head _)) (by intro hc; omega))) ?_
          refine qr rfl rfl rfl ((q_fieldEl rfl rfl (by exact fun w hw => rd_own hw (by exact .head _)) (by intro hc; omega))) ?_
          refine qr rfl rfl rfl ((q_loadF rfl rfl rfl (by exact fun w hw => rd_own hw (by exact .head _)) (by intro hc; omega) rfl)) ?_
          rw [hme]
          refine qw_step rfl rfl rfl (q_call (CanCall.mk Tryz.call68) rfl (.cons rfl inferInstance (.cons rfl inferInstance (.nil))) (fun _ w1 hw => callq hw (hbg k (nth (offers p cc) X) w1 hkm (stb_arg hw hl) (stb_arg hw hxs)))) (qr rfl rfl rfl ((q_not rfl rfl)) (qr rfl rfl rfl ((q_move rfl rfl)) (qr rfl rfl rfl ((q_move rfl rfl)) (qr rfl rfl rfl ((q_move rfl rfl)) ?_))))
          refine qr rfl rfl rfl ((q_add rfl rfl rfl (by intro hc; omega))) ?_
          refine qr rfl rfl rfl ((q_indexN rfl rfl rfl (by exact fun w hw => rd_own hw (by exact .tail _ (.tail _ (.tail _ (.head _))))) (by intro hc; (simp only [List.length_set, List.length_append, List.length_cons, List.length_nil, List.length_replicate, List.length_take, List.length_drop, List.length_map]; omega)))) ?_
          refine qr rfl rfl rfl ((q_loadEl rfl rfl rfl (by exact fun w hw => rd_own hw (by exact .tail _ (.tail _ (.tail _ (.head _))))) (by intro hc; (simp only [List.length_set, List.length_append, List.length_cons, List.length_nil, List.length_replicate, List.length_take, List.length_drop, List.length_map]; omega)))) ?_
          refine qr rfl rfl rfl ((q_move rfl rfl)) (qr rfl rfl rfl ((q_move rfl rfl)) (qr rfl rfl rfl ((q_move rfl rfl)) ?_))
          refine qr rfl rfl rfl ((q_indexN rfl rfl rfl (by exact fun w hw => rd_own hw (by exact .head _)) (by intro hc; omega))) ?_
          refine qr rfl rfl rfl ((q_fieldEl rfl rfl (by exact fun w hw => rd_own hw (by exact .head _)) (by intro hc; omega))) ?_
          refine qr rfl rfl rfl ((q_loadF rfl rfl rfl (by exact fun w hw => rd_own hw (by exact .head _)) (by intro hc; omega) rfl)) ?_
          refine qr rfl rfl rfl ((q_len rfl (.cons rfl inferInstance (.nil)) (by exact fun w hw => Stb.cl (by assumption) hw))) ?_
          refine qr rfl rfl rfl ((q_add rfl rfl rfl (by intro hc; omega))) ?_
          refine qr rfl rfl rfl ((q_indexN rfl rfl rfl (by exact fun w hw => rd_own hw (by exact .tail _ (.tail _ (.head _)))) (by intro hc; (simp only [AllT.iff, List.all_cons, List.all_nil, id, Bool.and_eq_true, Bool.not_eq_true', Bool.not_eq_false', decide_eq_true_eq, decide_eq_false_iff_not, and_true] at hc; omega)))) ?_
          refine qr rfl rfl rfl ((q_loadEl rfl rfl rfl (by exact fun w hw => rd_own hw (by exact .tail _ (.tail _ (.head _)))) (by intro hc; (simp only [AllT.iff, List.all_cons, List.all_nil, id, Bool.and_eq_true, Bool.not_eq_true', Bool.not_eq_false', decide_eq_true_eq, decide_eq_false_iff_not, and_true] at hc; omega)))) ?_
          refine qr rfl rfl rfl ((q_lss rfl rfl rfl)) (qr rfl rfl rfl ((q_or2 rfl rfl rfl)) (qw_end (post_then ?_)))
          refine cw_cond rfl (fun h6 => ?_) (fun h6 => ?_)
          · skip
            have hno : fx (nth (offers p cc) X) = -1 := by
              rw [hfxx, if_neg]
              rintro ⟨a1, a2⟩
              simp only [Bool.and_eq_true, decide_eq_true_eq] at a1
              have := hF1 (k + (nth (offers p cc) X).pl.length) a1.1
              simp [a1.1, a1.2] at h6
              omega
            have hst2 : vv (X + 1) = vv X := by rw [hst]; exact step_no (by omega)
            refine cw_exit (post_then_x (post_blk_eq (post_then (cw_region (sr rfl rfl rfl ((q_move rfl rfl)) ?_)))))
            refine sr rfl rfl rfl ((q_add rfl rfl rfl (by intro hc; omega))) ?_
            refine sr rfl rfl rfl ((q_assign rfl rfl)) (sw_nil ?_)
            exact post_next (X + 1) (by exact .cons rfl (.cons rfl (.cons rfl (.cons rfl (.cons rfl (.cons rfl (.cons rfl (.cons rfl .nil)))))))) (fun w' h => by rw [hst2]; exact h) (by omega) (by omega)
          · skip
            have hyes : k + (nth (offers p cc) X).pl.length ≤ m ∧ 0 ≤ D (r + 1) (k + (nth (offers p cc) X).pl.length) ∧ fx (nth (offers p cc) X) = (nth (offers p cc) X).cost + D (r + 1) (k + (nth (offers p cc) X).pl.length) := by
              simp only [Bool.or_eq_false_iff, Bool.not_eq_false', decide_eq_false_iff_not] at h6
              obtain ⟨a1, a2⟩ := h6
              have a3 := a1
              simp only [Bool.and_eq_true, decide_eq_true_eq] at a3
              have := hF1 (k + (nth (offers p cc) X).pl.length) a3.1
              have a4 : 0 ≤ D (r + 1) (k + (nth (offers p cc) X).pl.length) := by rw [← this]; exact Int.not_lt.1 a2
              exact ⟨a3.1, a4, by rw [hfxx, if_pos ⟨a1, a4⟩]⟩
            obtain ⟨hkx, hD0, hfe⟩ := hyes
            have hFx := hF1 _ hkx
            have e3 : ((k : Int) + ((nth (offers p cc) X).pl.length : Int)).toNat = k + (nth (offers p cc) X).pl.length := by omega
            refine cw_skip (post_then (cw_seq ?_))
            refine cw_region_q mixed_Tryz (by kernel_rfl) ?_
            refine qr rfl rfl rfl ((q_move rfl rfl)) (qr rfl rfl rfl ((q_move rfl rfl)) ?_)
            refine qr rfl rfl rfl ((q_indexN rfl rfl rfl (by exact fun w hw => rd_own hw (by exact .head _)) (by intro hc; omega))) ?_
            refine qr rfl rfl rfl ((q_fieldEl rfl rfl (by exact fun w hw => rd_own hw (by exact .head _)) (by intro hc; omega))) ?_
            refine qr rfl rfl rfl ((q_loadF rfl rfl rfl (by exact fun w hw => rd_own hw (by exact .head _)) (by intro hc; omega) rfl)) ?_
            refine qr rfl rfl rfl ((q_move rfl rfl)) (qr rfl rfl rfl ((q_move rfl rfl)) ?_)
            refine qr rfl rfl rfl ((q_add rfl rfl rfl (by intro hc; omega))) ?_
            refine qr rfl rfl rfl ((q_indexN rfl rfl rfl (by exact fun w hw => rd_own hw (by exact .tail _ (.tail _ (.tail _ (.head _))))) (by intro hc; (simp only [List.length_set, List.length_append, List.length_cons, List.length_nil, List.length_replicate, List.length_take, List.length_drop, List.length_map]; omega)))) ?_
            refine qr rfl rfl rfl ((q_loadEl rfl rfl rfl (by exact fun w hw => rd_own hw (by exact .tail _ (.tail _ (.tail _ (.head _))))) (by intro hc; (simp only [List.length_set, List.length_append, List.length_cons, List.length_nil, List.length_replicate, List.length_take, List.length_drop, List.length_map]; omega)))) ?_
            refine qr rfl rfl rfl ((q_move rfl rfl)) (qr rfl rfl rfl ((q_move rfl rfl)) (qr rfl rfl rfl ((q_move rfl rfl)) ?_))
            refine qr rfl rfl rfl ((q_indexN rfl rfl rfl (by exact fun w hw => rd_own hw (by exact .head _)) (by intro hc; omega))) ?_
            refine qr rfl rfl rfl ((q_fieldEl rfl rfl (by exact fun w hw => rd_own hw (by exact .head _)) (by intro hc; omega))) ?_
            refine qr rfl rfl rfl ((q_loadF rfl rfl rfl (by exact fun w hw => rd_own hw (by exact .head _)) (by intro hc; omega) rfl)) ?_
            refine qr rfl rfl rfl ((q_len rfl (.cons rfl inferInstance (.nil)) (by exact fun w hw => Stb.cl (by assumption) hw))) ?_
            refine qr rfl rfl rfl ((q_add rfl rfl rfl (by intro hc; omega))) ?_
            refine qr rfl rfl rfl ((q_indexN rfl rfl rfl (by exact fun w hw => rd_own hw (by exact .tail _ (.tail _ (.head _)))) (by intro hc; omega))) ?_
            refine qr rfl rfl rfl ((q_loadEl rfl rfl rfl (by exact fun w hw => rd_own hw (by exact .tail _ (.tail _ (.head _)))) (by intro hc; omega))) ?_
            refine qr rfl rfl rfl ((q_add rfl rfl rfl (by intro hc; omega))) ?_
            refine qr rfl rfl rfl ((q_assign rfl rfl)) (qw_end (post_then (cw_seq (cw_region (sr rfl rfl rfl ((q_move rfl rfl)) (sr rfl rfl rfl ((q_move rfl rfl)) ?_))))))
            refine sr rfl rfl rfl ((q_indexN rfl rfl rfl (by exact fun w hw => rd_own hw (by exact .tail _ (.tail _ (.tail _ (.head _))))) (by intro hc; omega))) ?_
            refine sr rfl rfl rfl ((q_loadEl rfl rfl rfl (by exact fun w hw => rd_own hw (by exact .tail _ (.tail _ (.tail _ (.head _))))) (by intro hc; omega))) ?_
            refine sr rfl rfl rfl ((q_move rfl rfl)) ?_
            refine sr rfl rfl rfl ((q_indexN rfl rfl rfl (by exact fun w hw => rd_own hw (by exact .tail _ (.head _))) (by intro hc; omega))) ?_
            refine sr rfl rfl rfl ((q_loadEl rfl rfl rfl (by exact fun w hw => rd_own hw (by exact .tail _ (.head _))) (by intro hc; omega))) ?_
            refine sr rfl rfl rfl ((q_lss rfl rfl rfl)) (sr rfl rfl rfl ((q_move rfl rfl)) (sr rfl rfl rfl ((q_move rfl rfl)) (sr rfl rfl rfl ((q_move rfl rfl)) (sr rfl rfl rfl ((q_move rfl rfl)) ?_))))
            refine sr rfl rfl rfl ((q_indexN rfl rfl rfl (by exact fun w hw => rd_own hw (by exact .tail _ (.tail _ (.tail _ (.head _))))) (by intro hc; omega))) ?_
            refine sr rfl rfl rfl ((q_loadEl rfl rfl rfl (by exact fun w hw => rd_own hw (by exact .tail _ (.tail _ (.tail _ (.head _))))) (by intro hc; omega))) ?_
            refine sr rfl rfl rfl ((q_move rfl rfl)) ?_
            refine sr rfl rfl rfl ((q_indexN rfl rfl rfl (by exact fun w hw => rd_own hw (by exact .tail _ (.head _))) (by intro hc; omega))) ?_
            refine sr rfl rfl rfl ((q_loadEl rfl rfl rfl (by exact fun w hw => rd_own hw (by exact .tail _ (.head _))) (by intro hc; omega))) ?_
            refine sr rfl rfl rfl ((q_lss rfl rfl rfl)) (sr rfl rfl rfl ((q_or2 rfl rfl rfl)) (sw_nil (post_then ?_)))
            refine cw_cond rfl (fun h7 => ?_) (fun h7 => ?_)
            · skip
              have hst2 : vv (X + 1) = (nth (offers p cc) X).cost + nth (F (r + 1)) (k + (nth (offers p cc) X).pl.length) := by
                rw [hFx, ← hfe, hst]
                refine step_yes ⟨by omega, ?_⟩
                simp only [Bool.or_eq_true, decide_eq_true_eq, Int.toNat_natCast, e3, hFx, hcsk, ← hfe] at h7
                omega
              refine cw_region (sr rfl rfl rfl ((q_move rfl rfl)) (sr rfl rfl rfl ((q_move rfl rfl)) ?_))
              refine sr rfl rfl rfl ((q_indexN rfl rfl rfl (by exact fun w hw => rd_own hw (by exact .tail _ (.tail _ (.tail _ (.head _))))) (by intro hc; omega))) ?_
              refine sr rfl rfl rfl ((q_loadEl rfl rfl rfl (by exact fun w hw => rd_own hw (by exact .tail _ (.tail _ (.tail _ (.head _))))) (by intro hc; omega))) ?_
              refine sr rfl rfl rfl ((q_move rfl rfl)) (sr rfl rfl rfl ((q_move rfl rfl)) ?_)
              refine sr rfl rfl rfl ((q_indexN rfl rfl rfl (by exact fun w hw => rd_own hw (by exact .tail _ (.head _))) (by intro hc; omega))) ?_
              refine sw_eff0 rfl rfl (e_storeEl1 (i := 1) rfl rfl rfl rfl rfl (by omega)) ?_
              refine sw_nil (post_blk (post_then (cw_region (sr rfl rfl rfl ((q_move rfl rfl)) ?_))))
              refine sr rfl rfl rfl ((q_add rfl rfl rfl (by intro hc; omega))) ?_
              refine sr rfl rfl rfl ((q_assign rfl rfl)) (sw_nil ?_)
              refine post_next (X + 1) (by exact .cons rfl (.cons rfl (.cons rfl (.cons rfl (.cons rfl (.cons rfl (.cons rfl (.cons rfl .nil)))))))) (fun w' h => ?_) (by omega) (by omega)
              rw [hst2]
              simp only [Int.toNat_natCast, e3, List.set_set] at h
              exact h
            · skip
              have hst2 : vv (X + 1) = vv X := by
                rw [hst]
                refine step_no ?_
                simp only [Bool.or_eq_false_iff, decide_eq_false_iff_not, Int.toNat_natCast, e3, hFx, hcsk, ← hfe] at h7
                omega
              refine cw_skip (post_blk (post_then (cw_region (sr rfl rfl rfl ((q_move rfl rfl)) ?_))))
              refine sr rfl rfl rfl ((q_add rfl rfl rfl (by intro hc; omega))) ?_
              refine sr rfl rfl rfl ((q_assign rfl rfl)) (sw_nil ?_)
              exact post_next (X + 1) (by exact .cons rfl (.cons rfl (.cons rfl (.cons rfl (.cons rfl (.cons rfl (.cons rfl (.cons rfl .nil)))))))) (fun w' h => by rw [hst2]; exact h) (by omega) (by omega)
        · skip
          have hX' : X = (offers p cc).length := by simp only [decide_eq_false_iff_not] at h5; omega
          have hvD : vv X = D r k := by rw [hvv, hX', List.take_length, hDs r k hrn, hcc, hfx]
          refine cw_exit (post_then_x (post_then_x (post_blk_eq (post_blk (post_then (cw_region (sr rfl rfl rfl ((q_move rfl rfl)) ?_)))))))
          refine sr rfl rfl rfl ((q_add rfl rfl rfl (by intro hc; omega))) ?_
          refine sr rfl rfl rfl ((q_assign rfl rfl)) (sw_nil ?_)
          refine post_next (k + 1, cur.set k (vv X)) (by exact .cons rfl (.cons rfl (.cons rfl (.cons rfl (.cons rfl (.cons rfl (.cons rfl .nil))))))) (fun _ h => h) ⟨by simp only; omega, hcsl, fun j hj => ?_, fun j hj hj2 => ?_⟩ (by simp only; omega)
          · simp only at hj ⊢
            rw [nth_setP _ _ _ _ (by omega)]
            by_cases e : j = k
            · rw [if_pos e, e, hvD]
            · rw [if_neg e]; exact hcd j (by omega)
          · simp only at hj hj2 ⊢
            rw [nth_setP _ _ _ _ (by omega), if_neg (by omega)]; exact hcn j (by omega) hj2
      · skip
        have hkm : k = m + 1 := by simp only [decide_eq_false_iff_not] at h4; omega
        refine cw_exit (post_then_x (post_then_x (post_blk_eq (post_blk (post_then (cw_region (sr rfl rfl rfl ((q_move rfl rfl)) ?_)))))))
        refine sr rfl rfl rfl ((q_sub rfl rfl rfl (by intro hc; omega))) ?_
        refine sr rfl rfl rfl ((q_assign rfl rfl)) (sw_nil ?_)
        refine post_next (q + 1, fun j => if j = r then cur else F j) ?_ (fun w3 hw3 => ?_) ⟨by simp only; omega, fun j hj => ?_⟩ (by simp only; omega)
        · exact Le.cons rfl (Le.cons rfl (Le.cons rfl (Le.cons rfl (Le.cons' rfl (by congr 1; simp only; omega) Le.nil))))
        · exact hw3.tail.perm (perm_in2 (rowsF_in2 (by omega) (by omega) (by omega) (fun k _ hk => by dsimp only; rw [if_neg hk]) (by dsimp only; rw [if_pos rfl])))
        · simp only
          by_cases e : j = r
          · rw [if_pos e]
            refine ⟨hcl, fun k hk => ?_⟩
            rw [if_pos (by omega), hcd k (by omega), e]
          · rw [if_neg e]
            obtain ⟨a, b⟩ := hF j hj
            refine ⟨a, fun k hk => ?_⟩
            rw [b k hk]
            by_cases e2 : n - q ≤ j
            · rw [if_pos e2, if_pos (by omega)]
            · rw [if_neg e2, if_neg (by omega)]
    · skip
      have hqm : q = n := by simp only [decide_eq_false_iff_not] at h3; omega
      have hFd : ∀ j, j ≤ n → ∀ k, k ≤ m → nth (F j) k = D j k := fun j hj k hk => by rw [(hF j hj).2 k hk, if_pos (by omega)]
      have hFl : ∀ j, j ≤ n → (F j).length = m + 1 := fun j hj => (hF j hj).1
      have h00 := hFd 0 (Nat.zero_le _) 0 (Nat.zero_le _)
      have hl0 := hFl 0 (Nat.zero_le _)
      have hD00 : D 0 0 = leastC p ws l := by rw [hD]; rfl
      have hD00b := hDb 0 0
      refine cw_c (C' := Cl w [] (ownL 3 (nth V 0).v (F 0) :: ownL 116 s25.v V :: rowsO 3 V F 0)) (fun w' hw => hw.perm (perm_in1 (rowsF_out (by omega)).symm).symm) ?_
      refine cw_exit (post_then_x (post_then_x (post_blk_eq (post_then (cw_seq (cw_seq (cw_region (sr rfl rfl rfl ((q_move rfl rfl)) ?_))))))))
      refine sr rfl rfl rfl ((q_indexN rfl rfl rfl (by exact fun w hw => rd_own hw (by exact .tail _ (.head _))) (by intro hc; (simp only [List.length_set, List.length_append, List.length_cons, List.length_nil, List.length_replicate, List.length_take, List.length_drop, List.length_map]; omega)))) ?_
      refine sr rfl rfl rfl ((q_loadEl rfl rfl rfl (by exact fun w hw => rd_own hw (by exact .tail _ (.head _))) (by intro hc; (simp only [List.length_set, List.length_append, List.length_cons, List.length_nil, List.length_replicate, List.length_take, List.length_drop, List.length_map]; omega)))) ?_
      refine sr rfl rfl rfl ((q_indexN rfl rfl rfl (by exact fun w hw => rd_own hw (by exact .head _)) (by intro hc; (simp only [List.length_set, List.length_append, List.length_cons, List.length_nil, List.length_replicate, List.length_take, List.length_drop, List.length_map]; omega)))) ?_
      refine sr rfl rfl rfl ((q_loadEl rfl rfl rfl (by exact fun w hw => rd_own hw (by exact .head _)) (by intro hc; (simp only [List.length_set, List.length_append, List.length_cons, List.length_nil, List.length_replicate, List.length_take, List.length_drop, List.length_map]; omega)))) ?_
      refine sr rfl rfl rfl ((q_lss rfl rfl rfl)) (sw_nil (post_then ?_))
      refine cw_cond rfl (fun h5 => ?_) (fun h5 => ?_)
      · skip
        have h6 : leastC p ws l = -1 := by
          rw [← hD00]
          simp only [decide_eq_true_eq] at h5
          have : nth (F 0) 0 < 0 := h5
          omega
        refine cw_seq (cw_region (sr rfl rfl rfl ((q_assign rfl rfl)) (sr rfl rfl rfl ((q_assign rfl rfl)) (sw_nil (post_then (cw_ret (post_then_r (post_ret2 rfl (resOk_tmp rfl) (resOk_tmp rfl) ?_))))))))
        exact fun w' hw => ⟨⟨none, 0, 0⟩, by rw [h6]; rfl, trivial, by rw [if_neg (by omega)]; exact frz_nil ((fun w h => Cl.sel (by exact .nil _) w h) w' hw : Cl w [] [] w')⟩
      · skip
        have h6 : 0 ≤ leastC p ws l := by
          rw [← hD00]
          simp only [decide_eq_false_iff_not] at h5
          have : ¬ nth (F 0) 0 < 0 := h5
          omega
        rw [if_pos h6]
        refine cw_c (C' := Cl w [] (ownL 23 (SlV.v ⟨none, 0, 0⟩) ([] : List SlV) :: frz (RdR ([] : List SlV) ([] : List (List ByteArray))) :: ownL 116 s25.v V :: rowsF 3 V F)) (fun w' hw => ?_) ?_
        · have h7 := hw.perm (perm_in1 (rowsF_out (e := 3) (vs := V) (f := F) (i := 0) (by omega)).symm)
          have h8 : Cl w [] (frz (RdR ([] : List SlV) ([] : List (List ByteArray))) :: (ownL 116 s25.v V :: rowsF 3 V F)) w' := Cl.frz (H := []) h7 fun w' bs _ => ⟨rfl, fun i hi => by simp at hi⟩
          exact h8.addNil (α := SlV) 23
        refine cw_skip (post_then (cw_seq (cw_region (sr rfl rfl rfl ((q_assign rfl rfl)) (sw_nil (post_then (cw_seq (cw_region (sr rfl rfl rfl ((q_assign rfl rfl)) (sw_nil (post_then (cw_seq (cw_seq (cw_region (sr rfl rfl rfl ((q_assign rfl rfl)) (sw_nil (post_then (cw_block ?_))))))))))))))))))
        refine cw_loop (S := (Nat × Nat) × (SlV × List SlV × List (List ByteArray))) (fun y => [(0, [], sp.v), (1, [], sw.v), (2, [], sl.v), (8, [], s25.v), (16, [], y.2.1.v), (17, [], .int .i64 y.1.2), (18, [], .int .i64 y.1.1)]) (fun y => Cl w [] (ownL 23 y.2.1.v y.2.2.1 :: frz (RdR y.2.2.1 y.2.2.2) :: ownL 116 s25.v V :: rowsF 3 V F)) (fun y => y.1.1 ≤ n ∧ y.1.2 ≤ m ∧ y.2.2.1.length = y.1.1 ∧ 0 ≤ D y.1.1 y.1.2 ∧ pathC p ws l = y.2.2.2 ++ pathC p (ws.drop y.1.1) (l.drop y.1.2)) (fun y => n - y.1.1) ((0, 0), (⟨none, 0, 0⟩, [], [])) ⟨Nat.zero_le _, Nat.zero_le _, rfl, by rw [hD00]; exact h6, by simp⟩ (by exact .cons rfl (.cons rfl (.cons rfl (.cons rfl (.cons rfl (.cons rfl (.cons rfl .nil))))))) (fun w' h => h) ?_
        rintro ⟨⟨i, k⟩, ⟨so, vs2, ll⟩⟩ ⟨hi1, hk1, hvl, hDv, hpt⟩
        dsimp only at hi1 hk1 hvl hDv hpt ⊢
        refine cw_seq (cw_seq (cw_region (sr rfl rfl rfl ((q_move rfl rfl)) (sr rfl rfl rfl ((q_move rfl rfl)) ?_))))
        refine sr rfl rfl rfl ((q_len rfl (.cons rfl inferInstance (.nil)) (by exact fun w hw => Stb.cl (by assumption) hw))) ?_
        refine sr rfl rfl rfl ((q_lss rfl rfl rfl)) (sw_nil (post_then ?_))
        refine cw_cond rfl (fun h7 => ?_) (fun h7 => ?_)
        · skip
          have hin : i < n := by simp only [decide_eq_true_eq] at h7; omega
          obtain ⟨cc, hcc⟩ : ∃ cc, (nth ws i).v = cc := ⟨_, rfl⟩
          have hol := offers_le p cc
          have hDv2 := hDv
          rw [hD, drop_at (by omega)] at hDv2
          obtain ⟨y, hy1, hy2, hy3, hy4, hy5⟩ := path_step hDv2
          rw [drop_at (by omega : i < ws.length), hy5] at hpt
          rw [← drop_at (by omega : i < ws.length), hcc] at hy1
          rw [hcc] at hy2
          obtain ⟨fx, hfx⟩ : ∃ fx, tryC (leastC p (ws.drop (i + 1))) (l.drop k) = fx := ⟨_, rfl⟩
          have hfxe : ∀ x, fx x = if (decide (k + x.pl.length ≤ m) && decide ((l.take (k + x.pl.length)).drop k = x.pl)) = true ∧ 0 ≤ D (i + 1) (k + x.pl.length) then x.cost + D (i + 1) (k + x.pl.length) else -1 := fun x => by rw [← hfx]; exact hTr i k x hk1
          rw [hfx, ← hD] at hy1
          have hF1 : ∀ k, k ≤ m → nth (F (i + 1)) k = D (i + 1) k := fun k hk => hFd (i + 1) (by omega) k hk
          have hF0 : nth (F i) k = D i k := hFd i hi1 k hk1
          have hl1 := hFl (i + 1) (by omega)
          have hl0 := hFl i hi1
          refine cw_c (C' := Cl w [] (ownL 23 so.v vs2 :: frz (RdR vs2 ll) :: ownL 3 (nth V i).v (F i) :: ownL 3 (nth V (i + 1)).v (F (i + 1)) :: ownL 116 s25.v V :: rowsO2 3 V F i (i + 1))) (fun w' hw => hw.perm (((perm_in2 (rowsF_out2 (by omega) (by omega) (by omega)).symm).cons _).cons _).symm) ?_
          refine cw_skip (post_then (cw_seq (cw_block (cw_seq (cw_region (sr rfl rfl rfl ((q_move rfl rfl)) (sr rfl rfl rfl ((q_move rfl rfl)) (sr rfl rfl rfl ((q_move rfl rfl)) ?_))))))))
          refine sr rfl rfl rfl ((q_indexN rfl rfl rfl (by exact fun w hw => Stb.cl (by assumption) hw) (by intro hc; omega))) ?_
          refine sr rfl rfl rfl ((q_loadEl rfl rfl rfl (by exact fun w hw => Stb.cl (by assumption) hw) (by intro hc; omega))) ?_
          refine sw_x rfl rfl rfl (e_call (CanCall.mk Tryz.call67) rfl (.cons rfl inferInstance (.cons rfl inferInstance (.nil))) (fun w1 hw => pieces_spec sp.v p (nth ws i).v hpn w1 (stb_arg hw hp))) (fun s176 => ?_)
          refine sw_imp fun _ => ?_
          rw [hcc]
          refine sr rfl rfl rfl ((q_assign rfl rfl)) (sw_nil (post_then (cw_seq (cw_region (sr rfl rfl rfl ((q_assign rfl rfl)) (sw_nil (post_then (cw_block ?_))))))))
          refine cw_loop (S := Nat) (fun X => [(0, [], sp.v), (1, [], sw.v), (2, [], sl.v), (8, [], s25.v), (16, [], so.v), (17, [], .int .i64 k), (18, [], .int .i64 i), (19, [], s176.v), (20, [], .int .i64 X)]) (fun _ => Cl w [] (ownL 68 s176.v (offers p cc) :: ownL 23 so.v vs2 :: frz (RdR vs2 ll) :: ownL 3 (nth V i).v (F i) :: ownL 3 (nth V (i + 1)).v (F (i + 1)) :: ownL 116 s25.v V :: rowsO2 3 V F i (i + 1))) (fun X => X ≤ (offers p cc).length ∧ ∀ X', X' < X → ¬ fx (nth (offers p cc) X') = D i k) (fun X => (offers p cc).length - X) 0 ⟨Nat.zero_le _, fun X' h => by omega⟩ (by exact .cons rfl (.cons rfl (.cons rfl (.cons rfl (.cons rfl (.cons rfl (.cons rfl (.cons rfl (.cons rfl .nil))))))))) (fun w' h => h) ?_
          rintro X ⟨hX, hno⟩
          refine cw_seq (cw_seq (cw_region (sr rfl rfl rfl ((q_move rfl rfl)) (sr rfl rfl rfl ((q_move rfl rfl)) ?_))))
          refine sr rfl rfl rfl ((q_len rfl (.cons rfl inferInstance (.nil)) (by exact fun w hw => rd_own hw (by exact .head _)))) ?_
          refine sr rfl rfl rfl ((q_lss rfl rfl rfl)) (sw_nil (post_then ?_))
          refine cw_cond rfl (fun h8 => ?_) (fun h8 => ?_)
          · skip
            have hX' : X < (offers p cc).length := by simp only [decide_eq_true_eq] at h8; omega
            have hxm : (nth (offers p cc) X) ∈ p := (offers_mem.1 (nth_mem hX')).1
            have hxs : Stb w [] (RdL (nth (offers p cc) X).p.v (nth (offers p cc) X).pl) := stb_mem hpi hxm
            have hxc := hcost (nth (offers p cc) X) hxm
            have hxl := hpl (nth (offers p cc) X) hxm
            have hfxx := hfxe (nth (offers p cc) X)
            have hxD := hDb (i + 1) (k + (nth (offers p cc) X).pl.length)
            refine cw_skip (post_then (cw_seq (cw_block (cw_seq ?_))))
            refine cw_region_q mixed_Tryz (by kernel_rfl) ?_
            refine qr rfl rfl rfl ((q_move rfl rfl)) (qr rfl rfl rfl ((q_move rfl rfl)) ?_)
            refine qr rfl rfl rfl ((q_sliceL rfl rfl rfl (by exact fun w hw => Stb.cl (by assumption) hw) (by intro hc; omega))) ?_
            refine qr rfl rfl rfl ((q_move rfl rfl)) (qr rfl rfl rfl ((q_move rfl rfl)) ?_)
            refine qr rfl rfl rfl ((q_indexN rfl rfl rfl (by exact fun w hw => rd_own hw (by exact .head _)) (by intro hc; omega))) ?_
            refine qr rfl rfl rfl ((q_fieldEl rfl rfl (by exact fun w hw => rd_own hw (by exact .head _)) (by intro hc; omega))) ?_
            refine qr rfl rfl rfl ((q_loadF rfl rfl rfl (by exact fun w hw => rd_own hw (by exact .head _)) (by intro hc; omega) rfl)) ?_
            rw [hme]
            refine qw_step rfl rfl rfl (q_call (CanCall.mk Tryz.call68) rfl (.cons rfl inferInstance (.cons rfl inferInstance (.nil))) (fun _ w1 hw => callq hw (hbg k (nth (offers p cc) X) w1 hk1 (stb_arg hw hl) (stb_arg hw hxs)))) (qw_end (post_then ?_))
            have e3 : ((k : Int) + ((nth (offers p cc) X).pl.length : Int)).toNat = k + (nth (offers p cc) X).pl.length := by omega
            refine cw_cond rfl (fun h9 => ?_) (fun h9 => ?_)
            · skip
              have h9' := h9
              simp only [Bool.and_eq_true, decide_eq_true_eq] at h9'
              have hFx := hF1 _ h9'.1
              refine cw_seq ?_
              refine cw_region_q mixed_Tryz (by kernel_rfl) ?_
              refine qr rfl rfl rfl ((q_move rfl rfl)) (qr rfl rfl rfl ((q_move rfl rfl)) ?_)
              refine qr rfl rfl rfl ((q_add rfl rfl rfl (by intro hc; omega))) ?_
              refine qr rfl rfl rfl ((q_indexN rfl rfl rfl (by exact fun w hw => rd_own hw (by exact .tail _ (.tail _ (.tail _ (.tail _ (.tail _ (.head _))))))) (by intro hc; (simp only [List.length_set, List.length_append, List.length_cons, List.length_nil, List.length_replicate, List.length_take, List.length_drop, List.length_map]; omega)))) ?_
              refine qr rfl rfl rfl ((q_loadEl rfl rfl rfl (by exact fun w hw => rd_own hw (by exact .tail _ (.tail _ (.tail _ (.tail _ (.tail _ (.head _))))))) (by intro hc; (simp only [List.length_set, List.length_append, List.length_cons, List.length_nil, List.length_replicate, List.length_take, List.length_drop, List.length_map]; omega)))) ?_
              refine qr rfl rfl rfl ((q_move rfl rfl)) (qr rfl rfl rfl ((q_move rfl rfl)) (qr rfl rfl rfl ((q_move rfl rfl)) ?_))
              refine qr rfl rfl rfl ((q_indexN rfl rfl rfl (by exact fun w hw => rd_own hw (by exact .head _)) (by intro hc; omega))) ?_
              refine qr rfl rfl rfl ((q_fieldEl rfl rfl (by exact fun w hw => rd_own hw (by exact .head _)) (by intro hc; omega))) ?_
              refine qr rfl rfl rfl ((q_loadF rfl rfl rfl (by exact fun w hw => rd_own hw (by exact .head _)) (by intro hc; omega) rfl)) ?_
              refine qr rfl rfl rfl ((q_len rfl (.cons rfl inferInstance (.nil)) (by exact fun w hw => Stb.cl (by assumption) hw))) ?_
              refine qr rfl rfl rfl ((q_add rfl rfl rfl (by intro hc; omega))) ?_
              refine qr rfl rfl rfl ((q_indexN rfl rfl rfl (by exact fun w hw => rd_own hw (by exact .tail _ (.tail _ (.tail _ (.tail _ (.head _)))))) (by intro hc; omega))) ?_
              refine qr rfl rfl rfl ((q_loadEl rfl rfl rfl (by exact fun w hw => rd_own hw (by exact .tail _ (.tail _ (.tail _ (.tail _ (.head _)))))) (by intro hc; omega))) ?_
              refine qr rfl rfl rfl ((q_assign rfl rfl)) (qw_end (post_then (cw_seq ?_)))
              refine cw_region_q mixed_Tryz (by kernel_rfl) ?_
              refine qr rfl rfl rfl ((q_move rfl rfl)) (qr rfl rfl rfl ((q_geq rfl rfl rfl)) (qr rfl rfl rfl ((q_move rfl rfl)) (qr rfl rfl rfl ((q_move rfl rfl)) (qr rfl rfl rfl ((q_move rfl rfl)) ?_))))
              refine qr rfl rfl rfl ((q_indexN rfl rfl rfl (by exact fun w hw => rd_own hw (by exact .head _)) (by intro hc; omega))) ?_
              refine qr rfl rfl rfl ((q_fieldEl rfl rfl (by exact fun w hw => rd_own hw (by exact .head _)) (by intro hc; omega))) ?_
              refine qr rfl rfl rfl ((q_loadF rfl rfl rfl (by exact fun w hw => rd_own hw (by exact .head _)) (by intro hc; omega) rfl)) ?_
              refine qr rfl rfl rfl ((q_move rfl rfl)) ?_
              refine qr rfl rfl rfl ((q_add rfl rfl rfl (by intro hc; omega))) ?_
              refine qr rfl rfl rfl ((q_move rfl rfl)) (qr rfl rfl rfl ((q_move rfl rfl)) ?_)
              refine qr rfl rfl rfl ((q_indexN rfl rfl rfl (by exact fun w hw => rd_own hw (by exact .tail _ (.tail _ (.tail _ (.tail _ (.tail _ (.head _))))))) (by intro hc; omega))) ?_
              refine qr rfl rfl rfl ((q_loadEl rfl rfl rfl (by exact fun w hw => rd_own hw (by exact .tail _ (.tail _ (.tail _ (.tail _ (.tail _ (.head _))))))) (by intro hc; omega))) ?_
              refine qr rfl rfl rfl ((q_move rfl rfl)) ?_
              refine qr rfl rfl rfl ((q_indexN rfl rfl rfl (by exact fun w hw => rd_own hw (by exact .tail _ (.tail _ (.tail _ (.head _))))) (by intro hc; omega))) ?_
              refine qr rfl rfl rfl ((q_loadEl rfl rfl rfl (by exact fun w hw => rd_own hw (by exact .tail _ (.tail _ (.tail _ (.head _))))) (by intro hc; omega))) ?_
              refine qr rfl rfl rfl ((q_eql rfl rfl rfl)) (qr rfl rfl rfl ((q_and2 rfl rfl rfl)) (qw_end (post_then ?_)))
              simp only [Int.toNat_natCast, e3, hFx, hF0]
              refine cw_cond rfl (fun h10 => ?_) (fun h10 => ?_)
              · skip
                have hch : fx (nth (offers p cc) X) = D i k := by
                  simp only [Bool.and_eq_true, decide_eq_true_eq] at h10
                  rw [hfxx, if_pos ⟨h9, h10.1⟩]; exact h10.2
                have hxy : nth (offers p cc) X = y := by
                  have e1 : (offers p cc).find? (fun x => decide (fx x = D i k)) = some (nth (offers p cc) X) := find_at hX' (fun z hz => by simpa using hno z hz) (by simpa using hch)
                  rw [e1] at hy1; exact Option.some.inj hy1
                rw [← hxy, List.drop_drop] at hy4
                rw [← hxy, List.drop_drop] at hpt
                refine cw_c (C' := Cl w [] (ownL 9 (SlV.v ⟨none, 0, 0⟩) ([] : List ByteArray) :: ownL 68 s176.v (offers p cc) :: ownL 23 so.v vs2 :: frz (RdR vs2 ll) :: ownL 3 (nth V i).v (F i) :: ownL 3 (nth V (i + 1)).v (F (i + 1)) :: ownL 116 s25.v V :: rowsO2 3 V F i (i + 1))) (fun w' h => h.addNil (α := ByteArray) 9) (cw_seq (cw_region (sr rfl rfl rfl ((q_move rfl rfl)) (sr rfl rfl rfl ((q_move rfl rfl)) (sr rfl rfl rfl ((q_move rfl rfl)) ?_)))))
                refine sr rfl rfl rfl ((q_indexN rfl rfl rfl (by exact fun w hw => rd_own hw (by exact .tail _ (.head _))) (by intro hc; omega))) ?_
                refine sr rfl rfl rfl ((q_fieldEl rfl rfl (by exact fun w hw => rd_own hw (by exact .tail _ (.head _))) (by intro hc; omega))) ?_
                refine sr rfl rfl rfl ((q_loadF rfl rfl rfl (by exact fun w hw => rd_own hw (by exact .tail _ (.head _))) (by intro hc; omega) rfl)) ?_
                refine sw_x rfl rfl rfl (e_append (α := ByteArray) (i := 0) rfl (.cons rfl inferInstance (.cons rfl inferInstance (.nil))) rfl rfl (by exact fun w hw => Stb.cl (by assumption) hw) (by simp only [List.length_nil]; omega) rfl) (fun s232 => ?_)
                refine sw_x rfl rfl rfl (e_build1 (α := SlV) rfl rfl rfl rfl) (fun s233 => ?_)
                refine sw_x rfl rfl rfl (e_append (i := 3) rfl (.cons rfl inferInstance (.cons rfl inferInstance (.nil))) rfl rfl (by exact fun w hw => rd_own hw (by exact .head _)) (by first | omega | (simp only [List.length_set, List.length_append, List.length_cons, List.length_nil, List.length_replicate, List.length_take, List.length_drop, List.length_map]; omega)) rfl) (fun s234 => ?_)
                refine sr rfl rfl rfl ((q_assign rfl rfl)) (sw_nil (post_then (cw_seq (cw_region (sr rfl rfl rfl ((q_move rfl rfl)) (sr rfl rfl rfl ((q_move rfl rfl)) (sr rfl rfl rfl ((q_move rfl rfl)) ?_)))))))
                refine sr rfl rfl rfl ((q_indexN rfl rfl rfl (by exact fun w hw => rd_own hw (by exact .tail _ (.tail _ (.head _)))) (by intro hc; omega))) ?_
                refine sr rfl rfl rfl ((q_fieldEl rfl rfl (by exact fun w hw => rd_own hw (by exact .tail _ (.tail _ (.head _)))) (by intro hc; omega))) ?_
                refine sr rfl rfl rfl ((q_loadF rfl rfl rfl (by exact fun w hw => rd_own hw (by exact .tail _ (.tail _ (.head _)))) (by intro hc; omega) rfl)) ?_
                refine sr rfl rfl rfl ((q_len rfl (.cons rfl inferInstance (.nil)) (by exact fun w hw => Stb.cl (by assumption) hw))) ?_
                refine sr rfl rfl rfl ((q_add rfl rfl rfl (by intro hc; omega))) ?_
                refine sr rfl rfl rfl ((q_assign rfl rfl)) (sw_nil (post_then (cw_exit (post_blk_ne rfl (post_then_x (post_then_x (post_blk_eq (post_blk (post_then (cw_region (sr rfl rfl rfl ((q_move rfl rfl)) ?_)))))))))))
                refine sr rfl rfl rfl ((q_add rfl rfl rfl (by intro hc; omega))) ?_
                refine sr rfl rfl rfl ((q_assign rfl rfl)) (sw_nil ?_)
                refine post_next ((i + 1, k + (nth (offers p cc) X).pl.length), (s234, vs2 ++ [s232], ll ++ [(nth (offers p cc) X).pl])) (by exact .cons rfl (.cons rfl (.cons rfl (.cons rfl (.cons rfl (.cons rfl (.cons rfl .nil))))))) (fun w' h => ?_) ⟨by simp only; omega, h9'.1, by simp; omega, by simp only; rw [hD]; exact hy4, by simp only; rw [hpt, List.append_assoc]; rfl⟩ (by simp only; omega)
                have hA : Cl w [] (ownL 9 s232.v (nth (offers p cc) X).pl :: ownL 68 s176.v (offers p cc) :: ownL 23 s234.v (vs2 ++ [s232]) :: frz (RdR vs2 ll) :: ownL 3 (nth V i).v (F i) :: ownL 3 (nth V (i + 1)).v (F (i + 1)) :: ownL 116 s25.v V :: rowsO2 3 V F i (i + 1)) w' := h.tail
                have h11 := (hA.perm (List.Perm.swap _ _ _)).tail.perm ((List.Perm.swap _ _ _).cons _)
                have h12 : Cl w [] (frz (RdR (vs2 ++ [s232]) (ll ++ [(nth (offers p cc) X).pl])) :: (ownL 23 s234.v (vs2 ++ [s232]) :: ownL 3 (nth V i).v (F i) :: ownL 3 (nth V (i + 1)).v (F (i + 1)) :: ownL 116 s25.v V :: rowsO2 3 V F i (i + 1))) w' := Cl.frz (H := [ownL 9 s232.v (nth (offers p cc) X).pl, frz (RdR vs2 ll)]) h11 fun w' bs ⟨b1, _, _, k1, b2, _, _, k2, _⟩ => rdR_snoc (frz_here k2) (ownL.rd k1)
                exact h12.perm ((List.Perm.swap _ _ _).trans (((perm_in2 (rowsF_out2 (by omega) (by omega) (by omega)).symm).cons _).cons _))
              · skip
                have hch : ¬ fx (nth (offers p cc) X) = D i k := by
                  simp only [Bool.and_eq_false_iff, decide_eq_false_iff_not] at h10
                  rw [hfxx]
                  by_cases a1 : 0 ≤ D (i + 1) (k + (nth (offers p cc) X).pl.length)
                  · rw [if_pos ⟨h9, a1⟩]
                    rcases h10 with h10 | h10
                    · exact absurd a1 h10
                    · exact h10
                  · rw [if_neg (fun h => a1 h.2)]; omega
                refine cw_skip (post_blk (post_then (cw_region (sr rfl rfl rfl ((q_move rfl rfl)) ?_))))
                refine sr rfl rfl rfl ((q_add rfl rfl rfl (by intro hc; omega))) ?_
                refine sr rfl rfl rfl ((q_assign rfl rfl)) (sw_nil ?_)
                exact post_next (X + 1) (by exact .cons rfl (.cons rfl (.cons rfl (.cons rfl (.cons rfl (.cons rfl (.cons rfl (.cons rfl (.cons rfl .nil))))))))) (fun w' h => h) ⟨by omega, fun z hz => by
                  rcases Nat.lt_or_ge z X with b1 | b1
                  · exact hno z b1
                  · have : z = X := by omega
                    subst this; exact hch⟩ (by omega)
            · skip
              have hch : ¬ fx (nth (offers p cc) X) = D i k := by
                rw [hfxx, if_neg (fun h => by rw [h.1] at h9; cases h9)]; omega
              refine cw_skip (post_blk (post_then (cw_region (sr rfl rfl rfl ((q_move rfl rfl)) ?_))))
              refine sr rfl rfl rfl ((q_add rfl rfl rfl (by intro hc; omega))) ?_
              refine sr rfl rfl rfl ((q_assign rfl rfl)) (sw_nil ?_)
              exact post_next (X + 1) (by exact .cons rfl (.cons rfl (.cons rfl (.cons rfl (.cons rfl (.cons rfl (.cons rfl (.cons rfl (.cons rfl .nil))))))))) (fun w' h => h) ⟨by omega, fun z hz => by
                rcases Nat.lt_or_ge z X with b1 | b1
                · exact hno z b1
                · have : z = X := by omega
                  subst this; exact hch⟩ (by omega)
          · skip
            exfalso
            have hX' : X = (offers p cc).length := by simp only [decide_eq_false_iff_not] at h8; omega
            have h6 := List.find?_some hy1
            obtain ⟨z, hz1, hz2⟩ := List.getElem_of_mem hy2
            refine hno z (by omega) ?_
            rw [nth_get hz1, hz2]
            simpa using h6
        · skip
          have hin : i = n := by simp only [decide_eq_false_iff_not] at h7; omega
          rw [hin, ← hne, List.drop_length] at hpt
          have hpt2 : pathC p ws l = ll := by rw [hpt]; simp [pathC]
          refine cw_c (C' := Cl w [] (ownL 23 so.v vs2 :: frz (RdR vs2 ll) :: ownL 3 (nth V 0).v (F 0) :: ownL 116 s25.v V :: rowsO 3 V F 0)) (fun w' hw => hw.perm (((perm_in1 (rowsF_out (by omega)).symm).cons _).cons _).symm) ?_
          refine cw_exit (post_then_x (post_then_x (post_blk_eq (post_then (cw_seq ?_)))))
          refine cw_region_q mixed_Tryz (by kernel_rfl) ?_
          refine qr rfl rfl rfl ((q_move rfl rfl)) (qr rfl rfl rfl ((q_move rfl rfl)) ?_)
          refine qr rfl rfl rfl ((q_indexN rfl rfl rfl (by exact fun w hw => rd_own hw (by exact .tail _ (.tail _ (.tail _ (.head _))))) (by intro hc; (simp only [List.length_set, List.length_append, List.length_cons, List.length_nil, List.length_replicate, List.length_take, List.length_drop, List.length_map]; omega)))) ?_
          refine qr rfl rfl rfl ((q_loadEl rfl rfl rfl (by exact fun w hw => rd_own hw (by exact .tail _ (.tail _ (.tail _ (.head _))))) (by intro hc; (simp only [List.length_set, List.length_append, List.length_cons, List.length_nil, List.length_replicate, List.length_take, List.length_drop, List.length_map]; omega)))) ?_
          refine qr rfl rfl rfl ((q_indexN rfl rfl rfl (by exact fun w hw => rd_own hw (by exact .tail _ (.tail _ (.head _)))) (by intro hc; (simp only [List.length_set, List.length_append, List.length_cons, List.length_nil, List.length_replicate, List.length_take, List.length_drop, List.length_map]; omega)))) ?_
          refine qr rfl rfl rfl ((q_loadEl rfl rfl rfl (by exact fun w hw => rd_own hw (by exact .tail _ (.tail _ (.head _)))) (by intro hc; (simp only [List.length_set, List.length_append, List.length_cons, List.length_nil, List.length_replicate, List.length_take, List.length_drop, List.length_map]; omega)))) ?_
          refine qr rfl rfl rfl ((q_assign rfl rfl)) (qr rfl rfl rfl ((q_assign rfl rfl)) (qw_end (post_then (cw_ret (post_ret2 rfl (resOk_tmp rfl) (resOk_tmp rfl) ?_)))))
          refine fun w' hw => ⟨so, ?_, trivial, ?_⟩
          · rw [← hD00, ← h00]; rfl
          · rw [hpt2]
            have h12 : Cl w [] (frz (RdRR so.v ll) :: (ownL 3 (nth V 0).v (F 0) :: ownL 116 s25.v V :: rowsO 3 V F 0)) w' := Cl.frz (H := [ownL 23 so.v vs2, frz (RdR vs2 ll)]) hw fun w' bs ⟨b1, _, _, k1, b2, _, _, k2, _⟩ => ⟨vs2, ownL.rd k1, frz_here k2⟩
            exact Cl.sel (.take 0 rfl (.nil _)) w' h12
end Go.Proofs.YtkmbliojafefdaaGreatDoor

set_option autoImplicit false
set_option maxRecDepth 100000
namespace Go.Proofs.YtkmbliojafefdaaGreatDoor
open Go.Sx
open Enc (enc val)
theorem rr_nil {sv : Value} {w : World} (h : RdRR sv ([] : List (List ByteArray)) w) : RdL sv ([] : List SlV) w := by
  obtain ⟨vs, h1, h2, _⟩ := h
  rw [List.eq_nil_of_length_eq_zero h2] at h1; exact h1
theorem samePcs_spec (sa sb : Value) (a b : List (List ByteArray)) (w : World) (ha : Stb w [] (RdRR sa a)) (hb : Stb w [] (RdRR sb b)) : Calls Tryz.prog 25 #[sa, sb] w fun e w' => e = .returned (.bool (decide (a = b))) ∧ Cl w [] [] w' := by
  obtain ⟨va, h1, h2⟩ := ha.here
  obtain ⟨vb, h3, h4⟩ := hb.here
  exact samePieces_spec sa sb va vb a b w (rd_stb h1) (rd_stb h3) (rdR_stb h2) (rdR_stb h4)
theorem prsE_val {p : List Pr} : prsE p = if 1000 < p.length then 4 else if prsOk p = true then 0 else 2 := rfl
theorem aligns_spec (sp sl : SlV) (p : List Pr) (s : ByteArray) (l : List ByteArray) (hsz : s.size ≤ 9223372036854775807) (w : World) (hT : Stb w [] Tab) (hp : Stb w [] (RdL sp.v p)) (hpi : Stb w [] fun w' => ∀ u ∈ p, PrIn u w') (hl : Stb w [] (RdL sl.v l)) :
    Calls Tryz.prog 3 #[sp.v, .string s, sl.v] w fun e w' => e = .returned (.bool true) ∧ Cl w [] [] w' := by
  have hLp := rd_len hp.here
  have hLl := rd_len hl.here
  refine calls_cw (vs := [_, _, _]) Tryz.func3 rfl Tryz.ntmps3 rfl (Cl.start0 w) (cw_seq (cw_region (sr rfl rfl rfl ((q_assign rfl rfl)) (sw_nil (post_then (cw_seq (cw_seq (cw_region (sr rfl rfl rfl ((q_move rfl rfl)) (sw_step rfl rfl rfl (q_call (CanCall.mk Tryz.call17) rfl (.cons rfl inferInstance (.nil)) (fun _ w hw => callq hw (lawPairs_spec _ p w (stb_arg hw hp) (stb_arg hw hpi)))) (sr rfl rfl rfl ((q_not rfl rfl)) (sr rfl rfl rfl ((q_move rfl rfl)) (sr rfl rfl rfl ((q_move rfl rfl)) (sr rfl rfl rfl ((q_lenS rfl (.cons rfl inferInstance (.nil)) Tryz.underlying9)) (sr rfl rfl rfl ((q_gtr rfl rfl rfl)) (sr rfl rfl rfl ((q_or2 rfl rfl rfl)) (sr rfl rfl rfl ((q_move rfl rfl)) (sr rfl rfl rfl ((q_move rfl rfl)) ?_))))))))))))))))))
  refine sw_step rfl rfl rfl (q_call (CanCall.mk Tryz.call18) rfl (.cons rfl inferInstance (.cons rfl inferInstance (.nil))) (fun _ w hw => callq hw (lawPhones_spec _ _ _ (by omega) w (by exact stb_arg hw (by assumption))))) ?_
  refine sr rfl rfl rfl ((q_not rfl rfl)) (sr rfl rfl rfl ((q_or2 rfl rfl rfl)) (sw_nil (post_then ?_)))
  refine cw_cond rfl (fun h => ?_) (fun h => ?_)
  · skip
    refine cw_seq (cw_region ?_)
    refine sw_step rfl rfl rfl (q_call (CanCall.mk Tryz.call19) rfl (.nil) (fun _ w hw => callq hw (known_spec w (stb_arg hw (by assumption))))) ?_
    refine sr rfl rfl rfl ((q_assign rfl rfl)) (sw_nil (post_then (cw_ret (post_then_r (post_ret1 rfl (resOk_tmp rfl) ?_)))))
    exact fun w' hw => ⟨rfl, (fun w h => Cl.sel (by exact .nil _) w h) _ hw⟩
  · skip
    have h1 : lawPrs p = true ∧ s.size ≤ 60 ∧ lawPh l 130 = true := by
      simp at h; exact ⟨h.1.1, by omega, h.2⟩
    obtain ⟨c1, c2, c3⟩ := h1
    have z1 := lawPrs_z c1
    have z2 : ∀ b ∈ l, b.size ≤ 9223372036854775807 := fun b hb => by
      unfold lawPh at c3
      simp only [Bool.and_eq_true, List.all_eq_true, decide_eq_true_eq] at c3
      have := c3.2 b hb; omega
    refine cw_skip (post_then (cw_seq (cw_region (sr rfl rfl rfl ((q_move rfl rfl)) (sr rfl rfl rfl ((q_move rfl rfl)) (sr rfl rfl rfl ((q_move rfl rfl)) ?_))))))
    refine sw_x rfl rfl rfl (e_call (CanCall.mk Tryz.call20) rfl (.cons rfl inferInstance (.cons rfl inferInstance (.cons rfl inferInstance (.nil)))) (fun w1 hw => align_spec sp sl p s l (by omega) w1 (stb_arg hw hT) (stb_arg hw hp) (stb_arg hw hpi) (stb_arg hw hl))) (fun s32 => ?_)
    refine sw_imp fun _ => (sr rfl rfl rfl ((q_move rfl rfl)) (sr rfl rfl rfl ((q_extract rfl rfl rfl)) (sr rfl rfl rfl ((q_extract rfl rfl rfl)) (sr rfl rfl rfl ((q_extract rfl rfl rfl)) (sr rfl rfl rfl ((q_assign rfl rfl)) (sr rfl rfl rfl ((q_assign rfl rfl)) (sr rfl rfl rfl ((q_assign rfl rfl)) (sw_nil (post_then (cw_seq (cw_seq (cw_region (sr rfl rfl rfl ((q_move rfl rfl)) ?_)))))))))))))
    refine sr rfl rfl rfl ((q_len rfl (.cons rfl inferInstance (.nil)) (by exact fun w hw => Stb.cl (by assumption) hw))) ?_
    refine sr rfl rfl rfl ((q_gtr rfl rfl rfl)) (sw_nil (post_then ?_))
    refine cw_cond rfl (fun h2 => ?_) (fun h2 => ?_)
    · skip
      have e0 : prsE p = 4 := by rw [prsE_val, if_pos (by simp at h2; omega)]
      have e1 : alignE p s l = 4 := by unfold alignE; rw [if_neg (by rw [e0]; decide), e0]
      have e2 : alignN p s l = 0 := by unfold alignN; rw [if_neg (by rw [e1]; decide)]
      have e3 : alignP p s l = [] := by unfold alignP; rw [if_neg (by rw [e1]; decide)]
      rw [e1, e2, e3]
      refine cw_seq (cw_region (sr rfl rfl rfl ((q_move rfl rfl)) (sr rfl rfl rfl ((q_eql rfl rfl rfl)) (sr rfl rfl rfl ((q_move rfl rfl)) (sr rfl rfl rfl ((q_move rfl rfl)) ?_)))))
      refine sr rfl rfl rfl ((q_len (xs := ([] : List SlV)) rfl (.cons rfl inferInstance (.nil)) (fun w1 h1 => rr_nil (rd_frz h1 (by exact .head _))))) ?_
      refine sr rfl rfl rfl ((q_eql rfl rfl rfl)) (sr rfl rfl rfl ((q_and2 rfl rfl rfl)) (sr rfl rfl rfl ((q_move rfl rfl)) (sr rfl rfl rfl ((q_move rfl rfl)) (sr rfl rfl rfl ((q_eql rfl rfl rfl)) (sr rfl rfl rfl ((q_and2 rfl rfl rfl)) (sr rfl rfl rfl ((q_move rfl rfl)) ?_))))))
      refine sw_step rfl rfl rfl (q_call (CanCall.mk Tryz.call19) rfl (.nil) (fun _ w hw => callq hw (known_spec w (stb_arg hw (by assumption))))) ?_
      refine sr rfl rfl rfl ((q_and2 rfl rfl rfl)) (sr rfl rfl rfl ((q_assign rfl rfl)) (sw_nil (post_then (cw_ret (post_then_r (post_ret1 rfl (resOk_tmp rfl) ?_))))))
      exact fun w' hw => ⟨rfl, (fun w h => Cl.sel (by exact .nil _) w h) _ hw⟩
    · skip
      have hp1 : p.length ≤ 1000 := by simp at h2; omega
      have e0 : prsE p = if prsOk p = true then 0 else 2 := by rw [prsE_val, if_neg (by omega)]
      refine cw_skip (post_then (cw_seq (cw_region (sr rfl rfl rfl ((q_move rfl rfl)) ?_))))
      refine sw_x rfl rfl rfl (e_call (CanCall.mk Tryz.call21) rfl (.cons rfl inferInstance (.nil)) (fun w1 hw => refLetters_spec s w1 (by omega) (stb_arg hw hT))) (fun s55 => ?_)
      refine sw_imp fun _ => (sr rfl rfl rfl ((q_move rfl rfl)) (sr rfl rfl rfl ((q_extract rfl rfl rfl)) (sr rfl rfl rfl ((q_extract rfl rfl rfl)) (sr rfl rfl rfl ((q_assign rfl rfl)) (sr rfl rfl rfl ((q_assign rfl rfl)) (sw_nil (post_then (cw_seq (cw_seq (cw_region (sr rfl rfl rfl ((q_move rfl rfl)) ?_)))))))))))
      refine sw_step rfl rfl rfl (q_call (CanCall.mk Tryz.call22) rfl (.cons rfl inferInstance (.nil)) (fun _ w hw => callq hw (refPairs_spec _ p (fun u hu b hb => by have := (z1 u hu).2 b hb; omega) w (stb_arg hw hp) (stb_arg hw hpi)))) ?_
      refine sr rfl rfl rfl ((q_not rfl rfl)) (sr rfl rfl rfl ((q_move rfl rfl)) (sr rfl rfl rfl ((q_move rfl rfl)) (sr rfl rfl rfl ((q_not rfl rfl)) (sr rfl rfl rfl ((q_or2 rfl rfl rfl)) (sr rfl rfl rfl ((q_move rfl rfl)) (sr rfl rfl rfl ((q_move rfl rfl)) ?_))))))
      refine sw_step rfl rfl rfl (q_call (CanCall.mk Tryz.call23) rfl (.cons rfl inferInstance (.cons rfl inferInstance (.nil))) (fun _ w hw => callq hw (refPhones_spec _ _ _ w (by exact stb_arg hw (by assumption)) (by assumption)))) ?_
      refine sr rfl rfl rfl ((q_not rfl rfl)) (sr rfl rfl rfl ((q_or2 rfl rfl rfl)) (sw_nil (post_then ?_)))
      have hE : alignE p s l = if !(prsOk p) || !(wordOk s) || !(phonesOk l 120) then 2 else if alOk p s l then 0 else 5 := by
        unfold alignE
        rw [e0]
        cases prsOk p <;> cases wordOk s <;> cases phonesOk l 120 <;> rfl
      refine cw_cond rfl (fun h3 => ?_) (fun h3 => ?_)
      · skip
        have e1 : alignE p s l = 2 := by rw [hE, if_pos h3]
        have e2 : alignN p s l = 0 := by unfold alignN; rw [if_neg (by rw [e1]; decide)]
        have e3 : alignP p s l = [] := by unfold alignP; rw [if_neg (by rw [e1]; decide)]
        rw [e1, e2, e3]
        refine cw_seq (cw_region (sr rfl rfl rfl ((q_move rfl rfl)) (sr rfl rfl rfl ((q_eql rfl rfl rfl)) (sr rfl rfl rfl ((q_move rfl rfl)) (sr rfl rfl rfl ((q_move rfl rfl)) ?_)))))
        refine sr rfl rfl rfl ((q_len (xs := ([] : List SlV)) rfl (.cons rfl inferInstance (.nil)) (fun w1 h1 => rr_nil (rd_frz h1 (by exact .tail _ (.head _)))))) ?_
        refine sr rfl rfl rfl ((q_eql rfl rfl rfl)) (sr rfl rfl rfl ((q_and2 rfl rfl rfl)) (sr rfl rfl rfl ((q_move rfl rfl)) (sr rfl rfl rfl ((q_move rfl rfl)) (sr rfl rfl rfl ((q_eql rfl rfl rfl)) (sr rfl rfl rfl ((q_and2 rfl rfl rfl)) (sr rfl rfl rfl ((q_move rfl rfl)) ?_))))))
        refine sw_step rfl rfl rfl (q_call (CanCall.mk Tryz.call19) rfl (.nil) (fun _ w hw => callq hw (known_spec w (stb_arg hw (by assumption))))) ?_
        refine sr rfl rfl rfl ((q_and2 rfl rfl rfl)) (sr rfl rfl rfl ((q_assign rfl rfl)) (sw_nil (post_then (cw_ret (post_then_r (post_ret1 rfl (resOk_tmp rfl) ?_))))))
        exact fun w' hw => ⟨rfl, (fun w h => Cl.sel (by exact .nil _) w h) _ hw⟩
      · skip
        rw [if_neg (by rw [h3]; decide)] at hE
        have h4 : prsOk p = true ∧ wordOk s = true ∧ phonesOk l 120 = true := by simpa [and_assoc] using h3
        obtain ⟨k1, k2, k3⟩ := h4
        obtain ⟨y1, y2, y3, y4, y5⟩ := prsE_zero (p := p) (by rw [e0, if_pos k1])
        have hrl : (runes s).length ≤ 40 := by have := k2; simp [wordOk] at this; omega
        have hll : l.length ≤ 120 := by have := k3; simp [phonesOk] at this; omega
        rw [lettersR_ok k2]
        refine cw_skip (post_then (cw_seq (cw_region (sr rfl rfl rfl ((q_move rfl rfl)) (sr rfl rfl rfl ((q_move rfl rfl)) (sr rfl rfl rfl ((q_move rfl rfl)) ?_))))))
        refine sw_x rfl rfl rfl (e_call (CanCall.mk Tryz.call24) rfl (.cons rfl inferInstance (.cons rfl inferInstance (.cons rfl inferInstance (.nil)))) (fun w1 hw => refAlign_spec sp _ sl p (runes s) l (by omega) (by omega) (by omega) y2 (fun x hx => by have := y3 x hx; omega) w1 (stb_arg hw hp) (stb_arg hw hpi) (stb_own hw (by exact .head _)) (stb_arg hw hl))) (fun s88 => ?_)
        refine sw_imp fun _ => (sr rfl rfl rfl ((q_move rfl rfl)) (sr rfl rfl rfl ((q_extract rfl rfl rfl)) (sr rfl rfl rfl ((q_extract rfl rfl rfl)) (sr rfl rfl rfl ((q_assign rfl rfl)) (sr rfl rfl rfl ((q_assign rfl rfl)) (sw_nil (post_then (cw_seq (cw_seq (cw_region (sr rfl rfl rfl ((q_move rfl rfl)) (sr rfl rfl rfl ((q_lss rfl rfl rfl)) (sw_nil (post_then ?_))))))))))))))
        refine cw_cond rfl (fun h5 => ?_) (fun h5 => ?_)
        · skip
          have h6 : alOk p s l = false := by unfold alOk; rw [decide_eq_false_iff_not]; simp at h5; omega
          have e1 : alignE p s l = 5 := by rw [hE, h6]; rfl
          have e2 : alignN p s l = 0 := by unfold alignN; rw [if_neg (by rw [e1]; decide)]
          have e3 : alignP p s l = [] := by unfold alignP; rw [if_neg (by rw [e1]; decide)]
          rw [e1, e2, e3]
          refine cw_seq (cw_region (sr rfl rfl rfl ((q_move rfl rfl)) (sr rfl rfl rfl ((q_eql rfl rfl rfl)) (sr rfl rfl rfl ((q_move rfl rfl)) (sr rfl rfl rfl ((q_move rfl rfl)) ?_)))))
          refine sr rfl rfl rfl ((q_len (xs := ([] : List SlV)) rfl (.cons rfl inferInstance (.nil)) (fun w1 h1 => rr_nil (rd_frz h1 (by exact .tail _ (.tail _ (.head _))))))) ?_
          refine sr rfl rfl rfl ((q_eql rfl rfl rfl)) (sr rfl rfl rfl ((q_and2 rfl rfl rfl)) (sr rfl rfl rfl ((q_move rfl rfl)) (sr rfl rfl rfl ((q_move rfl rfl)) (sr rfl rfl rfl ((q_eql rfl rfl rfl)) (sr rfl rfl rfl ((q_and2 rfl rfl rfl)) (sr rfl rfl rfl ((q_move rfl rfl)) ?_))))))
          refine sw_step rfl rfl rfl (q_call (CanCall.mk Tryz.call19) rfl (.nil) (fun _ w hw => callq hw (known_spec w (stb_arg hw (by assumption))))) ?_
          refine sr rfl rfl rfl ((q_and2 rfl rfl rfl)) (sr rfl rfl rfl ((q_assign rfl rfl)) (sw_nil (post_then (cw_ret (post_then_r (post_ret1 rfl (resOk_tmp rfl) ?_))))))
          exact fun w' hw => ⟨rfl, (fun w h => Cl.sel (by exact .nil _) w h) _ hw⟩
        · skip
          have h7 : 0 ≤ leastC p (runes s) l := by simp at h5; omega
          have h6 : alOk p s l = true := by unfold alOk; rw [decide_eq_true_eq]; exact h7
          have e1 : alignE p s l = 0 := by rw [hE, h6]; rfl
          have e2 : alignN p s l = leastC p (runes s) l := by unfold alignN alN; rw [if_pos e1, if_pos h6]
          have e3 : alignP p s l = pathC p (runes s) l := by unfold alignP alP; rw [if_pos e1, if_pos h6]
          rw [e1, e2, e3, if_pos h7]
          refine cw_skip (post_then (cw_seq (cw_region (sr rfl rfl rfl ((q_move rfl rfl)) (sr rfl rfl rfl ((q_eql rfl rfl rfl)) (sr rfl rfl rfl ((q_move rfl rfl)) (sr rfl rfl rfl ((q_move rfl rfl)) (sr rfl rfl rfl ((q_move rfl rfl)) (sr rfl rfl rfl ((q_eql rfl rfl rfl)) (sr rfl rfl rfl ((q_and2 rfl rfl rfl)) (sr rfl rfl rfl ((q_move rfl rfl)) (sr rfl rfl rfl ((q_move rfl rfl)) (sr rfl rfl rfl ((q_move rfl rfl)) ?_)))))))))))))
          refine sw_step rfl rfl rfl (q_call (CanCall.mk Tryz.call25) rfl (.cons rfl inferInstance (.cons rfl inferInstance (.nil))) (fun _ w1 hw => callq hw (samePcs_spec s32.v s88.v (pathC p (runes s) l) (pathC p (runes s) l) w1 (stb_frz hw (by exact .tail _ (.tail _ (.head _)))) (stb_frz hw (by exact .head _))))) ?_
          refine sr rfl rfl rfl ((q_and2 rfl rfl rfl)) (sr rfl rfl rfl ((q_move rfl rfl)) ?_)
          refine sw_step rfl rfl rfl (q_call (CanCall.mk Tryz.call19) rfl (.nil) (fun _ w hw => callq hw (known_spec w (stb_arg hw (by assumption))))) ?_
          refine sr rfl rfl rfl ((q_and2 rfl rfl rfl)) (sr rfl rfl rfl ((q_assign rfl rfl)) (sw_nil (post_then (cw_ret (post_ret1 rfl (resOk_tmp rfl) ?_)))))
          exact fun w' hw => ⟨by simp, (fun w h => Cl.sel (by exact .nil _) w h) _ hw⟩
end Go.Proofs.YtkmbliojafefdaaGreatDoor

set_option autoImplicit false
set_option maxRecDepth 100000
namespace Go.Proofs.YtkmbliojafefdaaGreatDoor
open Go.Sx
section
variable {β : Type} (f : Pr → Int) (g : Pr → β)
def stS (s : β × Int) (x : Pr) : β × Int := if 0 ≤ f x ∧ (s.2 < 0 ∨ f x < s.2) then (g x, f x) else s
structure StI (b0 : β) (ys : List Pr) (s : β × Int) : Prop where
  v : s.2 = ys.foldl (stepC f) (-1)
  lo : -1 ≤ s.2
  le : ∀ y ∈ ys, 0 ≤ f y → 0 ≤ s.2 ∧ s.2 ≤ f y
  no : s.2 < 0 → s.1 = b0
  yes : 0 ≤ s.2 → ∃ x, ys.find? (fun x => decide (f x = s.2)) = some x ∧ s.1 = g x
variable {f g}
theorem stS_step {b0 : β} {ys : List Pr} {s : β × Int} {x : Pr} (h : StI f g b0 ys s) : StI f g b0 (ys ++ [x]) (stS f g s x) := by
  have hv : (ys ++ [x]).foldl (stepC f) (-1) = stepC f s.2 x := by rw [List.foldl_append, ← h.v]; rfl
  unfold stS
  split
  · rename_i h1
    refine ⟨by rw [hv]; unfold stepC; rw [if_pos h1], by simp only; omega, fun y hy h2 => ?_, fun h2 => by simp only at h2; omega, fun _ => ⟨x, ?_, rfl⟩⟩
    · simp only
      rw [List.mem_append, List.mem_singleton] at hy
      rcases hy with hy | rfl
      · have := h.le y hy h2
        omega
      · omega
    · simp only
      rw [List.find?_append]
      have : ys.find? (fun y => decide (f y = f x)) = none := by
        rw [List.find?_eq_none]
        intro y hy h2
        simp only [decide_eq_true_eq] at h2
        have := h.le y hy (by omega)
        omega
      rw [this]
      simp
  · rename_i h1
    refine ⟨by rw [hv]; unfold stepC; rw [if_neg h1], h.lo, fun y hy h2 => ?_, h.no, fun h2 => ?_⟩
    · rw [List.mem_append, List.mem_singleton] at hy
      rcases hy with hy | rfl
      · exact h.le y hy h2
      · by_cases h3 : s.2 < 0
        · exact absurd ⟨h2, .inl h3⟩ h1
        · by_cases h4 : f y < s.2
          · exact absurd ⟨h2, .inr h4⟩ h1
          · omega
    · obtain ⟨z, h3, h4⟩ := h.yes h2
      exact ⟨z, by rw [List.find?_append, h3]; rfl, h4⟩
theorem stS_fold {b0 : β} : ∀ (xs ys : List Pr) (s : β × Int), StI f g b0 ys s → StI f g b0 (ys ++ xs) (xs.foldl (stS f g) s)
  | [], ys, s, h => by simpa using h
  | x :: xs, ys, s, h => by
    have := stS_fold xs (ys ++ [x]) _ (stS_step h)
    rwa [List.append_assoc] at this
end
/-- The pairs that the first choice of the least cost takes, and what it costs. -/
def tryF (p : List Pr) : List Rn → List ByteArray → List Pr × Int
  | [], l => ([], if l = [] then 0 else -1)
  | c :: ws, l => (offers p c.v).foldl (stS (tryC (fun l => (tryF p ws l).2) l) (fun x => x :: (tryF p ws (l.drop x.pl.length)).1)) ([], -1)
theorem tryF_eq (p : List Pr) : ∀ (ws : List Rn) (l : List ByteArray), (tryF p ws l).2 = leastC p ws l ∧ (tryF p ws l).1.map (·.pl) = (if 0 ≤ leastC p ws l then pathC p ws l else []) ∧ (tryF p ws l).1.length ≤ ws.length ∧ ∀ x ∈ (tryF p ws l).1, x ∈ p
  | [], l => by
    unfold tryF leastC pathC
    refine ⟨rfl, ?_, Nat.le_refl _, fun x hx => by cases hx⟩
    split <;> rfl
  | c :: ws, l => by
    have ih := tryF_eq p ws
    have e2 : (fun l => (tryF p ws l).2) = leastC p ws := funext fun l => (ih l).1
    have h := stS_fold (f := tryC (leastC p ws) l) (g := fun x => x :: (tryF p ws (l.drop x.pl.length)).1) (b0 := []) (offers p c.v) [] ([], -1) ⟨rfl, Int.le_refl _, fun y hy => (by cases hy), fun _ => rfl, fun h => (by simp at h)⟩
    rw [List.nil_append] at h
    have e3 : tryF p (c :: ws) l = (offers p c.v).foldl (stS (tryC (leastC p ws) l) (fun x => x :: (tryF p ws (l.drop x.pl.length)).1)) ([], -1) := by rw [tryF, e2]
    rw [e3]
    have hv : _ = leastC p (c :: ws) l := h.v
    refine ⟨hv, ?_⟩
    by_cases h0 : 0 ≤ leastC p (c :: ws) l
    · rw [if_pos h0]
      obtain ⟨x, h1, h2⟩ := h.yes (by rw [hv]; exact h0)
      obtain ⟨y, g1, g2, g3, g4, g5⟩ := path_step h0
      rw [hv, g1] at h1
      cases h1
      obtain ⟨i1, i2, i3, i4⟩ := ih (l.drop x.pl.length)
      rw [h2, g5, List.map_cons, i2, if_pos g4]
      refine ⟨rfl, by simp; omega, fun z hz => ?_⟩
      rcases List.mem_cons.1 hz with rfl | hz
      · exact (offers_mem.1 g2).1
      · exact i4 z hz
    · rw [if_neg h0, h.no (by rw [hv]; omega)]
      exact ⟨rfl, Nat.zero_le _, fun x hx => by cases hx⟩
/-- The first k of the pairs. -/
theorem stS_snoc {β : Type} (f : Pr → Int) (g : Pr → β) (p : List Pr) (x : Pr) (c : Int) (s0 : β × Int) : (offers (p ++ [x]) c).foldl (stS f g) s0 = if x.c = c then stS f g ((offers p c).foldl (stS f g) s0) x else (offers p c).foldl (stS f g) s0 := by
  unfold offers
  rw [List.filter_append, List.foldl_append]
  by_cases h : x.c = c
  · rw [if_pos h]; simp [h]
  · rw [if_neg h]; simp [h]
end Go.Proofs.YtkmbliojafefdaaGreatDoor

set_option autoImplicit false
set_option maxRecDepth 100000
namespace Go.Proofs.YtkmbliojafefdaaGreatDoor
open Go.Sx
open Enc (enc val)
set_option maxHeartbeats 1000000 in
theorem allTries_spec (sp : SlV) (p : List Pr) (hpn : p.length ≤ 1000) (hcost : CostOk p) (hpl : ∀ x ∈ p, x.pl.length ≤ 1000) : ∀ (ws : List Rn) (sw sl : SlV) (l : List ByteArray) (w : World), ws.length ≤ 80 → l.length ≤ 800 → Stb w [] (RdL sp.v p) → (Stb w [] fun w' => ∀ u ∈ p, PrIn u w') → Stb w [] (RdL sw.v ws) → Stb w [] (RdL sl.v l) →
    Calls Tryz.prog 26 #[sp.v, sw.v, sl.v] w fun e w' => ∃ r : SlV, e = .returned (.tuple #[r.v, .int .i64 (tryF p ws l).2]) ∧ True ∧ Cl w [] [ownL 23 r.v ((tryF p ws l).1.map (·.p))] w' := by
  intro ws
  induction ws with
  | nil =>
    intro sw sl l w hn hm hp hpi hw0 hl
    have hLl := rd_len hl.here
    have hLw := rd_len hw0.here
    refine calls_cw (vs := [_, _, _]) Tryz.func26 rfl Tryz.ntmps26 rfl (Cl.start0 w) (cw_seq (cw_region (sr rfl rfl rfl ((q_assign rfl rfl)) (sr rfl rfl rfl ((q_assign rfl rfl)) (sw_nil (post_then (cw_seq (cw_seq (cw_region (sr rfl rfl rfl ((q_move rfl rfl)) ?_))))))))))
    refine sr rfl rfl rfl ((q_len rfl (.cons rfl inferInstance (.nil)) (by exact fun w hw => Stb.cl (by assumption) hw))) ?_
    refine sr rfl rfl rfl ((q_eql rfl rfl rfl)) (sw_nil (post_then ?_))
    refine cw_cond rfl (fun h => ?_) (fun h => ?_)
    · skip
      refine cw_seq (cw_seq (cw_region (sr rfl rfl rfl ((q_move rfl rfl)) ?_)))
      refine sr rfl rfl rfl ((q_len rfl (.cons rfl inferInstance (.nil)) (by exact fun w hw => Stb.cl (by assumption) hw))) ?_
      refine sr rfl rfl rfl ((q_gtr rfl rfl rfl)) (sw_nil (post_then ?_))
      refine cw_cond rfl (fun h2 => ?_) (fun h2 => ?_)
      · skip
        have e1 : tryF p [] l = ([], -1) := by
          rw [tryF, if_neg]
          intro e
          rw [e] at h2; simp at h2
        refine cw_seq (cw_region (sr rfl rfl rfl ((q_assign rfl rfl)) (sr rfl rfl rfl ((q_assign rfl rfl)) (sw_nil (post_then (cw_ret (post_then_r (post_then_r (post_ret2 rfl (resOk_tmp rfl) (resOk_tmp rfl) ?_)))))))))
        exact fun w' hw => ⟨⟨none, 0, 0⟩, by rw [e1]; rfl, trivial, by rw [e1]; exact Cl.addNil 23 hw⟩
      · skip
        have e1 : tryF p [] l = ([], 0) := by
          rw [tryF, if_pos]
          cases l with
          | nil => rfl
          | cons a b => first | (simp at h2; done) | (simp at h2; omega)
        refine cw_skip (post_then (cw_seq (cw_region (sr rfl rfl rfl ((q_assign rfl rfl)) (sr rfl rfl rfl ((q_assign rfl rfl)) (sw_nil (post_then (cw_ret (post_then_r (post_ret2 rfl (resOk_tmp rfl) (resOk_tmp rfl) ?_))))))))))
        exact fun w' hw => ⟨⟨none, 0, 0⟩, by rw [e1]; rfl, trivial, by rw [e1]; exact Cl.addNil 23 hw⟩
    · skip
      exfalso
      simp at h
  | cons c ws ih =>
    intro sw sl l w hn hm hp hpi hw0 hl
    have hLp := rd_len hp.here
    have hLl := rd_len hl.here
    have hLw := rd_len hw0.here
    have hwl : (c :: ws).length = ws.length + 1 := rfl
    have hw00 : nth (c :: ws) 0 = c := rfl
    have hws : Stb w [] (RdL (sw.sub 1 1 (c :: ws).length).v ws) := by
      have := stb_sub hw0 (a := 1) (b := (c :: ws).length) (by simp) (Nat.le_refl _)
      rwa [List.take_length, List.drop_succ_cons, List.drop_zero] at this
    obtain ⟨fx, hfx⟩ : ∃ fx, tryC (fun l => (tryF p ws l).2) l = fx := ⟨_, rfl⟩
    obtain ⟨gx, hgx⟩ : ∃ gx : Pr → List Pr, (fun x : Pr => x :: (tryF p ws (l.drop x.pl.length)).1) = gx := ⟨_, rfl⟩
    have hT : tryF p (c :: ws) l = (offers p c.v).foldl (stS fx gx) ([], -1) := by rw [← hfx, ← hgx]; rfl
    obtain ⟨st, hst⟩ : ∃ st : Nat → List Pr × Int, ∀ k, st k = (offers (p.take k) c.v).foldl (stS fx gx) ([], -1) := ⟨_, fun _ => rfl⟩
    have hss : ∀ k, k < p.length → st (k + 1) = if (nth p k).c = c.v then stS fx gx (st k) (nth p k) else st k := fun k hk => by
      rw [hst, hst, List.take_succ_eq_append_getElem hk, ← nth_get hk, stS_snoc]
    have h2 : ∀ l', -1 ≤ (tryF p ws l').2 ∧ (tryF p ws l').2 ≤ 80000 := fun l' => by
      rw [(tryF_eq p ws l').1]
      have := least_bd hcost ws l'
      omega
    have hfe : ∀ x, fx x = if pre x.pl l = true ∧ 0 ≤ (tryF p ws (l.drop x.pl.length)).2 then x.cost + (tryF p ws (l.drop x.pl.length)).2 else -1 := fun x => by rw [← hfx]; rfl
    have hsb : ∀ k, k ≤ p.length → -1 ≤ (st k).2 ∧ (st k).2 ≤ 81000 ∧ (st k).1.length ≤ 81 := fun k => by
      induction k with
      | zero => intro _; rw [hst]; simp [offers]
      | succ k ih2 =>
        intro hk
        have h3 := ih2 (by omega)
        rw [hss k (by omega)]
        split
        · unfold stS
          split
          · have h4 := hcost _ (nth_mem (by omega : k < p.length))
            have h5 := h2 (l.drop (nth p k).pl.length)
            have h6 := (tryF_eq p ws (l.drop (nth p k).pl.length)).2.2.1
            refine ⟨?_, ?_, ?_⟩
            · simp only; omega
            · simp only; rw [hfe]; split <;> omega
            · simp only; rw [← hgx]; simp only [List.length_cons]; omega
          · exact h3
        · exact h3
    refine calls_cw (vs := [_, _, _]) Tryz.func26 rfl Tryz.ntmps26 rfl (Cl.start0 w) (cw_seq (cw_region (sr rfl rfl rfl ((q_assign rfl rfl)) (sr rfl rfl rfl ((q_assign rfl rfl)) (sw_nil (post_then (cw_seq (cw_seq (cw_region (sr rfl rfl rfl ((q_move rfl rfl)) ?_))))))))))
    refine sr rfl rfl rfl ((q_len rfl (.cons rfl inferInstance (.nil)) (by exact fun w hw => Stb.cl (by assumption) hw))) ?_
    refine sr rfl rfl rfl ((q_eql rfl rfl rfl)) (sw_nil (post_then ?_))
    refine cw_cond rfl (fun h => ?_) (fun h => ?_)
    · skip
      exfalso
      simp at h
      omega
    · skip
      refine cw_skip (post_then (cw_seq (cw_region (sr rfl rfl rfl ((q_assign rfl rfl)) (sw_nil (post_then (cw_seq (cw_region (sr rfl rfl rfl ((q_assign rfl rfl)) (sw_nil (post_then (cw_seq (cw_seq (cw_region (sr rfl rfl rfl ((q_assign rfl rfl)) (sw_nil (post_then (cw_block ?_))))))))))))))))))
      refine cw_loop (S := Nat × SlV) (fun y => [(0, [], sp.v), (1, [], sw.v), (2, [], sl.v), (8, [], y.2.v), (9, [], .int .i64 (st y.1).2), (10, [], .int .i64 y.1)]) (fun y => Cl w [] [ownL 23 y.2.v ((st y.1).1.map (·.p))]) (fun y => y.1 ≤ p.length) (fun y => p.length - y.1) (0, ⟨none, 0, 0⟩) (by simp) (by rw [hst]; exact (by exact .cons rfl (.cons rfl (.cons rfl (.cons rfl (.cons rfl (.cons rfl .nil))))))) (fun w' h => by rw [hst]; exact Cl.addNil 23 ((fun w h => Cl.sel (by exact .nil _) w h) _ h)) ?_
      rintro ⟨k, so⟩ hk
      dsimp only at hk ⊢
      refine cw_seq (cw_seq (cw_region (sr rfl rfl rfl ((q_move rfl rfl)) (sr rfl rfl rfl ((q_move rfl rfl)) ?_))))
      refine sr rfl rfl rfl ((q_len rfl (.cons rfl inferInstance (.nil)) (by exact fun w hw => Stb.cl (by assumption) hw))) ?_
      refine sr rfl rfl rfl ((q_lss rfl rfl rfl)) (sw_nil (post_then ?_))
      refine cw_cond rfl (fun h3 => ?_) (fun h3 => ?_)
      · skip
        have hk' : k < p.length := by simp at h3; omega
        have hxm : nth p k ∈ p := nth_mem hk'
        have hxs : Stb w [] (RdL (nth p k).p.v (nth p k).pl) := stb_mem hpi hxm
        have hxL := rd_len hxs.here
        have hxc := hcost _ hxm
        have hxl := hpl _ hxm
        have hkb := hsb k hk
        have hsk := hss k hk'
        have hfk := hfe (nth p k)
        have f2 : (nth p k).pl.length ≤ l.length → Stb w [] (RdL (sl.sub 1 0 ((nth p k).pl.length : Int).toNat).v ((l.take (nth p k).pl.length).drop 0)) := fun h => stb_sub hl (Nat.zero_le _) h
        have hpre : pre (nth p k).pl l = (decide ((nth p k).pl.length ≤ l.length) && decide (l.take (nth p k).pl.length = (nth p k).pl)) := rfl
        refine cw_skip (post_then (cw_seq (cw_block (cw_seq (cw_region (sr rfl rfl rfl ((q_move rfl rfl)) (sr rfl rfl rfl ((q_move rfl rfl)) ?_)))))))
        refine sr rfl rfl rfl ((q_indexN rfl rfl rfl (by exact fun w hw => Stb.cl (by assumption) hw) (by intro hc; omega))) ?_
        refine sr rfl rfl rfl ((q_fieldEl rfl rfl (by exact fun w hw => Stb.cl (by assumption) hw) (by intro hc; omega))) ?_
        refine sr rfl rfl rfl ((q_loadF rfl rfl rfl (by exact fun w hw => Stb.cl (by assumption) hw) (by intro hc; omega) rfl)) ?_
        refine sr rfl rfl rfl ((q_len rfl (.cons rfl inferInstance (.nil)) (by exact fun w hw => Stb.cl (by assumption) hw))) ?_
        refine sr rfl rfl rfl ((q_assign rfl rfl)) (sw_nil (post_then (cw_seq (cw_seq ?_))))
        refine cw_region_q mixed_Tryz (by kernel_rfl) ?_
        refine qr rfl rfl rfl ((q_move rfl rfl)) (qr rfl rfl rfl ((q_move rfl rfl)) ?_)
        refine qr rfl rfl rfl ((q_indexN rfl rfl rfl (by exact fun w hw => Stb.cl (by assumption) hw) (by intro hc; omega))) ?_
        refine qr rfl rfl rfl ((q_fieldEl rfl rfl (by exact fun w hw => Stb.cl (by assumption) hw) (by intro hc; omega))) ?_
        refine qr rfl rfl rfl ((q_loadF rfl rfl rfl (by exact fun w hw => Stb.cl (by assumption) hw) (by intro hc; omega) rfl)) ?_
        refine qr rfl rfl rfl ((q_move rfl rfl)) ?_
        refine qr rfl rfl rfl ((q_indexN rfl rfl rfl (by exact fun w hw => Stb.cl (by assumption) hw) (by intro hc; (simp only [List.length_set, List.length_append, List.length_cons, List.length_nil, List.length_replicate, List.length_take, List.length_drop, List.length_map]; omega)))) ?_
        refine qr rfl rfl rfl ((q_loadEl rfl rfl rfl (by exact fun w hw => Stb.cl (by assumption) hw) (by intro hc; (simp only [List.length_set, List.length_append, List.length_cons, List.length_nil, List.length_replicate, List.length_take, List.length_drop, List.length_map]; omega)))) ?_
        refine qr rfl rfl rfl ((q_neq rfl rfl rfl)) (qr rfl rfl rfl ((q_move rfl rfl)) (qr rfl rfl rfl ((q_move rfl rfl)) (qr rfl rfl rfl ((q_move rfl rfl)) ?_)))
        refine qr rfl rfl rfl ((q_len rfl (.cons rfl inferInstance (.nil)) (by exact fun w hw => Stb.cl (by assumption) hw))) ?_
        refine qr rfl rfl rfl ((q_gtr rfl rfl rfl)) (qr rfl rfl rfl ((q_or2 rfl rfl rfl)) (qr rfl rfl rfl ((q_move rfl rfl)) (qr rfl rfl rfl ((q_move rfl rfl)) (qr rfl rfl rfl ((q_move rfl rfl)) ?_))))
        refine qr rfl rfl rfl ((q_sliceH rfl rfl rfl (by exact fun w hw => Stb.cl (by assumption) hw) (fun hcc => by simp [AllT] at hcc; omega))) ?_
        refine qr rfl rfl rfl ((q_move rfl rfl)) (qr rfl rfl rfl ((q_move rfl rfl)) ?_)
        refine qr rfl rfl rfl ((q_indexN rfl rfl rfl (by exact fun w hw => Stb.cl (by assumption) hw) (by intro hc; omega))) ?_
        refine qr rfl rfl rfl ((q_fieldEl rfl rfl (by exact fun w hw => Stb.cl (by assumption) hw) (by intro hc; omega))) ?_
        refine qr rfl rfl rfl ((q_loadF rfl rfl rfl (by exact fun w hw => Stb.cl (by assumption) hw) (by intro hc; omega) rfl)) ?_
        refine qw_step rfl rfl rfl (q_call (CanCall.mk Tryz.call38) rfl (.cons rfl inferInstance (.cons rfl inferInstance (.nil))) (fun hcc w1 hw => callq hw (order_spec _ _ ((l.take (nth p k).pl.length).drop 0) (nth p k).pl w1 (stb_arg hw (f2 (by simp [AllT] at hcc; omega))) (stb_arg hw hxs)))) ?_
        refine qr rfl rfl rfl ((q_neq rfl rfl rfl)) (qr rfl rfl rfl ((q_or2 rfl rfl rfl)) (qw_end (post_then ?_)))
        refine cw_cond rfl (fun h4 => ?_) (fun h4 => ?_)
        · skip
          have e1 : st (k + 1) = st k := by
            rw [hsk]
            split
            · rename_i hc
              have hp0 : pre (nth p k).pl l = false := by
                cases hx : pre (nth p k).pl l with
                | false => rfl
                | true =>
                  exfalso
                  rw [hpre] at hx
                  simp only [Bool.and_eq_true, decide_eq_true_eq] at hx
                  rw [List.drop_zero, hx.2, ordL_self] at h4
                  simp [hc, hw00] at h4
                  omega
              have hf1 : fx (nth p k) = -1 := by rw [hfk, if_neg (fun h => by rw [h.1] at hp0; cases hp0)]
              unfold stS
              rw [hf1, if_neg (by omega)]
            · rfl
          refine cw_exit (post_then_x (post_blk_eq (post_then (cw_region (sr rfl rfl rfl ((q_move rfl rfl)) ?_)))))
          refine sr rfl rfl rfl ((q_add rfl rfl rfl (by intro hc; omega))) ?_
          refine sr rfl rfl rfl ((q_assign rfl rfl)) (sw_nil ?_)
          exact post_next (k + 1, so) (by simp only; rw [e1]; exact (by exact .cons rfl (.cons rfl (.cons rfl (.cons rfl (.cons rfl (.cons rfl .nil))))))) (fun w' h => by simp only; rw [e1]; exact h) (by simp only; omega) (by simp only; omega)
        · skip
          have hyes : (nth p k).c = c.v ∧ (nth p k).pl.length ≤ l.length ∧ pre (nth p k).pl l = true := by
            simp only [Bool.or_eq_false_iff, Bool.not_eq_false', decide_eq_false_iff_not, decide_eq_true_eq, hw00] at h4
            obtain ⟨⟨a1, a2⟩, a3⟩ := h4
            have a4 : (nth p k).pl.length ≤ l.length := by omega
            rw [List.drop_zero, ordL_eq] at a3
            refine ⟨a1, a4, ?_⟩
            rw [hpre, a3, decide_eq_true a4]; simp
          obtain ⟨hc, hle, hp1⟩ := hyes
          rw [if_pos hc] at hsk
          have hl2 : Stb w [] (RdL (sl.sub 1 ((nth p k).pl.length : Int).toNat l.length).v (l.drop (nth p k).pl.length)) := by
            have := stb_sub hl (a := (nth p k).pl.length) (b := l.length) hle (Nat.le_refl _)
            rwa [List.take_length] at this
          have hTb := h2 (l.drop (nth p k).pl.length)
          have hTl := (tryF_eq p ws (l.drop (nth p k).pl.length)).2.2.1
          refine cw_skip (post_then (cw_seq (cw_region_a (Cl w [] [ownL 23 so.v ((st k).1.map (·.p))]) [] mixed_Tryz ?_)))
          refine aw_pure 0 rfl (by kernel_rfl) (by kernel_rfl) (by kernel_rfl) (by kernel_rfl) (by kernel_rfl) rfl rfl rfl (q_move rfl rfl) ?_
          refine aw_pure 1 rfl (by kernel_rfl) (by kernel_rfl) (by kernel_rfl) (by kernel_rfl) (by kernel_rfl) rfl rfl rfl (q_move rfl rfl) ?_
          refine aw_take 2 (fun w h => Cl.sel (by exact .take 0 rfl (.nil _)) w h) rfl (by kernel_rfl) (by kernel_rfl) (by kernel_rfl) (by kernel_rfl) (by kernel_rfl) (by kernel_rfl) rfl rfl rfl (q_sliceL rfl rfl rfl (by exact fun w hw => Stb.cl (by assumption) hw) (by intro hc; omega)) ?_
          refine aw_pure 3 rfl (by kernel_rfl) (by kernel_rfl) (by kernel_rfl) (by kernel_rfl) (by kernel_rfl) rfl rfl rfl (q_move rfl rfl) ?_
          refine aw_pure 4 rfl (by kernel_rfl) (by kernel_rfl) (by kernel_rfl) (by kernel_rfl) (by kernel_rfl) rfl rfl rfl (q_move rfl rfl) ?_
          refine aw_take 5 (fun w h => Cl.sel (by exact .take 0 rfl (.nil _)) w h) rfl (by kernel_rfl) (by kernel_rfl) (by kernel_rfl) (by kernel_rfl) (by kernel_rfl) (by kernel_rfl) rfl rfl rfl (q_sliceL rfl rfl rfl (by exact fun w hw => Stb.cl (by assumption) hw) (by intro hc; omega)) ?_
          refine aw_x 6 (by kernel_rfl) rfl rfl rfl rfl (e_call (CanCall.mk Tryz.call26) rfl (.cons rfl inferInstance (.cons rfl inferInstance (.cons rfl inferInstance (.nil)))) (fun w1 hw => ih _ _ (l.drop (nth p k).pl.length) w1 (by omega) (by rw [List.length_drop]; omega) (stb_arg hw hp) (stb_arg hw hpi) (stb_arg hw hws) (stb_arg hw hl2))) (by intro hb; exact fun _ w h => (fun w h => Cl.sel (by exact .take 1 rfl (.nil _)) w h) w h.2) (fun s66 => ?_)
          refine aw_imp fun _ => ?_
          refine aw_pure 7 rfl (by kernel_rfl) (by kernel_rfl) (by kernel_rfl) (by kernel_rfl) (by kernel_rfl) rfl rfl rfl (q_move rfl rfl) ?_
          refine aw_take 8 (fun w h => Cl.sel (by exact .take 1 rfl (.nil _)) w h) rfl (by kernel_rfl) (by kernel_rfl) (by kernel_rfl) (by kernel_rfl) (by kernel_rfl) (by kernel_rfl) rfl rfl rfl (q_extract rfl rfl rfl) ?_
          refine aw_take 9 (fun w h => Cl.sel (by exact .take 1 rfl (.nil _)) w h) rfl (by kernel_rfl) (by kernel_rfl) (by kernel_rfl) (by kernel_rfl) (by kernel_rfl) (by kernel_rfl) rfl rfl rfl (q_extract rfl rfl rfl) ?_
          refine aw_pure 10 rfl (by kernel_rfl) (by kernel_rfl) (by kernel_rfl) (by kernel_rfl) (by kernel_rfl) rfl rfl rfl (q_assign rfl rfl) ?_
          refine aw_pure 11 rfl (by kernel_rfl) (by kernel_rfl) (by kernel_rfl) (by kernel_rfl) (by kernel_rfl) rfl rfl rfl (q_assign rfl rfl) ?_
          refine aw_end (by kernel_rfl) ?_
          refine post_then (cw_seq (cw_seq (cw_region (sr rfl rfl rfl ((q_move rfl rfl)) (sr rfl rfl rfl ((q_lss rfl rfl rfl)) (sw_nil (post_then ?_)))))))
          refine cw_cond rfl (fun h5 => ?_) (fun h5 => ?_)
          · skip
            have e1 : st (k + 1) = st k := by
              rw [hsk]
              have hf1 : fx (nth p k) = -1 := by rw [hfk, if_neg (fun h => by simp only [decide_eq_true_eq] at h5; omega)]
              unfold stS
              rw [hf1, if_neg (by omega)]
            refine cw_exit (post_then_x (post_blk_eq (post_then (cw_region (sr rfl rfl rfl ((q_move rfl rfl)) ?_)))))
            refine sr rfl rfl rfl ((q_add rfl rfl rfl (by intro hc; omega))) ?_
            refine sr rfl rfl rfl ((q_assign rfl rfl)) (sw_nil ?_)
            exact post_next (k + 1, so) (by simp only; rw [e1]; exact (by exact .cons rfl (.cons rfl (.cons rfl (.cons rfl (.cons rfl (.cons rfl .nil))))))) (fun w' h => by simp only; rw [e1]; exact (fun w h => Cl.sel (by exact .take 1 rfl (.nil _)) w h) _ h) (by simp only; omega) (by simp only; omega)
          · skip
            have hT0 : 0 ≤ (tryF p ws (l.drop (nth p k).pl.length)).2 := by simp only [decide_eq_false_iff_not] at h5; omega
            have hf1 : fx (nth p k) = (nth p k).cost + (tryF p ws (l.drop (nth p k).pl.length)).2 := by rw [hfk, if_pos ⟨hp1, hT0⟩]
            refine cw_skip (post_then (cw_seq (cw_region (sr rfl rfl rfl ((q_move rfl rfl)) (sr rfl rfl rfl ((q_move rfl rfl)) (sr rfl rfl rfl ((q_move rfl rfl)) ?_))))))
            refine sr rfl rfl rfl ((q_indexN rfl rfl rfl (by exact fun w hw => Stb.cl (by assumption) hw) (by intro hc; omega))) ?_
            refine sr rfl rfl rfl ((q_fieldEl rfl rfl (by exact fun w hw => Stb.cl (by assumption) hw) (by intro hc; omega))) ?_
            refine sr rfl rfl rfl ((q_loadF rfl rfl rfl (by exact fun w hw => Stb.cl (by assumption) hw) (by intro hc; omega) rfl)) ?_
            refine sr rfl rfl rfl ((q_add rfl rfl rfl (by intro hc; omega))) ?_
            refine sr rfl rfl rfl ((q_assign rfl rfl)) (sw_nil (post_then (cw_seq (cw_region (sr rfl rfl rfl ((q_move rfl rfl)) (sr rfl rfl rfl ((q_lss rfl rfl rfl)) (sr rfl rfl rfl ((q_move rfl rfl)) (sr rfl rfl rfl ((q_move rfl rfl)) (sr rfl rfl rfl ((q_move rfl rfl)) (sr rfl rfl rfl ((q_lss rfl rfl rfl)) (sr rfl rfl rfl ((q_or2 rfl rfl rfl)) (sw_nil (post_then ?_)))))))))))))
            refine cw_cond rfl (fun h6 => ?_) (fun h6 => ?_)
            · skip
              have e1 : st (k + 1) = (nth p k :: (tryF p ws (l.drop (nth p k).pl.length)).1, (tryF p ws (l.drop (nth p k).pl.length)).2 + (nth p k).cost) := by
                rw [hsk]
                simp only [Bool.or_eq_true, decide_eq_true_eq] at h6
                unfold stS
                rw [hf1, if_pos (by omega), ← hgx]
                simp only
                congr 1
                omega
              refine cw_region (sr rfl rfl rfl ((q_move rfl rfl)) (sr rfl rfl rfl ((q_move rfl rfl)) ?_))
              refine sr rfl rfl rfl ((q_indexN rfl rfl rfl (by exact fun w hw => Stb.cl (by assumption) hw) (by intro hc; omega))) ?_
              refine sr rfl rfl rfl ((q_fieldEl rfl rfl (by exact fun w hw => Stb.cl (by assumption) hw) (by intro hc; omega))) ?_
              refine sr rfl rfl rfl ((q_loadF rfl rfl rfl (by exact fun w hw => Stb.cl (by assumption) hw) (by intro hc; omega) rfl)) ?_
              refine sw_x rfl rfl rfl (e_build1 (α := SlV) rfl rfl rfl rfl) (fun s90 => ?_)
              refine sr rfl rfl rfl ((q_move rfl rfl)) ?_
              refine sw_x rfl rfl rfl (e_append (i := 0) rfl (.cons rfl inferInstance (.cons rfl inferInstance (.nil))) rfl rfl (by exact fun w hw => rd_own hw (by exact .tail _ (.head _))) (by first | omega | (simp only [List.length_set, List.length_append, List.length_cons, List.length_nil, List.length_replicate, List.length_take, List.length_drop, List.length_map]; omega)) rfl) (fun s92 => ?_)
              refine sr rfl rfl rfl ((q_move rfl rfl)) (sr rfl rfl rfl ((q_assign rfl rfl)) (sr rfl rfl rfl ((q_assign rfl rfl)) (sw_nil (post_blk (post_then (cw_region (sr rfl rfl rfl ((q_move rfl rfl)) ?_)))))))
              refine sr rfl rfl rfl ((q_add rfl rfl rfl (by intro hc; omega))) ?_
              refine sr rfl rfl rfl ((q_assign rfl rfl)) (sw_nil ?_)
              exact post_next (k + 1, s92) (by simp only; rw [e1]; exact (by exact .cons rfl (.cons rfl (.cons rfl (.cons rfl (.cons rfl (.cons rfl .nil))))))) (fun w' h => by simp only; rw [e1]; exact (fun w h => Cl.sel (by exact .take 0 rfl (.nil _)) w h) _ h) (by simp only; omega) (by simp only; omega)
            · skip
              have e1 : st (k + 1) = st k := by
                rw [hsk]
                simp only [Bool.or_eq_false_iff, decide_eq_false_iff_not] at h6
                unfold stS
                rw [hf1, if_neg (by omega)]
              refine cw_skip (post_blk (post_then (cw_region (sr rfl rfl rfl ((q_move rfl rfl)) ?_))))
              refine sr rfl rfl rfl ((q_add rfl rfl rfl (by intro hc; omega))) ?_
              refine sr rfl rfl rfl ((q_assign rfl rfl)) (sw_nil ?_)
              exact post_next (k + 1, so) (by simp only; rw [e1]; exact (by exact .cons rfl (.cons rfl (.cons rfl (.cons rfl (.cons rfl (.cons rfl .nil))))))) (fun w' h => by simp only; rw [e1]; exact (fun w h => Cl.sel (by exact .take 1 rfl (.nil _)) w h) _ h) (by simp only; omega) (by simp only; omega)
      · skip
        have hk' : k = p.length := by simp at h3; omega
        have e1 : st k = tryF p (c :: ws) l := by rw [hst, hT, hk', List.take_length]
        rw [e1]
        refine cw_exit (post_then_x (post_then_x (post_blk_eq (post_then (cw_seq (cw_region (sr rfl rfl rfl ((q_move rfl rfl)) (sr rfl rfl rfl ((q_move rfl rfl)) (sr rfl rfl rfl ((q_assign rfl rfl)) (sr rfl rfl rfl ((q_assign rfl rfl)) (sw_nil (post_then (cw_ret (post_ret2 rfl (resOk_tmp rfl) (resOk_tmp rfl) ?_))))))))))))))
        exact fun w' hw => ⟨so, rfl, trivial, hw⟩
end Go.Proofs.YtkmbliojafefdaaGreatDoor

set_option autoImplicit false
set_option maxRecDepth 100000
namespace Go.Proofs.YtkmbliojafefdaaGreatDoor
open Go.Sx
open Enc (enc val)
theorem cheapest_spec (sp sl : SlV) (p : List Pr) (s : ByteArray) (l : List ByteArray) (hsz : s.size ≤ 9223372036854775807) (w : World) (hT : Stb w [] Tab) (hp : Stb w [] (RdL sp.v p)) (hpi : Stb w [] fun w' => ∀ u ∈ p, PrIn u w') (hl : Stb w [] (RdL sl.v l)) :
    Calls Tryz.prog 4 #[sp.v, .string s, sl.v] w fun e w' => e = .returned (.bool true) ∧ Cl w [] [] w' := by
  have hLp := rd_len hp.here
  have hLl := rd_len hl.here
  refine calls_cw (vs := [_, _, _]) Tryz.func4 rfl Tryz.ntmps4 rfl (Cl.start0 w) (cw_seq (cw_region (sr rfl rfl rfl ((q_assign rfl rfl)) (sw_nil (post_then (cw_seq (cw_seq (cw_region (sr rfl rfl rfl ((q_move rfl rfl)) (sw_step rfl rfl rfl (q_call (CanCall.mk Tryz.call17) rfl (.cons rfl inferInstance (.nil)) (fun _ w hw => callq hw (lawPairs_spec _ p w (stb_arg hw hp) (stb_arg hw hpi)))) (sr rfl rfl rfl ((q_not rfl rfl)) (sr rfl rfl rfl ((q_move rfl rfl)) (sr rfl rfl rfl ((q_move rfl rfl)) ?_)))))))))))))
  refine sr rfl rfl rfl ((q_len rfl (.cons rfl inferInstance (.nil)) (by exact fun w hw => Stb.cl (by assumption) hw))) ?_
  refine sr rfl rfl rfl ((q_gtr rfl rfl rfl)) (sr rfl rfl rfl ((q_or2 rfl rfl rfl)) (sr rfl rfl rfl ((q_move rfl rfl)) (sr rfl rfl rfl ((q_move rfl rfl)) (sr rfl rfl rfl ((q_lenS rfl (.cons rfl inferInstance (.nil)) Tryz.underlying9)) (sr rfl rfl rfl ((q_gtr rfl rfl rfl)) (sr rfl rfl rfl ((q_or2 rfl rfl rfl)) (sr rfl rfl rfl ((q_move rfl rfl)) (sr rfl rfl rfl ((q_move rfl rfl)) ?_))))))))
  refine sw_step rfl rfl rfl (q_call (CanCall.mk Tryz.call18) rfl (.cons rfl inferInstance (.cons rfl inferInstance (.nil))) (fun _ w hw => callq hw (lawPhones_spec _ _ _ (by omega) w (by exact stb_arg hw (by assumption))))) ?_
  refine sr rfl rfl rfl ((q_not rfl rfl)) (sr rfl rfl rfl ((q_or2 rfl rfl rfl)) (sr rfl rfl rfl ((q_move rfl rfl)) (sr rfl rfl rfl ((q_move rfl rfl)) ?_)))
  refine sw_step rfl rfl rfl (q_call (CanCall.mk Tryz.call22) rfl (.cons rfl inferInstance (.nil)) (fun hcs w hw => callq hw (refPairs_spec _ p (fun u hu b hb => by simp [AllT] at hcs; have := (lawPrs_z hcs.1.1.1 u hu).2 b hb; omega) w (stb_arg hw hp) (stb_arg hw hpi)))) ?_
  refine sr rfl rfl rfl ((q_not rfl rfl)) (sr rfl rfl rfl ((q_or2 rfl rfl rfl)) (sw_nil (post_then ?_)))
  refine cw_cond rfl (fun h => ?_) (fun h => ?_)
  · skip
    refine cw_seq (cw_region ?_)
    refine sw_step rfl rfl rfl (q_call (CanCall.mk Tryz.call19) rfl (.nil) (fun _ w hw => callq hw (known_spec w (stb_arg hw (by assumption))))) ?_
    refine sr rfl rfl rfl ((q_assign rfl rfl)) (sw_nil (post_then (cw_ret (post_then_r (post_ret1 rfl (resOk_tmp rfl) ?_)))))
    exact fun w' hw => ⟨rfl, (fun w h => Cl.sel (by exact .nil _) w h) _ hw⟩
  · skip
    have h1 : lawPrs p = true ∧ p.length ≤ 30 ∧ s.size ≤ 20 ∧ lawPh l 15 = true ∧ prsOk p = true := by
      simp at h; exact ⟨h.1.1.1.1, by omega, by omega, h.1.2, h.2⟩
    obtain ⟨c1, c2, c3, c4, c5⟩ := h1
    have z2 : ∀ b ∈ l, b.size ≤ 9223372036854775807 := fun b hb => by
      unfold lawPh at c4
      simp only [Bool.and_eq_true, List.all_eq_true, decide_eq_true_eq] at c4
      have := c4.2 b hb; omega
    have e0 : prsE p = 0 := by rw [prsE_val, if_neg (by omega), if_pos c5]
    obtain ⟨y1, y2, y3, y4, y5⟩ := prsE_zero e0
    refine cw_skip (post_then (cw_seq (cw_region (sr rfl rfl rfl ((q_move rfl rfl)) ?_))))
    refine sw_x rfl rfl rfl (e_call (CanCall.mk Tryz.call21) rfl (.cons rfl inferInstance (.nil)) (fun w1 hw => refLetters_spec s w1 (by omega) (stb_arg hw hT))) (fun s40 => ?_)
    refine sw_imp fun _ => (sr rfl rfl rfl ((q_move rfl rfl)) (sr rfl rfl rfl ((q_extract rfl rfl rfl)) (sr rfl rfl rfl ((q_extract rfl rfl rfl)) (sr rfl rfl rfl ((q_assign rfl rfl)) (sr rfl rfl rfl ((q_assign rfl rfl)) (sw_nil (post_then (cw_seq (cw_seq (cw_region (sr rfl rfl rfl ((q_move rfl rfl)) (sr rfl rfl rfl ((q_not rfl rfl)) (sr rfl rfl rfl ((q_move rfl rfl)) (sr rfl rfl rfl ((q_move rfl rfl)) ?_))))))))))))))
    refine sr rfl rfl rfl ((q_len rfl (.cons rfl inferInstance (.nil)) (by exact fun w hw => rd_own hw (by exact .head _)))) ?_
    refine sr rfl rfl rfl ((q_gtr rfl rfl rfl)) (sr rfl rfl rfl ((q_or2 rfl rfl rfl)) (sr rfl rfl rfl ((q_move rfl rfl)) (sr rfl rfl rfl ((q_move rfl rfl)) ?_)))
    refine sw_step rfl rfl rfl (q_call (CanCall.mk Tryz.call23) rfl (.cons rfl inferInstance (.cons rfl inferInstance (.nil))) (fun _ w hw => callq hw (refPhones_spec _ _ _ w (by exact stb_arg hw (by assumption)) (by assumption)))) ?_
    refine sr rfl rfl rfl ((q_not rfl rfl)) (sr rfl rfl rfl ((q_or2 rfl rfl rfl)) (sw_nil (post_then ?_)))
    refine cw_cond rfl (fun h2 => ?_) (fun h2 => ?_)
    · skip
      refine cw_seq (cw_region ?_)
      refine sw_step rfl rfl rfl (q_call (CanCall.mk Tryz.call19) rfl (.nil) (fun _ w hw => callq hw (known_spec w (stb_arg hw (by assumption))))) ?_
      refine sr rfl rfl rfl ((q_assign rfl rfl)) (sw_nil (post_then (cw_ret (post_then_r (post_ret1 rfl (resOk_tmp rfl) ?_)))))
      exact fun w' hw => ⟨rfl, (fun w h => Cl.sel (by exact .nil _) w h) _ hw⟩
    · skip
      have h3 : wordOk s = true ∧ (lettersR s).length ≤ 5 ∧ phonesOk l 120 = true := by
        simp at h2; exact ⟨h2.1.1, by omega, h2.2⟩
      obtain ⟨k1, k2, k3⟩ := h3
      have hll : l.length ≤ 120 := by have := k3; simp [phonesOk] at this; omega
      rw [lettersR_ok k1] at k2 ⊢
      obtain ⟨t1, t2, t3, t4⟩ := tryF_eq p (runes s) l
      have hE : alignE p s l = if alOk p s l then 0 else 5 := by
        unfold alignE
        rw [if_pos e0, if_pos (by rw [k1, k3]; rfl)]
      refine cw_skip (post_then (cw_seq (cw_region (sr rfl rfl rfl ((q_move rfl rfl)) (sr rfl rfl rfl ((q_move rfl rfl)) (sr rfl rfl rfl ((q_move rfl rfl)) ?_))))))
      refine sw_x rfl rfl rfl (e_call (CanCall.mk Tryz.call20) rfl (.cons rfl inferInstance (.cons rfl inferInstance (.cons rfl inferInstance (.nil)))) (fun w1 hw => align_spec sp sl p s l (by omega) w1 (stb_arg hw hT) (stb_arg hw hp) (stb_arg hw hpi) (stb_arg hw hl))) (fun s60 => ?_)
      refine sw_imp fun _ => (sr rfl rfl rfl ((q_move rfl rfl)) (sr rfl rfl rfl ((q_extract rfl rfl rfl)) (sr rfl rfl rfl ((q_extract rfl rfl rfl)) (sr rfl rfl rfl ((q_extract rfl rfl rfl)) (sr rfl rfl rfl ((q_assign rfl rfl)) (sr rfl rfl rfl ((q_assign rfl rfl)) (sr rfl rfl rfl ((q_assign rfl rfl)) (sw_nil (post_then (cw_seq (cw_region (sr rfl rfl rfl ((q_move rfl rfl)) (sr rfl rfl rfl ((q_move rfl rfl)) (sr rfl rfl rfl ((q_move rfl rfl)) ?_))))))))))))))
      refine sw_x rfl rfl rfl (e_call (CanCall.mk Tryz.call26) rfl (.cons rfl inferInstance (.cons rfl inferInstance (.cons rfl inferInstance (.nil)))) (fun w1 hw => allTries_spec sp p (by omega) y2 (fun x hx => by have := y3 x hx; omega) (runes s) _ sl l w1 (by omega) (by omega) (stb_arg hw hp) (stb_arg hw hpi) (stb_own hw (by exact .tail _ (.head _))) (stb_arg hw hl))) (fun s68 => ?_)
      refine sw_imp fun _ => (sr rfl rfl rfl ((q_move rfl rfl)) (sr rfl rfl rfl ((q_extract rfl rfl rfl)) (sr rfl rfl rfl ((q_extract rfl rfl rfl)) (sr rfl rfl rfl ((q_assign rfl rfl)) (sr rfl rfl rfl ((q_assign rfl rfl)) (sw_nil (post_then (cw_seq (cw_seq (cw_region (sr rfl rfl rfl ((q_move rfl rfl)) (sr rfl rfl rfl ((q_lss rfl rfl rfl)) (sw_nil (post_then ?_))))))))))))))
      rw [t1]
      refine cw_cond rfl (fun h5 => ?_) (fun h5 => ?_)
      · skip
        have h6 : alOk p s l = false := by unfold alOk; rw [decide_eq_false_iff_not]; simp at h5; omega
        have e1 : alignE p s l = 5 := by rw [hE, h6]; rfl
        rw [e1]
        refine cw_seq (cw_region (sr rfl rfl rfl ((q_move rfl rfl)) (sr rfl rfl rfl ((q_eql rfl rfl rfl)) (sr rfl rfl rfl ((q_move rfl rfl)) ?_))))
        refine sw_step rfl rfl rfl (q_call (CanCall.mk Tryz.call19) rfl (.nil) (fun _ w hw => callq hw (known_spec w (stb_arg hw (by assumption))))) ?_
        refine sr rfl rfl rfl ((q_and2 rfl rfl rfl)) (sr rfl rfl rfl ((q_assign rfl rfl)) (sw_nil (post_then (cw_ret (post_then_r (post_ret1 rfl (resOk_tmp rfl) ?_))))))
        exact fun w' hw => ⟨rfl, (fun w h => Cl.sel (by exact .nil _) w h) _ hw⟩
      · skip
        have h7 : 0 ≤ leastC p (runes s) l := by simp at h5; omega
        have h6 : alOk p s l = true := by unfold alOk; rw [decide_eq_true_eq]; exact h7
        have e1 : alignE p s l = 0 := by rw [hE, h6]; rfl
        have e2 : alignN p s l = leastC p (runes s) l := by unfold alignN alN; rw [if_pos e1, if_pos h6]
        have e3 : alignP p s l = pathC p (runes s) l := by unfold alignP alP; rw [if_pos e1, if_pos h6]
        rw [if_pos h7] at t2
        have hrows : Stb w [] (RdR ((tryF p (runes s) l).1.map (·.p)) (pathC p (runes s) l)) := ⟨fun w' k => by
          rw [← t2]
          refine ⟨by simp, fun i hi => ?_⟩
          have hi' : i < (tryF p (runes s) l).1.length := by simpa using hi
          rw [nth_get (by simpa using hi'), nth_get hi, List.getElem_map, List.getElem_map]
          exact hpi.stb w' k _ (t4 _ (List.getElem_mem hi'))⟩
        rw [e1, e2, e3]
        refine cw_skip (post_then (cw_seq (cw_region (sr rfl rfl rfl ((q_move rfl rfl)) (sr rfl rfl rfl ((q_eql rfl rfl rfl)) (sr rfl rfl rfl ((q_move rfl rfl)) (sr rfl rfl rfl ((q_move rfl rfl)) (sr rfl rfl rfl ((q_move rfl rfl)) (sr rfl rfl rfl ((q_eql rfl rfl rfl)) (sr rfl rfl rfl ((q_and2 rfl rfl rfl)) (sr rfl rfl rfl ((q_move rfl rfl)) (sr rfl rfl rfl ((q_move rfl rfl)) (sr rfl rfl rfl ((q_move rfl rfl)) ?_)))))))))))))
        refine sw_step rfl rfl rfl (q_call (CanCall.mk Tryz.call25) rfl (.cons rfl inferInstance (.cons rfl inferInstance (.nil))) (fun _ w1 hw => callq hw (by obtain ⟨va, g1, g2⟩ := (stb_frz (R := RdRR s60.v (pathC p (runes s) l)) hw (by exact .tail _ (.head _))).here; exact samePieces_spec s60.v s68.v va _ (pathC p (runes s) l) (pathC p (runes s) l) w1 (rd_stb g1) (stb_own hw (by exact .head _)) (rdR_stb g2) (stb_arg hw hrows)))) ?_
        refine sr rfl rfl rfl ((q_and2 rfl rfl rfl)) (sr rfl rfl rfl ((q_move rfl rfl)) ?_)
        refine sw_step rfl rfl rfl (q_call (CanCall.mk Tryz.call19) rfl (.nil) (fun _ w hw => callq hw (known_spec w (stb_arg hw (by assumption))))) ?_
        refine sr rfl rfl rfl ((q_and2 rfl rfl rfl)) (sr rfl rfl rfl ((q_assign rfl rfl)) (sw_nil (post_then (cw_ret (post_ret1 rfl (resOk_tmp rfl) ?_)))))
        exact fun w' hw => ⟨by simp, (fun w h => Cl.sel (by exact .nil _) w h) _ hw⟩
end Go.Proofs.YtkmbliojafefdaaGreatDoor

set_option autoImplicit false
namespace Go.Proofs.YtkmbliojafefdaaGreatDoor.letterCheapest
open Go.ChangeShapes Go.WideShapes Go.ChangeAt Go.RowKit Go.Sx
theorem own : ownKnob Tryz.prog.godebug = none := by kernel_rfl
theorem laid : laidOutB Tryz.prog = true := by kernel_rfl
theorem rowed : ∀ t ∈ Tryz.f4.params.toList, Tryz.prog.readableRec t = true ∧ t < Tryz.prog.types.size := by
  rw [Tryz.params4]
  intro t ht
  change t ∈ [22, 9, 23] at ht
  simp only [List.mem_cons, List.not_mem_nil, or_false] at ht
  rcases ht with rfl | rfl | rfl <;> exact ⟨by kernel_rfl, of_decide_eq_true (by kernel_rfl)⟩
set_option maxHeartbeats 1000000 in
set_option maxRecDepth 100000 in
theorem lifted (os : Os) (started : os.Started) (H : Type) (enc : TypeId × Value → H) :
    ReturnsInHanded {} Tryz.checked os 4 .any (fun w args => (Rows.letterCheapestSpec.pre enc Tryz.prog Tryz.f4 Rows.letterCheapestRow.domain false w args ∧ laidMetH Tryz.prog Rows.letterCheapestRow.laid w) ∧ sizedMet enc Tryz.prog Tryz.f4 (OpenSpec.ofChange Rows.letterCheapestSpec) false w args)
      (Rows.letterCheapestSpec.post enc Tryz.prog Tryz.f4 false true false false) := by
  refine returnsInHanded_of_change_and (C := Tryz.checked) (X := fun w _ => laidMetH Tryz.prog Rows.letterCheapestRow.laid w) (fun _ _ _ hh h => h.of_heap hh) own started (by kernel_rfl) Tryz.func4
    (ChangeSpec.witness_shaped (enc := enc) (C := Tryz.checked) (os := os) (X := fun w _ => laidMetH Tryz.prog Rows.letterCheapestRow.laid w) false (World.laidAll Tryz.prog os Rows.letterCheapestRow.laid) #[.slice none 0 0, .string ByteArray.empty, .slice none 0 0] 8 (World.laidAll_os _ _ _)
      (World.shaped_of_ZipB (by kernel_rfl) (by kernel_rfl)) (by kernel_rfl) (by kernel_rfl) (by kernel_rfl)
      (by rw [MakeChecks.laidMetH_plain _ _ _ (by kernel_rfl)]; exact laidMet_laidAll _ (by kernel_rfl) (by kernel_rfl))) ?_
  intro W base args ds gs before hval0 hW hcnd _ hL _
  have hval : ∀ (j : Nat) t v, Tryz.f4.params[j]? = some t → args[j]? = some v → Value.okWide Tryz.prog W .any base t v := hval0
  have hW' := hW
  have hlt := hW.lt
  obtain ⟨p, q, hA0, hV, rfl, hfz, hnd⟩ := hW
  have hA : DataW.TrodAll enc Tryz.prog W 0 (fun _ => true) true Tryz.f4.params.toList args.toList ds p := hA0
  have hkeep := fun (W' : World) (hb : Below W.heap.size W W') (sp : Nat → Bool) (hsp : ∀ x ∈ p, sp x.block = true) => trodAll_keep laid hb sp rowed hA (fun x hx => hlt x (by simp [hx])) hsp
  rw [Tryz.params4] at hA hval
  obtain ⟨v0, vs0, d0, ds0, p0, q0, hargs, rfl, rfl, h0, r0⟩ := trodAll_cons hA
  obtain ⟨v1, vs1, d1, ds1, p1, q1, rfl, rfl, rfl, h1, r1⟩ := trodAll_cons r0
  obtain ⟨v2, vs2, d2, ds2, p2, q2, rfl, rfl, rfl, h2, r2⟩ := trodAll_cons r1
  obtain ⟨rfl, rfl, rfl⟩ := trodAll_nil r2
  obtain rfl : args = #[v0, v1, v2] := by cases args; simp_all
  obtain ⟨rfl, rfl⟩ := trodVars_none hV
  obtain ⟨a0, b0, rfl, k0⟩ := open_deep (hval 0 22 v0 rfl rfl) h0
  obtain ⟨a1, b1, rfl, k1⟩ := open_deep (hval 1 9 v1 rfl rfl) h1
  obtain ⟨rfl, w1⟩ := k1.here
  obtain ⟨a2, b2, rfl, k2⟩ := open_deep (hval 2 23 v2 rfl rfl) h2
  have k2 := stb_flat (fun a b w h => h.1) k2
  clear hA0 hval0
  rw [MakeChecks.laidMetH_plain _ _ _ (by kernel_rfl)] at hL
  have hT : Stb W [] Tab := tab_stb (utf8Tabs_of_readsT (U8Types.of196 Tryz.lays196) ⟨by kernel_rfl, by kernel_rfl, by kernel_rfl, by kernel_rfl, by kernel_rfl, by kernel_rfl, by kernel_rfl⟩ (Pinned.utf8First_eq ▸ Lib.laidMet.reads hL (.tail _ (.head _))) (Lib.laidMet.reads hL (.head _)))
  refine (cheapest_spec a0 a2 b0 a1 b2 (by have := w1; unfold maxLen at this; omega) W hT (stb_flat (fun a b w h => h.1) k0) (pr_all k0) k2).mono fun e W' ⟨he, hc⟩ => ?_
  subst he
  have hb := below_of hc
  exact ⟨_, rfl, _, _, _, [], _, [], hW', trodAll_cons_mk (shut_bool Tryz.underlying4 _) trodAll_mk0, hkeep W' hb _ (fun x hx => by simpa using hlt x (by simpa using hx)), rfl, hb.frame _, fun h => by cases h⟩
end Go.Proofs.YtkmbliojafefdaaGreatDoor.letterCheapest

set_option autoImplicit false
namespace Go.Proofs.YtkmbliojafefdaaGreatDoor.letterCheapest
open Go.Sx
theorem named : Tryz.prog.funcNamed "declaim/declaimlaw03.LetterCheapest" = some 4 := by kernel_rfl
theorem inst : Tryz.f4.isInstance Tryz.prog Rows.letterCheapestRow.origin Rows.letterCheapestRow.targs := of_decide_eq_true (by kernel_rfl)
theorem wrap : Tryz.f4.isWrapper Tryz.prog Rows.letterCheapestRow.wrapper Rows.letterCheapestRow.mainSum := by unfold Func.isWrapper; first | (rw [if_pos (by decide +kernel)]; kernel_rfl) | (rw [if_neg (by decide +kernel)]; exact ⟨rfl, rfl⟩)
theorem over : Rows.letterCheapestRow.holds Tryz.pinned (OpenSpec.ofChange Rows.letterCheapestSpec) :=
  OpenClaim.holds_of_wide 4 Tryz.f4 rfl rfl rfl rfl rfl rfl rfl ⟨rfl, rfl, rfl, rfl, rfl⟩ rfl rfl rfl rfl rfl named Tryz.func4 closed inst wrap
    (fun os started H enc _ => lifted os started H enc)
end Go.Proofs.YtkmbliojafefdaaGreatDoor.letterCheapest
