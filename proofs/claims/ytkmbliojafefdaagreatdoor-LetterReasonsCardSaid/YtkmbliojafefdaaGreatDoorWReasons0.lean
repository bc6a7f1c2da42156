import Derived.Test.YtkmbliojafefdaaGreatDoorWD6
import Derived.Laws.Concat
import Derived.Test.YtkmbliojafefdaaGreatDoorRows
import Derived.LaidMore
import Derived.Lay
import Derived.Stop.Joined
import Derived.Test.YtkmbliojafefdaaGreatDoorVReasons1

set_option autoImplicit false
set_option linter.unusedSimpArgs false
set_option linter.unusedVariables false
set_option maxRecDepth 100000
namespace Go.Proofs.YtkmbliojafefdaaGreatDoor
open Go.Sx
open Enc (enc val)
structure FgAt (a : List Fgn) (k : Nat) : Prop where
  ph : phonesOk [(nth a k).phone] 1 = true
  lt : 0 < k → sLt (nth a (k - 1)).phone (nth a k).phone = true
  l1 : 1 ≤ (nth a k).sl.length
  l5 : (nth a k).sl.length ≤ 5
  st : ∀ j, j < (nth a k).sl.length → phonesOk (nth (nth a k).sl j) 3 = true
theorem lt_asym {x y : ByteArray} (h : sLt y x = true) : sLt x y = false ∧ ¬ x = y := by
  refine ⟨?_, fun e => ?_⟩
  · cases h2 : sLt x y with
    | false => rfl
    | true => have := sLt_trans h h2; rw [sLt_irr] at this; cases this
  · subst e; rw [sLt_irr] at h; cases h
theorem lt_of {x y : ByteArray} (h : sLt x y = false ∧ ¬ x = y) : sLt y x = true := by
  rcases sLt_tri x y with h1 | h1 | h1
  · rw [h1] at h; cases h.1
  · exact absurd h1 h.2
  · exact h1
end Go.Proofs.YtkmbliojafefdaaGreatDoor

set_option autoImplicit false
set_option maxRecDepth 100000
namespace Go.Proofs.YtkmbliojafefdaaGreatDoor
open Go.Sx
open Enc (enc val)
def lawChc (r : Chc) : Bool := decide (r.tl.length ≤ 5) && lawPh r.pl 5
def lawLet (L : Let) : Bool := decide (L.rl.length ≤ 30) && L.rl.all lawChc
def lawBk (bl : List Let) : Bool := decide (bl.length ≤ 12) && bl.all lawLet
theorem all_no {α : Type} [Inhabited α] {p : α → Bool} {l : List α} {k : Nat} (hk : k < l.length) (h : p (nth l k) = false) : l.all p = false := by
  rw [List.all_eq_false]; exact ⟨_, nth_mem hk, by simp [h]⟩
theorem all_yes {α : Type} [Inhabited α] {p : α → Bool} {l : List α} (h : ∀ k, k < l.length → p (nth l k) = true) : l.all p = true := by
  rw [List.all_eq_true]
  intro x hx
  obtain ⟨k, hk, rfl⟩ := List.getElem_of_mem hx
  have := h k hk
  rwa [nth_get hk] at this
theorem lawBook_spec (b : Bk) (w : World) (hb : Stb w [] (BkIn b)) : Calls Tryz.prog 40 #[val b] w fun e w' => e = .returned (.bool (lawBk b.bl)) ∧ Cl w [] [] w' := by
  have hB := rd_stb hb.here.1
  have hL := rd_len hB.here
  refine calls_cw (vs := [_]) Tryz.func40 rfl Tryz.ntmps40 rfl (Cl.start0 w) (cw_seq (cw_region ?_))
  refine sw_x rfl rfl rfl (e_box rfl rfl rfl) (fun b1 => ?_)
  refine sr rfl rfl rfl ((q_assign rfl rfl)) (sw_nil (post_then (cw_seq (cw_seq (cw_region (sr rfl rfl rfl ((q_fieldAddr rfl rfl)) ?_))))))
  refine sr rfl rfl rfl ((q_loadC rfl rfl (by exact .head _) rfl)) ?_
  refine sr rfl rfl rfl ((q_len rfl (.cons rfl inferInstance (.nil)) (by exact fun w hw => Stb.cl (by assumption) hw))) ?_
  refine sr rfl rfl rfl ((q_gtr rfl rfl rfl)) (sw_nil (post_then ?_))
  refine cw_cond rfl (fun h => ?_) (fun h => ?_)
  · skip
    have e1 : lawBk b.bl = false := by unfold lawBk; rw [decide_eq_false (by simp at h; omega)]; rfl
    refine cw_seq (cw_region (sr rfl rfl rfl ((q_assign rfl rfl)) (sw_nil (post_then (cw_ret (post_then_r (post_ret1 rfl (resOk_tmp rfl) ?_)))))))
    exact fun w' hw => ⟨by rw [e1], (fun w h => Cl.sel (by exact .nil _) w h) _ hw⟩
  · skip
    refine cw_skip (post_then (cw_seq (cw_seq (cw_region (sr rfl rfl rfl ((q_assign rfl rfl)) (sw_nil (post_then (cw_block ?_))))))))
    refine cw_loop (S := Nat) (fun i => [(1, [], .pointer (some ⟨b1, 0, none⟩)), (3, [], .int .i64 i)]) (fun _ => Cl w [] [blk b1 [b.b.v] 45]) (fun i => i ≤ b.bl.length ∧ ∀ j, j < i → lawLet (nth b.bl j) = true) (fun i => b.bl.length - i) 0 ⟨by omega, fun j hj => by omega⟩ (by exact .cons rfl (.cons rfl .nil)) (fun w h => Cl.sel (by exact .take 0 rfl (.nil _)) w h) ?_
    rintro i ⟨hi, hbe⟩
    refine cw_seq (cw_seq (cw_region (sr rfl rfl rfl ((q_move rfl rfl)) (sr rfl rfl rfl ((q_fieldAddr rfl rfl)) ?_))))
    refine sr rfl rfl rfl ((q_loadC rfl rfl (by exact .head _) rfl)) ?_
    refine sr rfl rfl rfl ((q_len rfl (.cons rfl inferInstance (.nil)) (by exact fun w hw => Stb.cl (by assumption) hw))) ?_
    refine sr rfl rfl rfl ((q_lss rfl rfl rfl)) (sw_nil (post_then ?_))
    refine cw_cond rfl (fun h2 => ?_) (fun h2 => ?_)
    · skip
      have hi' : i < b.bl.length := by simp at h2; omega
      have hLi := hb.here.2 _ (nth_mem hi')
      have hR := rd_stb hLi.1
      have hRl := rd_len hR.here
      refine cw_skip (post_then (cw_seq (cw_block (cw_seq (cw_seq (cw_region (sr rfl rfl rfl ((q_fieldAddr rfl rfl)) ?_)))))))
      refine sr rfl rfl rfl ((q_loadC rfl rfl (by exact .head _) rfl)) ?_
      refine sr rfl rfl rfl ((q_move rfl rfl)) ?_
      refine sr rfl rfl rfl ((q_indexN rfl rfl rfl (by exact fun w hw => Stb.cl (by assumption) hw) (by intro hc; omega))) ?_
      refine sr rfl rfl rfl ((q_fieldEl rfl rfl (by exact fun w hw => Stb.cl (by assumption) hw) (by intro hc; omega))) ?_
      refine sr rfl rfl rfl ((q_loadF rfl rfl rfl (by exact fun w hw => Stb.cl (by assumption) hw) (by intro hc; omega) rfl)) ?_
      refine sr rfl rfl rfl ((q_len rfl (.cons rfl inferInstance (.nil)) (by exact fun w hw => Stb.cl (by assumption) hw))) ?_
      refine sr rfl rfl rfl ((q_gtr rfl rfl rfl)) (sw_nil (post_then ?_))
      refine cw_cond rfl (fun h3 => ?_) (fun h3 => ?_)
      · skip
        have e1 : lawBk b.bl = false := by
          unfold lawBk
          rw [all_no hi' (by unfold lawLet; rw [decide_eq_false (by simp at h3; omega)]; rfl)]; simp
        refine cw_seq (cw_region (sr rfl rfl rfl ((q_assign rfl rfl)) (sw_nil (post_then (cw_ret (post_then_r (post_blk_r (post_then_r (post_then_r (post_blk_r (post_then_r (post_ret1 rfl (resOk_tmp rfl) ?_))))))))))))
        exact fun w' hw => ⟨by rw [e1], (fun w h => Cl.sel (by exact .nil _) w h) _ hw⟩
      · skip
        have h30 : (nth b.bl i).rl.length ≤ 30 := by simp at h3; omega
        refine cw_skip (post_then (cw_seq (cw_region (sr rfl rfl rfl ((q_assign rfl rfl)) (sw_nil (post_then (cw_block ?_)))))))
        refine cw_loop (S := Nat) (fun j => [(1, [], .pointer (some ⟨b1, 0, none⟩)), (3, [], .int .i64 i), (4, [], .int .i64 j)]) (fun _ => Cl w [] [blk b1 [b.b.v] 45]) (fun j => j ≤ (nth b.bl i).rl.length ∧ ∀ k, k < j → lawChc (nth (nth b.bl i).rl k) = true) (fun j => (nth b.bl i).rl.length - j) 0 ⟨by omega, fun j hj => by omega⟩ (by exact .cons rfl (.cons rfl (.cons rfl .nil))) (fun w h => Cl.sel (by exact .take 0 rfl (.nil _)) w h) ?_
        rintro j ⟨hj, hbj⟩
        refine cw_seq (cw_seq (cw_region (sr rfl rfl rfl ((q_move rfl rfl)) (sr rfl rfl rfl ((q_fieldAddr rfl rfl)) ?_))))
        refine sr rfl rfl rfl ((q_loadC rfl rfl (by exact .head _) rfl)) ?_
        refine sr rfl rfl rfl ((q_move rfl rfl)) ?_
        refine sr rfl rfl rfl ((q_indexN rfl rfl rfl (by exact fun w hw => Stb.cl (by assumption) hw) (by intro hc; omega))) ?_
        refine sr rfl rfl rfl ((q_fieldEl rfl rfl (by exact fun w hw => Stb.cl (by assumption) hw) (by intro hc; omega))) ?_
        refine sr rfl rfl rfl ((q_loadF rfl rfl rfl (by exact fun w hw => Stb.cl (by assumption) hw) (by intro hc; omega) rfl)) ?_
        refine sr rfl rfl rfl ((q_len rfl (.cons rfl inferInstance (.nil)) (by exact fun w hw => Stb.cl (by assumption) hw))) ?_
        refine sr rfl rfl rfl ((q_lss rfl rfl rfl)) (sw_nil (post_then ?_))
        refine cw_cond rfl (fun h4 => ?_) (fun h4 => ?_)
        · skip
          have hj' : j < (nth b.bl i).rl.length := by simp at h4; omega
          have hC := hLi.2 _ (nth_mem hj')
          have hC1 := rd_stb hC.1
          have hC2 := rd_stb hC.2
          have hC1l := rd_len hC1.here
          refine cw_skip (post_then (cw_seq (cw_block (cw_seq (cw_region (sr rfl rfl rfl ((q_fieldAddr rfl rfl)) ?_))))))
          refine sr rfl rfl rfl ((q_loadC rfl rfl (by exact .head _) rfl)) ?_
          refine sr rfl rfl rfl ((q_move rfl rfl)) ?_
          refine sr rfl rfl rfl ((q_indexN rfl rfl rfl (by exact fun w hw => Stb.cl (by assumption) hw) (by intro hc; omega))) ?_
          refine sr rfl rfl rfl ((q_fieldEl rfl rfl (by exact fun w hw => Stb.cl (by assumption) hw) (by intro hc; omega))) ?_
          refine sr rfl rfl rfl ((q_loadF rfl rfl rfl (by exact fun w hw => Stb.cl (by assumption) hw) (by intro hc; omega) rfl)) ?_
          refine sr rfl rfl rfl ((q_move rfl rfl)) ?_
          refine sr rfl rfl rfl ((q_indexN rfl rfl rfl (by exact fun w hw => Stb.cl (by assumption) hw) (by intro hc; omega))) ?_
          refine sr rfl rfl rfl ((q_loadEl rfl rfl rfl (by exact fun w hw => Stb.cl (by assumption) hw) (by intro hc; omega))) ?_
          refine sw_x rfl rfl rfl (e_alloc rfl) (fun b5 => ?_)
          refine sw_eff0 rfl rfl (e_store (i := 0) rfl rfl rfl rfl rfl rfl rfl rfl) (sw_nil (post_then (cw_seq (cw_region (sr rfl rfl rfl ((q_fieldAddr rfl rfl)) ?_)))))
          refine sr rfl rfl rfl ((q_loadC rfl rfl (by exact .head _) rfl)) ?_
          refine sr rfl rfl rfl ((q_len rfl (.cons rfl inferInstance (.nil)) (by exact fun w hw => Stb.cl (by assumption) hw))) ?_
          refine sr rfl rfl rfl ((q_gtr rfl rfl rfl)) (sr rfl rfl rfl ((q_move rfl rfl)) (sr rfl rfl rfl ((q_fieldAddr rfl rfl)) ?_))
          refine sr rfl rfl rfl ((q_loadC rfl rfl (by exact .head _) rfl)) ?_
          refine sw_step rfl rfl rfl (q_call (CanCall.mk Tryz.call18) rfl (.cons rfl inferInstance (.cons rfl inferInstance (.nil))) (fun _ w hw => callq hw (lawPhones_spec _ _ _ (by omega) w (by exact stb_arg hw (by assumption))))) ?_
          refine sr rfl rfl rfl ((q_not rfl rfl)) (sr rfl rfl rfl ((q_or2 rfl rfl rfl)) (sw_nil (post_then ?_)))
          refine cw_cond rfl (fun h5 => ?_) (fun h5 => ?_)
          · skip
            have e1 : lawBk b.bl = false := by
              unfold lawBk
              rw [all_no hi' (by
                unfold lawLet
                rw [all_no hj' (by
                  unfold lawChc
                  cases hx : lawPh (nth (nth b.bl i).rl j).pl 5 with
                  | false => simp
                  | true => rw [hx] at h5; simp at h5; simp; omega)]
                simp)]
              simp
            refine cw_seq (cw_region (sr rfl rfl rfl ((q_assign rfl rfl)) (sw_nil (post_then (cw_ret (post_blk_r (post_then_r (post_then_r (post_blk_r (post_blk_r (post_then_r (post_then_r (post_blk_r (post_then_r (post_ret1 rfl (resOk_tmp rfl) ?_)))))))))))))))
            exact fun w' hw => ⟨by rw [e1], (fun w h => Cl.sel (by exact .nil _) w h) _ hw⟩
          · skip
            have e1 : lawChc (nth (nth b.bl i).rl j) = true := by
              unfold lawChc
              cases hx : lawPh (nth (nth b.bl i).rl j).pl 5 with
              | false => rw [hx] at h5; simp at h5
              | true => rw [hx] at h5; simp at h5; simp; omega
            refine cw_skip (post_blk (post_then (cw_region (sr rfl rfl rfl ((q_move rfl rfl)) ?_))))
            refine sr rfl rfl rfl ((q_add rfl rfl rfl (by intro hc; omega))) ?_
            refine sr rfl rfl rfl ((q_assign rfl rfl)) (sw_nil ?_)
            exact post_next (j + 1) (by exact .cons rfl (.cons rfl (.cons rfl .nil))) (fun w h => Cl.sel (by exact .take 1 rfl (.nil _)) w h) ⟨by omega, fun k hk => by
              rcases Nat.lt_or_ge k j with h6 | h6
              · exact hbj k h6
              · have : k = j := by omega
                subst this; exact e1⟩ (by omega)
        · skip
          have hj' : j = (nth b.bl i).rl.length := by simp at h4; omega
          subst hj'
          have e1 : lawLet (nth b.bl i) = true := by unfold lawLet; rw [all_yes hbj, decide_eq_true h30]; rfl
          refine cw_exit (post_then_x (post_then_x (post_blk_eq (post_blk (post_then (cw_region (sr rfl rfl rfl ((q_move rfl rfl)) ?_)))))))
          refine sr rfl rfl rfl ((q_add rfl rfl rfl (by intro hc; omega))) ?_
          refine sr rfl rfl rfl ((q_assign rfl rfl)) (sw_nil ?_)
          exact post_next (i + 1) (by exact .cons rfl (.cons rfl .nil)) (fun w h => Cl.sel (by exact .take 0 rfl (.nil _)) w h) ⟨by omega, fun k hk => by
            rcases Nat.lt_or_ge k i with h6 | h6
            · exact hbe k h6
            · have : k = i := by omega
              subst this; exact e1⟩ (by omega)
    · skip
      have hi' : i = b.bl.length := by simp at h2; omega
      subst hi'
      have e1 : lawBk b.bl = true := by unfold lawBk; rw [all_yes hbe, decide_eq_true (by simp at h; omega)]; rfl
      refine cw_exit (post_then_x (post_then_x (post_blk_eq (post_then (cw_seq (cw_region (sr rfl rfl rfl ((q_assign rfl rfl)) (sw_nil (post_then (cw_ret (post_ret1 rfl (resOk_tmp rfl) ?_)))))))))))
      exact fun w' hw => ⟨by rw [e1], (fun w h => Cl.sel (by exact .nil _) w h) _ hw⟩
theorem lawBk_small {bl : List Let} (h : lawBk bl = true) : ∀ L ∈ bl, ∀ r ∈ L.rl, ∀ p ∈ r.pl, p.size ≤ 12 := by
  intro L hL r hr p hp
  unfold lawBk lawLet lawChc lawPh at h
  simp only [Bool.and_eq_true, List.all_eq_true, decide_eq_true_eq] at h
  exact ((h.2 L hL).2 r hr).2.2 p hp
end Go.Proofs.YtkmbliojafefdaaGreatDoor

set_option autoImplicit false
set_option maxRecDepth 100000
namespace Go.Proofs.YtkmbliojafefdaaGreatDoor
open Go.Sx
open Enc (enc val)
def lawLex (l : List Sp) (most : Int) : Bool := !(decide (most < l.length) && decide (l.length ≤ 3000) || decide (3500 < l.length)) && l.all fun u => decide (u.word.size ≤ 60) && lawPh u.pl 130
theorem lawLex_spec (sv : Value) (l : List Sp) (most : Int) (hz : ∀ u ∈ l, u.word.size ≤ 9223372036854775807) (w : World) (hs : Stb w [] (RdL sv l)) (hp : Stb w [] fun w' => ∀ u ∈ l, SpIn u w') : Calls Tryz.prog 27 #[sv, .int .i64 most] w fun e w' => e = .returned (.bool (lawLex l most)) ∧ Cl w [] [] w' := by
  have hL := rd_len hs.here
  refine calls_cw (vs := [_, _]) Tryz.func27 rfl Tryz.ntmps27 rfl (Cl.start0 w) (cw_seq (cw_region (sr rfl rfl rfl ((q_assign rfl rfl)) (sw_nil (post_then (cw_seq (cw_seq (cw_region (sr rfl rfl rfl ((q_move rfl rfl)) ?_)))))))))
  refine sr rfl rfl rfl ((q_len rfl (.cons rfl inferInstance (.nil)) (by exact fun w hw => Stb.cl (by assumption) hw))) ?_
  refine sr rfl rfl rfl ((q_move rfl rfl)) (sr rfl rfl rfl ((q_gtr rfl rfl rfl)) (sr rfl rfl rfl ((q_move rfl rfl)) (sr rfl rfl rfl ((q_move rfl rfl)) ?_)))
  refine sr rfl rfl rfl ((q_len rfl (.cons rfl inferInstance (.nil)) (by exact fun w hw => Stb.cl (by assumption) hw))) ?_
  refine sr rfl rfl rfl ((q_leq rfl rfl rfl)) (sr rfl rfl rfl ((q_and2 rfl rfl rfl)) (sr rfl rfl rfl ((q_move rfl rfl)) (sr rfl rfl rfl ((q_move rfl rfl)) ?_)))
  refine sr rfl rfl rfl ((q_len rfl (.cons rfl inferInstance (.nil)) (by exact fun w hw => Stb.cl (by assumption) hw))) ?_
  refine sr rfl rfl rfl ((q_gtr rfl rfl rfl)) (sr rfl rfl rfl ((q_or2 rfl rfl rfl)) (sw_nil (post_then ?_)))
  refine cw_cond rfl (fun h => ?_) (fun h => ?_)
  · skip
    have e1 : lawLex l most = false := by
      unfold lawLex
      simp at h
      rcases h with h | h
      · rw [decide_eq_true (by omega : most < l.length), decide_eq_true (by omega : l.length ≤ 3000)]; simp
      · rw [decide_eq_true (by omega : 3500 < l.length)]; simp
    refine cw_seq (cw_region (sr rfl rfl rfl ((q_assign rfl rfl)) (sw_nil (post_then (cw_ret (post_then_r (post_ret1 rfl (resOk_tmp rfl) ?_)))))))
    exact fun w' hw => ⟨by rw [e1], (fun w h => Cl.sel (by exact .nil _) w h) _ hw⟩
  · skip
    have e0 : (!(decide (most < l.length) && decide (l.length ≤ 3000) || decide (3500 < l.length))) = true := by
      simp at h
      simp; omega
    refine cw_skip (post_then (cw_seq (cw_seq (cw_region (sr rfl rfl rfl ((q_assign rfl rfl)) (sw_nil (post_then (cw_block ?_))))))))
    refine cw_loop (S := Nat) (fun k => [(0, [], sv), (5, [], .int .i64 k)]) (fun _ => Cl w [] []) (fun k => k ≤ l.length ∧ ∀ i, i < k → (decide ((nth l i).word.size ≤ 60) && lawPh (nth l i).pl 130) = true) (fun k => l.length - k) 0 ⟨by omega, fun j hj => by omega⟩ (by exact .cons rfl (.cons rfl .nil)) (fun w h => Cl.sel (by exact .nil _) w h) ?_
    rintro k ⟨hk, hbe⟩
    refine cw_seq (cw_seq (cw_region (sr rfl rfl rfl ((q_move rfl rfl)) (sr rfl rfl rfl ((q_move rfl rfl)) ?_))))
    refine sr rfl rfl rfl ((q_len rfl (.cons rfl inferInstance (.nil)) (by exact fun w hw => Stb.cl (by assumption) hw))) ?_
    refine sr rfl rfl rfl ((q_lss rfl rfl rfl)) (sw_nil (post_then ?_))
    refine cw_cond rfl (fun h2 => ?_) (fun h2 => ?_)
    · skip
      have hk' : k < l.length := by simp at h2; omega
      have hx := rd_stb (hp.here _ (nth_mem hk'))
      have hzk := hz _ (nth_mem hk')
      refine cw_skip (post_then (cw_seq (cw_block (cw_seq (cw_region (sr rfl rfl rfl ((q_move rfl rfl)) (sr rfl rfl rfl ((q_move rfl rfl)) ?_)))))))
      refine sr rfl rfl rfl ((q_indexN rfl rfl rfl (by exact fun w hw => Stb.cl (by assumption) hw) (by intro hc; omega))) ?_
      refine sr rfl rfl rfl ((q_fieldEl rfl rfl (by exact fun w hw => Stb.cl (by assumption) hw) (by intro hc; omega))) ?_
      refine sr rfl rfl rfl ((q_loadF rfl rfl rfl (by exact fun w hw => Stb.cl (by assumption) hw) (by intro hc; omega) rfl)) ?_
      refine sr rfl rfl rfl ((q_lenS rfl (.cons rfl inferInstance (.nil)) Tryz.underlying9)) (sr rfl rfl rfl ((q_gtr rfl rfl rfl)) (sr rfl rfl rfl ((q_move rfl rfl)) (sr rfl rfl rfl ((q_move rfl rfl)) (sr rfl rfl rfl ((q_move rfl rfl)) ?_))))
      refine sr rfl rfl rfl ((q_indexN rfl rfl rfl (by exact fun w hw => Stb.cl (by assumption) hw) (by intro hc; omega))) ?_
      refine sr rfl rfl rfl ((q_fieldEl rfl rfl (by exact fun w hw => Stb.cl (by assumption) hw) (by intro hc; omega))) ?_
      refine sr rfl rfl rfl ((q_loadF rfl rfl rfl (by exact fun w hw => Stb.cl (by assumption) hw) (by intro hc; omega) rfl)) ?_
      refine sw_step rfl rfl rfl (q_call (CanCall.mk Tryz.call18) rfl (.cons rfl inferInstance (.cons rfl inferInstance (.nil))) (fun _ w hw => callq hw (lawPhones_spec _ _ _ (by omega) w (by exact stb_arg hw (by assumption))))) ?_
      refine sr rfl rfl rfl ((q_not rfl rfl)) (sr rfl rfl rfl ((q_or2 rfl rfl rfl)) (sw_nil (post_then ?_)))
      refine cw_cond rfl (fun h3 => ?_) (fun h3 => ?_)
      · skip
        have e1 : lawLex l most = false := by
          unfold lawLex
          rw [all_no hk' (by
            cases q1 : lawPh (nth l k).pl 130 <;> simp [q1] at h3 ⊢; omega)]
          simp
        refine cw_seq (cw_region (sr rfl rfl rfl ((q_assign rfl rfl)) (sw_nil (post_then (cw_ret (post_blk_r (post_then_r (post_then_r (post_blk_r (post_then_r (post_ret1 rfl (resOk_tmp rfl) ?_)))))))))))
        exact fun w' hw => ⟨by rw [e1], (fun w h => Cl.sel (by exact .nil _) w h) _ hw⟩
      · skip
        have e1 : (decide ((nth l k).word.size ≤ 60) && lawPh (nth l k).pl 130) = true := by
          cases q1 : lawPh (nth l k).pl 130 <;> simp [q1] at h3 ⊢; omega
        refine cw_skip (post_blk (post_then (cw_region (sr rfl rfl rfl ((q_move rfl rfl)) ?_))))
        refine sr rfl rfl rfl ((q_add rfl rfl rfl (by intro hc; omega))) ?_
        refine sr rfl rfl rfl ((q_assign rfl rfl)) (sw_nil ?_)
        exact post_next (k + 1) (by exact .cons rfl (.cons rfl .nil)) (fun w h => Cl.sel (by exact .nil _) w h) ⟨by omega, fun i hi => by
          rcases Nat.lt_or_ge i k with h6 | h6
          · exact hbe i h6
          · have : i = k := by omega
            subst this; exact e1⟩ (by omega)
    · skip
      have hk' : k = l.length := by simp at h2; omega
      subst hk'
      have e1 : lawLex l most = true := by unfold lawLex; rw [all_yes hbe, e0]; rfl
      refine cw_exit (post_then_x (post_then_x (post_blk_eq (post_then (cw_seq (cw_region (sr rfl rfl rfl ((q_assign rfl rfl)) (sw_nil (post_then (cw_ret (post_ret1 rfl (resOk_tmp rfl) ?_)))))))))))
      exact fun w' hw => ⟨by rw [e1], (fun w h => Cl.sel (by exact .nil _) w h) _ hw⟩
theorem lawLex_z {l : List Sp} {most : Int} (h : lawLex l most = true) : ∀ u ∈ l, u.word.size ≤ 60 ∧ u.pl.length ≤ 130 ∧ ∀ b ∈ u.pl, b.size ≤ 12 := fun u hu => by
  unfold lawLex lawPh at h
  simp only [Bool.and_eq_true, List.all_eq_true, decide_eq_true_eq] at h
  have := h.2 u hu
  exact ⟨this.1, by omega, this.2.2⟩
structure PrAt (p : List Pr) (k : Nat) : Prop where
  ok : prOk (nth p k) = true
  lt : 0 < k → (nth p (k - 1)).c < (nth p k).c ∨ (nth p (k - 1)).c = (nth p k).c ∧ ordL (nth p (k - 1)).pl (nth p k).pl < 0
def lexOk (l : List Sp) : Bool := riseB spC l && l.all spOk
structure SpAt (l : List Sp) (k : Nat) : Prop where
  ok : spOk (nth l k) = true
  lt : 0 < k → sLt (nth l (k - 1)).word (nth l k).word = true
theorem lex_iff {l : List Sp} : lexOk l = true ↔ ∀ k, k < l.length → SpAt l k := by
  unfold lexOk
  simp only [Bool.and_eq_true, List.all_eq_true]
  constructor
  · intro ⟨h1, h2⟩ k hk
    exact ⟨h2 _ (nth_mem hk), fun h0 => cmpS_neg.1 (riseB_yes.1 h1 k (by omega) hk)⟩
  · intro h
    refine ⟨riseB_yes.2 fun k h1 h2 => cmpS_neg.2 ((h k h2).lt (by omega)), fun L hL => ?_⟩
    obtain ⟨k, hk, rfl⟩ := List.getElem_of_mem hL
    rw [← nth_get hk]
    exact (h k hk).ok
theorem refLexicon_spec (sv : Value) (l : List Sp) (hz : ∀ u ∈ l, u.word.size ≤ 1000 ∧ ∀ b ∈ u.pl, b.size ≤ 9223372036854775807) (w : World) (hT : Stb w [] Tab) (hs : Stb w [] (RdL sv l)) (hp : Stb w [] fun w' => ∀ u ∈ l, SpIn u w') : Calls Tryz.prog 51 #[sv] w fun e w' => e = .returned (.bool (lexOk l)) ∧ Cl w [] [] w' := by
  have hL := rd_len hs.here
  refine calls_cw (vs := [_]) Tryz.func51 rfl Tryz.ntmps51 rfl (Cl.start0 w) (cw_seq (cw_region (sr rfl rfl rfl ((q_assign rfl rfl)) (sw_nil (post_then (cw_seq (cw_seq (cw_region (sr rfl rfl rfl ((q_assign rfl rfl)) (sw_nil (post_then (cw_block ?_))))))))))))
  refine cw_loop (S := Nat) (fun k => [(0, [], sv), (3, [], .int .i64 k)]) (fun _ => Cl w [] []) (fun k => k ≤ l.length ∧ ∀ j, j < k → SpAt l j) (fun k => l.length - k) 0 ⟨by omega, fun j hj => by omega⟩ (by exact .cons rfl (.cons rfl .nil)) (fun w h => Cl.sel (by exact .nil _) w h) ?_
  rintro k ⟨hk, hbe⟩
  refine cw_seq (cw_seq (cw_region (sr rfl rfl rfl ((q_move rfl rfl)) (sr rfl rfl rfl ((q_move rfl rfl)) ?_))))
  refine sr rfl rfl rfl ((q_len rfl (.cons rfl inferInstance (.nil)) (by exact fun w hw => Stb.cl (by assumption) hw))) ?_
  refine sr rfl rfl rfl ((q_lss rfl rfl rfl)) (sw_nil (post_then ?_))
  refine cw_cond rfl (fun h => ?_) (fun h => ?_)
  · skip
    have hk' : k < l.length := by simp at h; omega
    have hno : ¬ SpAt l k → lexOk l = false := fun hn => by
      cases hx : lexOk l with
      | false => rfl
      | true => exact absurd (lex_iff.1 hx k hk') hn
    have e1 : 0 < k → ((k : Int) - 1).toNat = k - 1 := fun h0 => by omega
    have hx := rd_stb (hp.here _ (nth_mem hk'))
    obtain ⟨hzw, hzk⟩ := hz _ (nth_mem hk')
    refine cw_skip (post_then (cw_seq (cw_block (cw_seq (cw_region (sr rfl rfl rfl ((q_move rfl rfl)) (sr rfl rfl rfl ((q_move rfl rfl)) ?_)))))))
    refine sr rfl rfl rfl ((q_indexN rfl rfl rfl (by exact fun w hw => Stb.cl (by assumption) hw) (by intro hc; omega))) ?_
    refine sr rfl rfl rfl ((q_fieldEl rfl rfl (by exact fun w hw => Stb.cl (by assumption) hw) (by intro hc; omega))) ?_
    refine sr rfl rfl rfl ((q_loadF rfl rfl rfl (by exact fun w hw => Stb.cl (by assumption) hw) (by intro hc; omega) rfl)) ?_
    refine sw_x rfl rfl rfl (e_call (CanCall.mk Tryz.call21) rfl (.cons rfl inferInstance (.nil)) (fun w hw => refLetters_spec _ w (by omega) (stb_arg hw (by assumption)))) (fun x18 => ?_)
    refine sw_imp (fun hx18 => ?_)
    refine sr rfl rfl rfl ((q_move rfl rfl)) (sr rfl rfl rfl ((q_extract rfl rfl rfl)) (sr rfl rfl rfl ((q_extract rfl rfl rfl)) (sr rfl rfl rfl ((q_assign rfl rfl)) (sr rfl rfl rfl ((q_assign rfl rfl)) (sw_nil (post_then (cw_seq ?_)))))))
    refine cw_region_q mixed_Tryz (by kernel_rfl) ?_
    refine qr rfl rfl rfl ((q_move rfl rfl)) (qr rfl rfl rfl ((q_not rfl rfl)) (qr rfl rfl rfl ((q_move rfl rfl)) (qr rfl rfl rfl ((q_move rfl rfl)) (qr rfl rfl rfl ((q_move rfl rfl)) ?_))))
    refine qr rfl rfl rfl ((q_indexN rfl rfl rfl (by exact fun w hw => Stb.cl (by assumption) hw) (by intro hc; omega))) ?_
    refine qr rfl rfl rfl ((q_fieldEl rfl rfl (by exact fun w hw => Stb.cl (by assumption) hw) (by intro hc; omega))) ?_
    refine qr rfl rfl rfl ((q_loadF rfl rfl rfl (by exact fun w hw => Stb.cl (by assumption) hw) (by intro hc; omega) rfl)) ?_
    refine qw_step rfl rfl rfl (q_call (CanCall.mk Tryz.call23) rfl (.cons rfl inferInstance (.cons rfl inferInstance (.nil))) (fun _ w hw => callq hw (refPhones_spec _ _ _ w (by exact stb_arg hw (by assumption)) (by assumption)))) ?_
    refine qr rfl rfl rfl ((q_not rfl rfl)) (qr rfl rfl rfl ((q_or2 rfl rfl rfl)) (qr rfl rfl rfl ((q_move rfl rfl)) (qr rfl rfl rfl ((q_move rfl rfl)) (qr rfl rfl rfl ((q_gtr rfl rfl rfl)) (qr rfl rfl rfl ((q_move rfl rfl)) (qr rfl rfl rfl ((q_move rfl rfl)) (qr rfl rfl rfl ((q_move rfl rfl)) ?_)))))))
    refine qr rfl rfl rfl ((q_indexN rfl rfl rfl (by exact fun w hw => Stb.cl (by assumption) hw) (by intro hc; omega))) ?_
    refine qr rfl rfl rfl ((q_fieldEl rfl rfl (by exact fun w hw => Stb.cl (by assumption) hw) (by intro hc; omega))) ?_
    refine qr rfl rfl rfl ((q_loadF rfl rfl rfl (by exact fun w hw => Stb.cl (by assumption) hw) (by intro hc; omega) rfl)) ?_
    refine qr rfl rfl rfl ((q_move rfl rfl)) (qr rfl rfl rfl ((q_move rfl rfl)) ?_)
    refine qr rfl rfl rfl ((q_sub rfl rfl rfl (by intro hc; omega))) ?_
    refine qr rfl rfl rfl ((q_index rfl rfl rfl (by exact fun w hw => Stb.cl (by assumption) hw) (by intro hc; (simp only [AllT.iff, List.all_cons, List.all_nil, id, Bool.and_eq_true, Bool.not_eq_true', decide_eq_true_eq, decide_eq_false_iff_not, and_true] at hc; omega)))) ?_
    refine qr rfl rfl rfl ((q_fieldEl rfl rfl (by exact fun w hw => Stb.cl (by assumption) hw) (by intro hc; omega))) ?_
    refine qr rfl rfl rfl ((q_loadF rfl rfl rfl (by exact fun w hw => Stb.cl (by assumption) hw) (by intro hc; omega) rfl)) ?_
    refine qr rfl rfl rfl ((q_leqStr rfl rfl rfl Tryz.underlying9)) (qr rfl rfl rfl ((q_and2 rfl rfl rfl)) (qr rfl rfl rfl ((q_or2 rfl rfl rfl)) (qw_end (post_then ?_))))
    refine cw_cond rfl (fun h2 => ?_) (fun h2 => ?_)
    · skip
      have hf : lexOk l = false := hno fun hh => by
        have f1 := hh.ok
        unfold spOk at f1
        simp only [Bool.and_eq_true] at f1
        by_cases hk0 : 0 < k
        · have f2 := hh.lt hk0
          rw [e1 hk0] at h2
          have f6 := lt_asym f2
          simp [f1, f6, hk0] at h2
        · have hk1 : k = 0 := by omega
          subst hk1
          simp [f1] at h2
      refine cw_seq (cw_region (sr rfl rfl rfl ((q_assign rfl rfl)) (sw_nil (post_then (cw_ret (post_blk_r (post_then_r (post_then_r (post_blk_r (post_then_r (post_ret1 rfl (resOk_tmp rfl) ?_)))))))))))
      exact fun w' hw => ⟨by rw [hf], (fun w h => Cl.sel (by exact .nil _) w h) _ hw⟩
    · skip
      have h9 : SpAt l k := by
        by_cases hk0 : 0 < k
        · rw [e1 hk0] at h2
          simp [hk0] at h2
          exact ⟨by unfold spOk; rw [h2.1.1, h2.1.2]; rfl, fun _ => lt_of h2.2⟩
        · have hk1 : k = 0 := by omega
          subst hk1
          simp at h2
          exact ⟨by unfold spOk; rw [h2.1, h2.2]; rfl, fun _ => by omega⟩
      refine cw_skip (post_blk (post_then (cw_region (sr rfl rfl rfl ((q_move rfl rfl)) ?_))))
      refine sr rfl rfl rfl ((q_add rfl rfl rfl (by intro hc; omega))) ?_
      refine sr rfl rfl rfl ((q_assign rfl rfl)) (sw_nil ?_)
      exact post_next (k + 1) (by exact .cons rfl (.cons rfl .nil)) (fun w h => Cl.sel (by exact .nil _) w h) ⟨by omega, fun i hi => by
        rcases Nat.lt_or_ge i k with h6 | h6
        · exact hbe i h6
        · have : i = k := by omega
          subst this; exact h9⟩ (by omega)
  · skip
    have hk' : k = l.length := by simp at h; omega
    subst hk'
    have hf : lexOk l = true := lex_iff.2 hbe
    refine cw_exit (post_then_x (post_then_x (post_blk_eq (post_then (cw_seq (cw_region (sr rfl rfl rfl ((q_assign rfl rfl)) (sw_nil (post_then (cw_ret (post_ret1 rfl (resOk_tmp rfl) ?_)))))))))))
    exact fun w' hw => ⟨by rw [hf], (fun w h => Cl.sel (by exact .nil _) w h) _ hw⟩
end Go.Proofs.YtkmbliojafefdaaGreatDoor

set_option autoImplicit false
set_option linter.unusedSectionVars false
namespace Go.Proofs.YtkmbliojafefdaaGreatDoor
section
variable (ok : Nat → Nat → Bool) (n : Nat)
/-- The least 1 + f k for an entry from i to k, k from i + 1 to i + c; -1: none. -/
def bestK (f : Nat → Int) (i : Nat) : Nat → Int
  | 0 => -1
  | c + 1 => if ok i (i + (c + 1)) = true ∧ 0 ≤ f (i + (c + 1)) ∧ (bestK f i c < 0 ∨ 1 + f (i + (c + 1)) < bestK f i c) then 1 + f (i + (c + 1)) else bestK f i c
/-- The least numbers of parts from n - q on, one behind the other. -/
def partsT : Nat → List Int
  | 0 => [0]
  | q + 1 => bestK ok (fun k => ((partsT q)[k - (n - q)]?).getD 0) (n - (q + 1)) (q + 1) :: partsT q
def partsD (i : Nat) : Int := ((partsT ok n (n - i))[0]?).getD 0
variable {ok n}
theorem partsT_at : ∀ {q j : Nat}, q ≤ n → j ≤ q → ((partsT ok n q)[j]?).getD 0 = partsD ok n (n - q + j)
  | 0, j, hq, hj => by
    have : j = 0 := by omega
    subst this
    unfold partsD
    rw [show n - (n - 0 + 0) = 0 by omega]
  | q + 1, 0, hq, hj => by
    unfold partsD
    rw [show n - (n - (q + 1) + 0) = q + 1 by omega]
  | q + 1, j + 1, hq, hj => by
    have := partsT_at (q := q) (j := j) (by omega) (by omega)
    rw [show n - (q + 1) + (j + 1) = n - q + j by omega, ← this]
    simp [partsT]
theorem partsD_end : partsD ok n n = 0 := by unfold partsD; rw [Nat.sub_self]; rfl
theorem bestK_congr {f g : Nat → Int} {i : Nat} : ∀ {c : Nat}, (∀ k, i < k → k ≤ i + c → f k = g k) → bestK ok f i c = bestK ok g i c
  | 0, _ => rfl
  | c + 1, h => by
    have h1 := bestK_congr (f := f) (g := g) (c := c) fun k a b => h k a (by omega)
    unfold bestK
    rw [h1, h (i + (c + 1)) (by omega) (by omega)]
theorem partsD_step {i : Nat} (h : i < n) : partsD ok n i = bestK ok (partsD ok n) i (n - i) := by
  obtain ⟨q, hq⟩ : ∃ q, n - i = q + 1 := ⟨n - i - 1, by omega⟩
  have hi : i = n - (q + 1) := by omega
  unfold partsD
  rw [hq]
  rw [partsT]
  simp only [List.getElem?_cons_zero, Option.getD_some]
  rw [← hi]
  refine bestK_congr fun k a b => ?_
  have := partsT_at (ok := ok) (n := n) (q := q) (j := k - (n - q)) (by omega) (by omega)
  rw [show n - q + (k - (n - q)) = k by omega] at this
  exact this
/-- What bestK is. -/
theorem bestK_spec {f : Nat → Int} {i : Nat} : ∀ c, (bestK ok f i c = -1 ∧ ∀ k, i < k → k ≤ i + c → ok i k = true → f k < 0) ∨ ∃ k, i < k ∧ k ≤ i + c ∧ ok i k = true ∧ 0 ≤ f k ∧ bestK ok f i c = 1 + f k ∧ ∀ k', i < k' → k' ≤ i + c → ok i k' = true → 0 ≤ f k' → bestK ok f i c ≤ 1 + f k'
  | 0 => .inl ⟨rfl, fun k a b => by omega⟩
  | c + 1 => by
    unfold bestK
    split
    · rename_i h
      refine .inr ⟨i + (c + 1), by omega, Nat.le_refl _, h.1, h.2.1, rfl, fun k' a b h2 h3 => ?_⟩
      rcases Nat.lt_or_ge k' (i + (c + 1)) with h4 | h4
      · rcases bestK_spec (f := f) (i := i) c with ⟨h5, h6⟩ | ⟨k, h5, h6, h7, h8, h9, h10⟩
        · have := h6 k' a (by omega) h2; omega
        · have := h10 k' a (by omega) h2 h3; omega
      · have : k' = i + (c + 1) := by omega
        subst this; exact Int.le_refl _
    · rename_i h
      rcases bestK_spec (f := f) (i := i) c with ⟨h5, h6⟩ | ⟨k, h5, h6, h7, h8, h9, h10⟩
      · refine .inl ⟨h5, fun k a b h2 => ?_⟩
        rcases Nat.lt_or_ge k (i + (c + 1)) with h4 | h4
        · exact h6 k a (by omega) h2
        · have : k = i + (c + 1) := by omega
          subst this
          rcases Int.lt_or_le (f (i + (c + 1))) 0 with h7 | h7
          · exact h7
          · exact absurd ⟨h2, h7, .inl (by omega)⟩ h
      · refine .inr ⟨k, h5, by omega, h7, h8, h9, fun k' a b h2 h3 => ?_⟩
        rcases Nat.lt_or_ge k' (i + (c + 1)) with h4 | h4
        · exact h10 k' a (by omega) h2 h3
        · have : k' = i + (c + 1) := by omega
          subst this
          rcases Int.lt_or_le (1 + f (i + (c + 1))) (bestK ok f i c) with h11 | h11
          · exact absurd ⟨h2, h3, .inr h11⟩ h
          · exact h11
variable (ok) in
/-- The program's way: from lim down; the least number (0: none) and the end of the first part. -/
def bestD (f : Nat → Int) (i lim : Nat) : Nat → Int × Nat
  | 0 => (0, 0)
  | c + 1 => if ok i (lim - c) = true ∧ 0 ≤ f (lim - c) ∧ ((bestD f i lim c).1 = 0 ∨ 1 + f (lim - c) < (bestD f i lim c).1) then (1 + f (lim - c), lim - c) else bestD f i lim c
theorem bestD_spec {f : Nat → Int} {i lim : Nat} : ∀ c, c + i ≤ lim → (bestD ok f i lim c = (0, 0) ∧ ∀ k, lim - c < k → k ≤ lim → ok i k = true → f k < 0) ∨ ∃ k, lim - c < k ∧ k ≤ lim ∧ ok i k = true ∧ 0 ≤ f k ∧ bestD ok f i lim c = (1 + f k, k) ∧ (∀ k', lim - c < k' → k' ≤ lim → ok i k' = true → 0 ≤ f k' → 1 + f k ≤ 1 + f k') ∧ ∀ k', k < k' → k' ≤ lim → ok i k' = true → 0 ≤ f k' → 1 + f k < 1 + f k'
  | 0, _ => .inl ⟨rfl, fun k a b => by omega⟩
  | c + 1, hc => by
    have ih := bestD_spec (f := f) (i := i) (lim := lim) c (by omega)
    unfold bestD
    split
    · rename_i h
      refine .inr ⟨lim - c, by omega, by omega, h.1, h.2.1, rfl, fun k' a b h2 h3 => ?_, fun k' a b h2 h3 => ?_⟩
      · rcases Nat.lt_or_ge (lim - c) k' with h4 | h4
        · rcases ih with ⟨h5, h6⟩ | ⟨k, h5, h6, h7, h8, h9, h10, h11⟩
          · have := h6 k' h4 b h2; omega
          · have := h10 k' h4 b h2 h3
            rw [h9] at h
            simp only at h
            omega
        · have : k' = lim - c := by omega
          subst this; exact Int.le_refl _
      · rcases ih with ⟨h5, h6⟩ | ⟨k, h5, h6, h7, h8, h9, h10, h11⟩
        · have := h6 k' a b h2; omega
        · have := h10 k' a b h2 h3
          rw [h9] at h
          simp only at h
          omega
    · rename_i h
      rcases ih with ⟨h5, h6⟩ | ⟨k, h5, h6, h7, h8, h9, h10, h11⟩
      · refine .inl ⟨h5, fun k a b h2 => ?_⟩
        rcases Nat.lt_or_ge (lim - c) k with h4 | h4
        · exact h6 k h4 b h2
        · have : k = lim - c := by omega
          subst this
          rcases Int.lt_or_le (f (lim - c)) 0 with h7 | h7
          · exact h7
          · exact absurd ⟨h2, h7, .inl (by rw [h5])⟩ h
      · refine .inr ⟨k, by omega, h6, h7, h8, h9, fun k' a b h2 h3 => ?_, h11⟩
        rcases Nat.lt_or_ge (lim - c) k' with h4 | h4
        · exact h10 k' h4 b h2 h3
        · have : k' = lim - c := by omega
          subst this
          rcases Int.lt_or_le (1 + f (lim - c)) (1 + f k) with h12 | h12
          · exact absurd ⟨h2, h3, .inr (by rw [h9]; exact h12)⟩ h
          · exact h12
/-- The same number both ways. -/
theorem best_same {f : Nat → Int} {i c : Nat} : (bestD ok f i (i + c) c).1 = (if bestK ok f i c < 0 then 0 else bestK ok f i c) ∧ (0 ≤ bestK ok f i c → i < (bestD ok f i (i + c) c).2 ∧ (bestD ok f i (i + c) c).2 ≤ i + c ∧ ok i (bestD ok f i (i + c) c).2 = true ∧ 0 ≤ f (bestD ok f i (i + c) c).2 ∧ 1 + f (bestD ok f i (i + c) c).2 = bestK ok f i c ∧ ∀ k', (bestD ok f i (i + c) c).2 < k' → k' ≤ i + c → ok i k' = true → 0 ≤ f k' → bestK ok f i c < 1 + f k') := by
  have hd := bestD_spec (ok := ok) (f := f) (i := i) (lim := i + c) c (by omega)
  have hk := bestK_spec (ok := ok) (f := f) (i := i) c
  rw [show i + c - c = i by omega] at hd
  rcases hd with ⟨h1, h2⟩ | ⟨k, h1, h2, h3, h4, h5, h6, h7⟩
  · rcases hk with ⟨g1, g2⟩ | ⟨k, g1, g2, g3, g4, g5, g6⟩
    · rw [h1, g1]
      exact ⟨rfl, fun h => absurd h (by decide)⟩
    · have := h2 k g1 g2 g3; omega
  · rcases hk with ⟨g1, g2⟩ | ⟨k2, g1, g2, g3, g4, g5, g6⟩
    · have := g2 k h1 h2 h3; omega
    · have a1 := g6 k h1 h2 h3 h4
      have a2 := h6 k2 g1 g2 g3 g4
      have a3 : bestK ok f i c = 1 + f k := by omega
      rw [h5, if_neg (by omega), a3]
      exact ⟨rfl, fun _ => ⟨h1, h2, h3, h4, rfl, h7⟩⟩
theorem bestK_bd {f : Nat → Int} {i : Nat} {B : Int} {c : Nat} (hB : 0 ≤ B) (h : ∀ k, i < k → k ≤ i + c → f k ≤ B) : -1 ≤ bestK ok f i c ∧ bestK ok f i c ≤ 1 + B := by
  rcases bestK_spec (ok := ok) (f := f) (i := i) c with ⟨g1, g2⟩ | ⟨k, g1, g2, g3, g4, g5, g6⟩
  · omega
  · have := h k g1 g2; omega
theorem partsD_bd : ∀ {q i : Nat}, i ≤ n → n - i ≤ q → -1 ≤ partsD ok n i ∧ partsD ok n i ≤ ((n - i : Nat) : Int)
  | q, i, hi, hq => by
    induction q generalizing i with
    | zero =>
      have : i = n := by omega
      subst this
      rw [partsD_end]; omega
    | succ q ih =>
      by_cases h : i < n
      · rw [partsD_step h]
        have := bestK_bd (ok := ok) (f := partsD ok n) (i := i) (B := ((n - i - 1 : Nat) : Int)) (c := n - i) (by omega) fun k a b => by
          have := (ih (i := k) (by omega) (by omega)).2; omega
        omega
      · have : i = n := by omega
        subst this
        rw [partsD_end]; omega
variable (ok n) in
def splV (i : Nat) : Int := if i = 0 then bestK ok (partsD ok n) 0 (n - 1) else partsD ok n i
variable (ok n) in
def splX (i : Nat) : Nat := if i = 0 then (bestD ok (partsD ok n) 0 (n - 1) (n - 1)).2 else (bestD ok (partsD ok n) i n (n - i)).2
variable (ok n) in
def splP : Nat → Nat → List (Nat × Nat)
  | 0, _ => []
  | f + 1, i => if i < n then (i, splX ok n i) :: splP f (splX ok n i) else []
theorem splV_pos {i : Nat} (h : 0 < i) : splV ok n i = partsD ok n i := by unfold splV; rw [if_neg (by omega)]
theorem splX_spec {i : Nat} (hi : i < n) (h : 0 ≤ splV ok n i) : i < splX ok n i ∧ splX ok n i ≤ n ∧ (i = 0 → splX ok n i < n) ∧ ok i (splX ok n i) = true ∧ 0 ≤ splV ok n (splX ok n i) ∧ 1 + splV ok n (splX ok n i) = splV ok n i ∧ ∀ k', splX ok n i < k' → k' ≤ n → ¬ (i = 0 ∧ k' = n) → ok i k' = true → 0 ≤ partsD ok n k' → splV ok n i < 1 + partsD ok n k' := by
  unfold splV at h
  by_cases h0 : i = 0
  · subst h0
    rw [if_pos rfl] at h
    have := (best_same (ok := ok) (f := partsD ok n) (i := 0) (c := n - 1)).2 h
    rw [Nat.zero_add] at this
    have e1 : splX ok n 0 = (bestD ok (partsD ok n) 0 (n - 1) (n - 1)).2 := by unfold splX; rw [if_pos rfl]
    have e2 : splV ok n 0 = bestK ok (partsD ok n) 0 (n - 1) := by unfold splV; rw [if_pos rfl]
    rw [← e1, ← e2] at this
    obtain ⟨a1, a2, a3, a4, a5, a6⟩ := this
    rw [splV_pos a1]
    exact ⟨a1, by omega, fun _ => by omega, a3, a4, a5, fun k' b1 b2 b3 b4 b5 => a6 k' b1 (by omega) b4 b5⟩
  · rw [if_neg h0, partsD_step hi] at h
    have := (best_same (ok := ok) (f := partsD ok n) (i := i) (c := n - i)).2 h
    rw [show i + (n - i) = n by omega] at this
    have e1 : splX ok n i = (bestD ok (partsD ok n) i n (n - i)).2 := by unfold splX; rw [if_neg h0]
    have e2 : splV ok n i = bestK ok (partsD ok n) i (n - i) := by unfold splV; rw [if_neg h0, partsD_step hi]
    rw [← e1, ← e2] at this
    obtain ⟨a1, a2, a3, a4, a5, a6⟩ := this
    rw [splV_pos (by omega : 0 < splX ok n i)]
    exact ⟨a1, a2, fun h => absurd h h0, a3, a4, a5, fun k' b1 b2 b3 b4 b5 => a6 k' b1 b2 b4 b5⟩
theorem splP_fuel : ∀ (f g i : Nat), n - i ≤ f → n - i ≤ g → 0 ≤ splV ok n i → splP ok n f i = splP ok n g i
  | 0, 0, _, _, _, _ => rfl
  | 0, g + 1, i, h, _, _ => by simp [splP, show ¬ i < n by omega]
  | f + 1, 0, i, _, h, _ => by simp [splP, show ¬ i < n by omega]
  | f + 1, g + 1, i, h, h', h0 => by
    unfold splP
    by_cases hi : i < n
    · obtain ⟨a1, a2, a3, a4, a5, a6, a7⟩ := splX_spec hi h0
      rw [if_pos hi, if_pos hi, splP_fuel f g _ (by omega) (by omega) a5]
    · rw [if_neg hi, if_neg hi]
theorem splP_len : ∀ (f i : Nat), i ≤ n → n - i ≤ f → 0 ≤ splV ok n i → (0 < n) → ((splP ok n f i).length : Int) = splV ok n i
  | 0, i, hi, h, h0, hn => by
    have : i = n := by omega
    subst this
    rw [splV_pos hn, partsD_end]; rfl
  | f + 1, i, hi, h, h0, hn => by
    unfold splP
    by_cases h1 : i < n
    · obtain ⟨a1, a2, a3, a4, a5, a6, a7⟩ := splX_spec h1 h0
      rw [if_pos h1, List.length_cons]
      have := splP_len f (splX ok n i) a2 (by omega) a5 hn
      omega
    · have : i = n := by omega
      subst this
      rw [if_neg h1, splV_pos hn, partsD_end]; rfl
end
end Go.Proofs.YtkmbliojafefdaaGreatDoor

/- Parts of strings. General lemmas, no program text. -/
set_option autoImplicit false
namespace Go.Sx
open Enc (enc val)
section
variable {P : Program} {n : Fr} {E : Env} {C : World → Prop} {cs : List Bool} {o : Oper}
theorem run_sliceS {t : TypeId} (ht : P.underlying t = some .string) {s : ByteArray} {w : World} {a b : Nat} {lo hi : Option Value} (hb : (Instr.sliceBounds false s.size s.size lo hi none).run P w = .ok (a, b, s.size) w) :
    (Instr.sliceAt t (.string s) lo hi none).run P w = .ok (.string (s.extract a b)) w := by
  have e1 := run_underlying ht w
  simp [Instr.sliceAt, Instr.slice, e1, hb, Result.andThen]
theorem q_sliceS2 {t : TypeId} {x y z : Operand} {cx cy cz : List Bool} {s : ByteArray} {a b : Int} (ho : o.op = .slice t x (some y) (some z) none) (hx : evl E x = some (cx, .string s)) (hy : evl E y = some (cy, .int .i64 a)) (hz : evl E z = some (cz, .int .i64 b))
    [sx : Sub cx cs] [sy : Sub cy cs] [sz' : Sub cz cs] (ht : P.underlying t = some .string) (h : AllT cs → 0 ≤ a ∧ a ≤ b ∧ b ≤ s.size) : OpR P n E C cs o (.string (s.extract a.toNat b.toNat)) :=
  .of_run fun e he hc w hw => by
    obtain ⟨h1, h2, h3⟩ := h hc
    unfold execOp; simp only [ho]
    have e1 := he.eval hx sx hc
    have e2 := he.eval hy sy hc
    have e3 := he.eval hz sz' hc
    have := run_sliceS (P := P) ht (s := s) (w := w) (a := a.toNat) (b := b.toNat) (lo := some (.int .i64 a)) (hi := some (.int .i64 b)) (by
      have f1 := run_sliceBound (P := P) (w := w) .i64 b s.size .sliceAlen (by omega) (by omega)
      have f2 := run_sliceBound (P := P) (w := w) .i64 a b.toNat .sliceB (by omega) (by omega)
      simp [Instr.sliceBounds, f1, f2, Result.andThen])
    simp [e1, e2, e3, this, Result.andThen]
end
end Go.Sx

set_option autoImplicit false
set_option maxRecDepth 100000
namespace Go.Proofs.YtkmbliojafefdaaGreatDoor
open Go.Sx
open Enc (enc val)
def idxW (l : List Sp) (s : ByteArray) : Int := idxP (fun u : Sp => decide (u.word = s)) l
theorem lex_asc {l : List Sp} (h : riseB spC l = true) : ∀ i j, i < j → j < l.length → sLt (nth l i).word (nth l j).word = true := by
  have h1 : ∀ k, 1 ≤ k → k < l.length → sLt (nth l (k - 1)).word (nth l k).word = true := fun k h0 hk => cmpS_neg.1 (riseB_yes.1 h k h0 hk)
  intro i j hij hj
  induction j with
  | zero => omega
  | succ j ih =>
    have h2 := h1 (j + 1) (by omega) hj
    rw [Nat.add_sub_cancel] at h2
    by_cases h3 : i = j
    · rw [h3]; exact h2
    · exact sLt_trans (ih (by omega) (by omega)) h2
theorem halves_sp {l : List Sp} (h : riseB spC l = true) (s : ByteArray) : Halves (fun x : Sp => cmpS x.word s) l := fun i j hij hj hc => by
  rw [cmpS_neg] at hc ⊢
  exact sLt_trans (lex_asc h i j hij hj) hc
theorem holdS_spec (l : List Sp) (s : ByteArray) : CmpT Tryz.prog 164 #[] (.string s) (fun x : Sp => cmpS x.word s) (fun _ => True) l := by
  intro u hu w _
  refine calls_cw (vs := [_, _]) Tryz.func164 rfl Tryz.ntmps164 rfl (Cl.start0 w) (cw_seq (cw_region ?_))
  refine sw_x rfl rfl rfl (e_box rfl rfl rfl) (fun b2 => ?_)
  refine sr rfl rfl rfl ((q_assign rfl rfl)) (sw_nil (post_then (cw_seq (cw_region (sr rfl rfl rfl ((q_fieldAddr rfl rfl)) ?_)))))
  refine sr rfl rfl rfl ((q_loadC rfl rfl (by exact .head _) rfl)) ?_
  refine sr rfl rfl rfl ((q_move rfl rfl)) (sw_step rfl rfl rfl (q_call (CanCall.mk Tryz.call94) rfl (.cons rfl inferInstance (.cons rfl inferInstance (.nil))) (fun _ w hw => callq hw (strCmp_spec _ _ w))) (sr rfl rfl rfl ((q_assign rfl rfl)) (sw_nil (post_then (cw_ret (post_ret1 rfl (resOk_tmp rfl) ?_))))))
  exact fun w' hw => ⟨rfl, (fun w h => Cl.sel (by exact .nil _) w h) _ hw⟩
theorem idxW_low {l : List Sp} (h : riseB spC l = true) (s : ByteArray) : idxW l s = if lowB (fun x : Sp => cmpS x.word s) l < l.length ∧ cmpS (nth l (lowB (fun x : Sp => cmpS x.word s) l)).word s = 0 then (lowB (fun x : Sp => cmpS x.word s) l : Int) else -1 := by
  split
  · rename_i h1
    refine idxP_at (p := fun u : Sp => decide (u.word = s)) h1.1 (fun j hj => ?_) ?_
    · rw [decide_eq_false_iff_not]
      intro e
      have := lex_asc h _ _ hj h1.1
      rw [e, cmpS_zero.1 h1.2, sLt_irr] at this
      cases this
    · rw [decide_eq_true_eq]; exact cmpS_zero.1 h1.2
  · rename_i h1
    refine idxP_none (p := fun u : Sp => decide (u.word = s)) fun j hj => ?_
    rw [decide_eq_false_iff_not]
    intro e
    apply h1
    have hK : lowB (fun x : Sp => cmpS x.word s) l = j := by
      refine lowB_at (by omega) (fun i hi => cmpS_neg.2 (by rw [← e]; exact lex_asc h i j hi hj)) fun _ => ?_
      rw [e, cmpS_self]; decide
    rw [hK]
    exact ⟨hj, by rw [e, cmpS_self]⟩
theorem find_spec (sv : SlV) (l : List Sp) (s : ByteArray) (h : riseB spC l = true) (w : World) (hs : Stb w [] (RdL sv.v l)) : Calls Tryz.prog 137 #[sv.v, .string s] w fun e w' => e = .returned (.int .i64 (idxW l s)) ∧ Cl w [] [] w' := by
  have hL := rd_len hs.here
  refine calls_cw (vs := [_, _]) Tryz.func137 rfl Tryz.ntmps137 rfl (Cl.start0 w) (cw_seq (cw_region (sr rfl rfl rfl ((q_assign rfl rfl)) (sw_nil (post_then (cw_seq (cw_region (sr rfl rfl rfl ((q_move rfl rfl)) (sr rfl rfl rfl ((q_move rfl rfl)) (sw_step rfl rfl rfl (q_call (CanCall.mk Tryz.call163) rfl (.cons rfl inferInstance (.cons rfl inferInstance (.cons rfl inferInstance (.nil)))) (fun _ w hw => callq hw (searchSp_spec _ l s _ _ (fun x : Sp => cmpS x.word s) _ w (stb_arg hw hs) (stb_true w []) (CanCall.mk Tryz.call164) (holdS_spec l s) (halves_sp h s)))) (sr rfl rfl rfl ((q_move rfl rfl)) (sr rfl rfl rfl ((q_extract rfl rfl rfl)) (sr rfl rfl rfl ((q_extract rfl rfl rfl)) (sr rfl rfl rfl ((q_assign rfl rfl)) (sr rfl rfl rfl ((q_assign rfl rfl)) (sw_nil (post_then (cw_seq (cw_seq (cw_region (sr rfl rfl rfl ((q_move rfl rfl)) (sr rfl rfl rfl ((q_not rfl rfl)) (sw_nil (post_then ?_))))))))))))))))))))))))
  refine cw_cond rfl (fun h2 => ?_) (fun h2 => ?_)
  · skip
    have e1 : idxW l s = -1 := by rw [idxW_low h, if_neg (of_decide_eq_false (by simpa only [Bool.not_eq_true'] using h2))]
    refine cw_seq (cw_region (sr rfl rfl rfl ((q_assign rfl rfl)) (sw_nil (post_then (cw_ret (post_then_r (post_ret1 rfl (resOk_tmp rfl) ?_)))))))
    exact fun w' hw => ⟨by rw [e1], (fun w h => Cl.sel (by exact .nil _) w h) _ hw⟩
  · skip
    have e1 : idxW l s = (lowB (fun x : Sp => cmpS x.word s) l : Int) := by rw [idxW_low h, if_pos (of_decide_eq_true (by simpa only [Bool.not_eq_false'] using h2))]
    refine cw_skip (post_then (cw_seq (cw_region (sr rfl rfl rfl ((q_move rfl rfl)) (sr rfl rfl rfl ((q_assign rfl rfl)) (sw_nil (post_then (cw_ret (post_ret1 rfl (resOk_tmp rfl) ?_)))))))))
    exact fun w' hw => ⟨by rw [e1]; rfl, (fun w h => Cl.sel (by exact .nil _) w h) _ hw⟩
theorem idxW_bd (l : List Sp) (s : ByteArray) : -1 ≤ idxW l s ∧ idxW l s < l.length := by
  unfold idxW idxP
  split
  · rename_i k hk
    have := (List.findIdx?_eq_some_iff_getElem.1 hk).1
    omega
  · omega
def okW (l : List Sp) (s : ByteArray) (i k : Nat) : Bool := decide (0 ≤ idxW l (s.extract i k))
/-- A table while the places from i on are known; place i holds x. -/
def gL (g : Nat → Int) (n i : Nat) (x : Int) : List Int := (List.range (n + 1)).map fun j => if j < i then 0 else if j = i then x else g j
theorem gL_len (g : Nat → Int) (n i : Nat) (x : Int) : (gL g n i x).length = n + 1 := by simp [gL]
theorem gL_nth {g : Nat → Int} {n i j : Nat} {x : Int} (hj : j ≤ n) : nth (gL g n i x) j = if j < i then 0 else if j = i then x else g j := by
  rw [nth_get (by rw [gL_len]; omega)]; simp [gL]
theorem gL_set {g : Nat → Int} {n i : Nat} {x y : Int} : (gL g n i x).set i y = gL g n i y := by
  apply List.ext_getElem (by simp [gL])
  intro j h1 h2
  rw [List.getElem_set]
  have hj : j ≤ n := by rw [gL_len] at h2; omega
  simp only [gL, List.getElem_map, List.getElem_range]
  split
  · rename_i e; subst e; rw [if_neg (by omega), if_pos rfl]
  · rename_i e
    by_cases h3 : j < i
    · rw [if_pos h3, if_pos h3]
    · rw [if_neg h3, if_neg h3, if_neg (by omega), if_neg (by omega)]
theorem gL_next {g : Nat → Int} {n i : Nat} : gL g n (i + 1) (g (i + 1)) = gL g n i 0 := by
  unfold gL
  apply List.map_congr_left
  intro j _
  by_cases h1 : j < i
  · rw [if_pos h1, if_pos (by omega)]
  · by_cases h2 : j = i
    · rw [if_pos (by omega), if_neg h1, if_pos h2]
    · by_cases h3 : j = i + 1
      · rw [if_neg (by omega), if_pos h3, if_neg h1, if_neg h2, h3]
      · rw [if_neg (by omega), if_neg h3, if_neg h1, if_neg h2]
theorem gL_zero {g : Nat → Int} {n : Nat} (h0 : g n = 0) : List.replicate (n + 1) (0 : Int) = gL g n n (g n) := by
  apply List.ext_getElem (by simp [gL])
  intro j h1 h2
  rw [gL_len] at h2
  simp only [List.getElem_replicate, gL, List.getElem_map, List.getElem_range, h0]
  split
  · rfl
  · split
    · rfl
    · omega
end Go.Proofs.YtkmbliojafefdaaGreatDoor

set_option autoImplicit false
set_option maxRecDepth 100000
namespace Go.Proofs.YtkmbliojafefdaaGreatDoor
open Go.Sx
open Enc (enc val)
section
variable (ok : Nat → Nat → Bool) (n : Nat)
/-- Row i behind c steps: the least number (0: none), the end of the first part. -/
def rowF (i c : Nat) : Int × Nat := if i = 0 then bestD ok (partsD ok n) 0 (n - 1) (c - 1) else bestD ok (partsD ok n) i n c
def rowV (i : Nat) : Int := if i = n then 0 else (rowF ok n i (n - i)).1
def rowX (i : Nat) : Int := if i = n then 0 else ((rowF ok n i (n - i)).2 : Int)
variable {ok n}
theorem partsD_pos {j : Nat} (h : j < n) : partsD ok n j = -1 ∨ 1 ≤ partsD ok n j := by
  rw [partsD_step h]
  rcases bestK_spec (ok := ok) (f := partsD ok n) (i := j) (n - j) with ⟨g1, _⟩ | ⟨k, g1, g2, g3, g4, g5, g6⟩
  · exact .inl g1
  · right; omega
theorem rowV_pos {j : Nat} (h0 : 0 < j) (h : j ≤ n) : rowV ok n j = if partsD ok n j < 0 then 0 else partsD ok n j := by
  unfold rowV
  by_cases e : j = n
  · rw [if_pos e, e, partsD_end]; rfl
  · rw [if_neg e]
    unfold rowF
    rw [if_neg (by omega)]
    have := (best_same (ok := ok) (f := partsD ok n) (i := j) (c := n - j)).1
    rw [show j + (n - j) = n by omega] at this
    rw [this, ← partsD_step (by omega)]
theorem rowV_zero (h : 0 < n) : rowV ok n 0 = if splV ok n 0 < 0 then 0 else splV ok n 0 := by
  unfold rowV
  rw [if_neg (by omega)]
  unfold rowF splV
  rw [if_pos rfl, if_pos rfl]
  have := (best_same (ok := ok) (f := partsD ok n) (i := 0) (c := n - 1)).1
  rw [Nat.zero_add] at this
  rw [show n - 0 - 1 = n - 1 by omega, this]
theorem rowX_eq {i : Nat} (h : i < n) : rowX ok n i = (splX ok n i : Int) := by
  unfold rowX splX
  rw [if_neg (by omega)]
  unfold rowF
  by_cases e : i = 0
  · rw [if_pos e, if_pos e, e, show n - 0 - 1 = n - 1 by omega]
  · rw [if_neg e, if_neg e]
theorem rowF_zero (i : Nat) : rowF ok n i 0 = (0, 0) := by
  unfold rowF
  split <;> rfl
theorem rowF_step {i c : Nat} (h0 : ¬ (i = 0 ∧ c = 0)) (hc : i + c < n) : rowF ok n i (c + 1) = if ok i (n - c) = true ∧ 0 ≤ partsD ok n (n - c) ∧ ((rowF ok n i c).1 = 0 ∨ 1 + partsD ok n (n - c) < (rowF ok n i c).1) then (1 + partsD ok n (n - c), n - c) else rowF ok n i c := by
  unfold rowF
  by_cases e : i = 0
  · rw [if_pos e, if_pos e]
    obtain ⟨c', rfl⟩ : ∃ c', c = c' + 1 := ⟨c - 1, by omega⟩
    subst e
    rw [show c' + 1 + 1 - 1 = c' + 1 by omega, show c' + 1 - 1 = c' by omega]
    conv => lhs; rw [bestD]
    rw [show n - 1 - c' = n - (c' + 1) by omega]
  · rw [if_neg e, if_neg e]
    conv => lhs; rw [bestD]
theorem rowF_bd {i c : Nat} (hi : i + c ≤ n) : 0 ≤ (rowF ok n i c).1 ∧ (rowF ok n i c).1 ≤ 1 + (n : Int) := by
  unfold rowF
  have hD : ∀ j, j ≤ n → partsD ok n j ≤ (n : Int) := fun j hj => by have := (partsD_bd (ok := ok) (q := n) hj (by omega)).2; omega
  split
  · rcases Nat.lt_or_ge (n - 1) (c - 1) with h | h
    · omega
    · rcases bestD_spec (ok := ok) (f := partsD ok n) (i := 0) (lim := n - 1) (c - 1) (by omega) with ⟨h1, _⟩ | ⟨k, h1, h2, h3, h4, h5, _, _⟩
      · rw [h1]; simp only; omega
      · rw [h5]; have := hD k (by omega); simp only; omega
  · rcases bestD_spec (ok := ok) (f := partsD ok n) (i := i) (lim := n) c (by omega) with ⟨h1, _⟩ | ⟨k, h1, h2, h3, h4, h5, _, _⟩
    · rw [h1]; simp only; omega
    · rw [h5]; have := hD k (by omega); simp only; omega
end
/-- The parts as strings. -/
def splS (l : List Sp) (s : ByteArray) : List ByteArray := (splP (okW l s) s.size s.size 0).map fun p => s.extract p.1 p.2
theorem split_spec (sv : SlV) (l : List Sp) (s : ByteArray) (hr : riseB spC l = true) (hz : s.size ≤ 1000) (w : World) (hs : Stb w [] (RdL sv.v l)) :
    Calls Tryz.prog 96 #[sv.v, .string s] w fun e w' => ∃ r : SlV, e = .returned r.v ∧ r.addr.isNone = decide (splV (okW l s) s.size 0 < 0) ∧ Cl w [] [ownL 9 r.v (if splV (okW l s) s.size 0 < 0 then [] else splS l s)] w' := by
  have hL := rd_len hs.here
  unfold splS
  obtain ⟨n, hn⟩ : ∃ n, s.size = n := ⟨_, rfl⟩
  obtain ⟨ok, hok⟩ : ∃ ok, okW l s = ok := ⟨_, rfl⟩
  have hbd : ∀ j, j ≤ n → -1 ≤ partsD ok n j ∧ partsD ok n j ≤ ((n - j : Nat) : Int) := fun j hj => partsD_bd (q := n) hj (by omega)
  have hlv := gL_len (rowV ok n) n
  have hlx := gL_len (rowX ok n) n
  have hv0 : rowV ok n n = 0 := by unfold rowV; rw [if_pos rfl]
  have hx0 : rowX ok n n = 0 := by unfold rowX; rw [if_pos rfl]
  rw [hok, hn]
  refine calls_cw (vs := [_, _]) Tryz.func96 rfl Tryz.ntmps96 rfl (Cl.start0 w) (cw_seq (cw_region (sr rfl rfl rfl ((q_assign rfl rfl)) (sw_nil (post_then (cw_seq (cw_region (sr rfl rfl rfl ((q_move rfl rfl)) (sr rfl rfl rfl ((q_lenS rfl (.cons rfl inferInstance (.nil)) Tryz.underlying9)) ?_)))))))))
  refine sr rfl rfl rfl ((q_add rfl rfl rfl (by intro hc; omega))) ?_
  refine sw_x rfl rfl rfl (e_make (α := Int) (zero := 0) rfl rfl rfl rfl rfl (by omega) (by omega) (by decide)) (fun s15 => ?_)
  refine sr rfl rfl rfl ((q_assign rfl rfl)) (sw_nil (post_then (cw_seq (cw_region (sr rfl rfl rfl ((q_move rfl rfl)) (sr rfl rfl rfl ((q_lenS rfl (.cons rfl inferInstance (.nil)) Tryz.underlying9)) ?_))))))
  refine sr rfl rfl rfl ((q_add rfl rfl rfl (by intro hc; omega))) ?_
  refine sw_x rfl rfl rfl (e_make (α := Int) (zero := 0) rfl rfl rfl rfl rfl (by omega) (by omega) (by decide)) (fun s19 => ?_)
  refine sr rfl rfl rfl ((q_assign rfl rfl)) (sw_nil (post_then (cw_seq (cw_seq (cw_region (sr rfl rfl rfl ((q_move rfl rfl)) (sr rfl rfl rfl ((q_lenS rfl (.cons rfl inferInstance (.nil)) Tryz.underlying9)) ?_)))))))
  refine sr rfl rfl rfl ((q_sub rfl rfl rfl (by intro hc; omega))) ?_
  refine sr rfl rfl rfl ((q_assign rfl rfl)) (sw_nil (post_then (cw_block ?_)))
  rw [hn]
  have hrep : ((n : Int) + 1).toNat = n + 1 := by omega
  refine cw_loop (S := Nat) (fun q => [(0, [], sv.v), (1, [], .string s), (5, [], s15.v), (6, [], s19.v), (7, [], .int .i64 ((q : Int) - 1))]) (fun q => Cl w [] [ownL 3 s19.v (gL (rowX ok n) n q (rowX ok n q)), ownL 3 s15.v (gL (rowV ok n) n q (rowV ok n q))]) (fun q => q ≤ n) (fun q => q) n (Nat.le_refl _) (by exact .cons rfl (.cons rfl (.cons rfl (.cons rfl (.cons rfl .nil))))) (fun w' h => by rw [← gL_zero hv0, ← gL_zero hx0]; try rw [hrep] at h; exact h) ?_
  intro q hq
  refine cw_seq (cw_seq (cw_region (sr rfl rfl rfl ((q_move rfl rfl)) (sr rfl rfl rfl ((q_geq rfl rfl rfl)) (sw_nil (post_then ?_))))))
  refine cw_cond rfl (fun h => ?_) (fun h => ?_)
  · skip
    obtain ⟨i, rfl⟩ : ∃ i, q = i + 1 := ⟨q - 1, by simp at h; omega⟩
    have e1 : (((i + 1 : Nat) : Int) - 1) = (i : Int) := by omega
    rw [e1]
    refine cw_skip (post_then (cw_seq (cw_block (cw_seq (cw_region (sr rfl rfl rfl ((q_move rfl rfl)) (sr rfl rfl rfl ((q_lenS rfl (.cons rfl inferInstance (.nil)) Tryz.underlying9)) (sr rfl rfl rfl ((q_assign rfl rfl)) (sw_nil (post_then (cw_block ?_)))))))))))
    refine cw_loop (S := Nat) (fun c => [(0, [], sv.v), (1, [], .string s), (5, [], s15.v), (6, [], s19.v), (7, [], .int .i64 i), (8, [], .int .i64 ((n - c : Nat) : Int))]) (fun c => Cl w [] [ownL 3 s19.v (gL (rowX ok n) n i ((rowF ok n i c).2 : Int)), ownL 3 s15.v (gL (rowV ok n) n i (rowF ok n i c).1)]) (fun c => i + c ≤ n) (fun c => n - c) 0 (by omega) (by rw [hn]; exact (by exact .cons rfl (.cons rfl (.cons rfl (.cons rfl (.cons rfl (.cons rfl .nil))))))) (fun w' h => ?_) ?_
    · rw [gL_next, gL_next] at h
      rw [rowF_zero]; exact h
    intro c hc
    have hil2 := hlv i (rowF ok n i c).1
    have hil3 := hlx i ((rowF ok n i c).2 : Int)
    refine cw_seq (cw_seq (cw_region (sr rfl rfl rfl ((q_move rfl rfl)) (sr rfl rfl rfl ((q_move rfl rfl)) (sr rfl rfl rfl ((q_gtr rfl rfl rfl)) (sw_nil (post_then ?_)))))))
    refine cw_cond rfl (fun h2 => ?_) (fun h2 => ?_)
    · skip
      have hc' : i + c < n := by simp at h2; omega
      have hkbd := rowF_bd (ok := ok) (n := n) (i := i) (c := c) hc
      have hDk := hbd (n - c) (by omega)
      have n1 : nth (gL (rowV ok n) n i (rowF ok n i c).1) (n - c) = rowV ok n (n - c) := by rw [gL_nth (by omega), if_neg (by omega), if_neg (by omega)]
      have n2 : nth (gL (rowV ok n) n i (rowF ok n i c).1) i = (rowF ok n i c).1 := by rw [gL_nth (by omega), if_neg (by omega), if_pos rfl]
      have n3 := rowV_pos (ok := ok) (n := n) (j := n - c) (by omega) (by omega)
      have hVb : 0 ≤ rowV ok n (n - c) ∧ rowV ok n (n - c) ≤ n := by rw [n3]; split <;> omega
      have hokk : decide (0 ≤ idxW l (s.extract i (n - c))) = ok i (n - c) := by rw [← hok]; rfl
      refine cw_skip (post_then (cw_seq (cw_block (cw_seq (cw_seq (cw_region (sr rfl rfl rfl ((q_move rfl rfl)) (sr rfl rfl rfl ((q_eql rfl rfl rfl)) (sr rfl rfl rfl ((q_move rfl rfl)) (sr rfl rfl rfl ((q_move rfl rfl)) (sr rfl rfl rfl ((q_move rfl rfl)) (sr rfl rfl rfl ((q_lenS rfl (.cons rfl inferInstance (.nil)) Tryz.underlying9)) (sr rfl rfl rfl ((q_eql rfl rfl rfl)) (sr rfl rfl rfl ((q_and2 rfl rfl rfl)) (sr rfl rfl rfl ((q_move rfl rfl)) (sr rfl rfl rfl ((q_move rfl rfl)) (sr rfl rfl rfl ((q_move rfl rfl)) (sr rfl rfl rfl ((q_lenS rfl (.cons rfl inferInstance (.nil)) Tryz.underlying9)) (sr rfl rfl rfl ((q_lss rfl rfl rfl)) (sr rfl rfl rfl ((q_move rfl rfl)) (sr rfl rfl rfl ((q_move rfl rfl)) (sr rfl rfl rfl ((q_move rfl rfl)) ?_))))))))))))))))))))))
      refine sr rfl rfl rfl ((q_indexN rfl rfl rfl (by exact fun w hw => rd_own hw (by exact .tail _ (.head _))) (by intro hc; omega))) ?_
      refine sr rfl rfl rfl ((q_loadEl rfl rfl rfl (by exact fun w hw => rd_own hw (by exact .tail _ (.head _))) (by intro hc; omega))) ?_
      refine sr rfl rfl rfl ((q_eql rfl rfl rfl)) (sr rfl rfl rfl ((q_and2 rfl rfl rfl)) (sr rfl rfl rfl ((q_or2 rfl rfl rfl)) (sr rfl rfl rfl ((q_move rfl rfl)) (sr rfl rfl rfl ((q_move rfl rfl)) (sr rfl rfl rfl ((q_move rfl rfl)) (sr rfl rfl rfl ((q_move rfl rfl)) (sr rfl rfl rfl ((q_move rfl rfl)) ?_)))))))
      refine sr rfl rfl rfl ((q_sliceS2 rfl rfl rfl rfl Tryz.underlying9 (by intro hc; omega))) ?_
      refine sw_step rfl rfl rfl (q_call (CanCall.mk Tryz.call137) rfl (.cons rfl inferInstance (.cons rfl inferInstance (.nil))) (fun _ w hw => callq hw (find_spec sv l _ hr w (stb_arg hw hs)))) (sr rfl rfl rfl ((q_lss rfl rfl rfl)) (sr rfl rfl rfl ((q_or2 rfl rfl rfl)) (sw_nil (post_then ?_))))
      rw [hn]
      simp only [Int.toNat_natCast, n1]
      refine cw_cond rfl (fun h3 => ?_) (fun h3 => ?_)
      · skip
        have e2 : rowF ok n i (c + 1) = rowF ok n i c := by
          by_cases h4 : i = 0 ∧ c = 0
          · obtain ⟨rfl, rfl⟩ := h4; rfl
          · rw [rowF_step h4 hc', if_neg]
            rintro ⟨g1, g2, g3⟩
            rw [← hokk] at g1
            simp only [decide_eq_true_eq] at g1
            rw [if_neg (by omega)] at n3
            have hne : ¬ ((i : Int) = 0 ∧ ((n - c : Nat) : Int) = (n : Int)) := by omega
            have hne2 : ¬ (((n - c : Nat) : Int) < (n : Int) ∧ rowV ok n (n - c) = 0) := by
              rw [n3]
              rintro ⟨b1, b2⟩
              rcases partsD_pos (ok := ok) (n := n) (j := n - c) (by omega) with b3 | b3 <;> omega
            simp only [Bool.or_eq_true, Bool.and_eq_true, decide_eq_true_eq] at h3
            rcases h3 with (h3 | h3) | h3
            · exact hne h3
            · exact hne2 h3
            · omega
        refine cw_exit (post_then_x (post_blk_eq (post_then (cw_region (sr rfl rfl rfl ((q_move rfl rfl)) ?_)))))
        refine sr rfl rfl rfl ((q_sub rfl rfl rfl (by intro hc; omega))) ?_
        refine sr rfl rfl rfl ((q_assign rfl rfl)) (sw_nil ?_)
        exact post_next (c + 1) (by exact .cons rfl (.cons rfl (.cons rfl (.cons rfl (.cons rfl (.cons' rfl (by congr 1; first | omega | (simp only; omega)) .nil)))))) (fun w' h => by rw [e2]; exact (fun w h => Cl.sel (by exact .take 0 rfl (.take 0 rfl (.nil _))) w h) _ h) (by omega) (by omega)
      · skip
        have h5 : ¬ (i = 0 ∧ c = 0) ∧ ok i (n - c) = true ∧ 0 ≤ partsD ok n (n - c) ∧ rowV ok n (n - c) = partsD ok n (n - c) := by
          simp only [Bool.or_eq_false_iff, Bool.and_eq_false_iff, decide_eq_false_iff_not] at h3
          obtain ⟨⟨g1, g2⟩, g3⟩ := h3
          have g4 : 0 ≤ partsD ok n (n - c) ∧ rowV ok n (n - c) = partsD ok n (n - c) := by
            by_cases b : partsD ok n (n - c) < 0
            · exfalso
              rw [if_pos b] at n3
              by_cases b2 : n - c = n
              · rw [b2, partsD_end] at b; omega
              · omega
            · rw [if_neg b] at n3
              exact ⟨by omega, n3⟩
          refine ⟨fun e => by omega, ?_, g4⟩
          rw [← hokk, decide_eq_true_eq]; omega
        obtain ⟨h50, h51, h52, h53⟩ := h5
        have hst := rowF_step (ok := ok) (n := n) h50 hc'
        refine cw_skip (post_then (cw_seq (cw_region (sr rfl rfl rfl ((q_move rfl rfl)) (sr rfl rfl rfl ((q_move rfl rfl)) ?_)))))
        refine sr rfl rfl rfl ((q_indexN rfl rfl rfl (by exact fun w hw => rd_own hw (by exact .tail _ (.head _))) (by intro hc; omega))) ?_
        refine sr rfl rfl rfl ((q_loadEl rfl rfl rfl (by exact fun w hw => rd_own hw (by exact .tail _ (.head _))) (by intro hc; omega))) ?_
        refine sr rfl rfl rfl ((q_add rfl rfl rfl (by intro hc; omega))) ?_
        refine sr rfl rfl rfl ((q_assign rfl rfl)) (sw_nil (post_then (cw_seq (cw_region (sr rfl rfl rfl ((q_move rfl rfl)) (sr rfl rfl rfl ((q_move rfl rfl)) ?_))))))
        refine sr rfl rfl rfl ((q_indexN rfl rfl rfl (by exact fun w hw => rd_own hw (by exact .tail _ (.head _))) (by intro hc; omega))) ?_
        refine sr rfl rfl rfl ((q_loadEl rfl rfl rfl (by exact fun w hw => rd_own hw (by exact .tail _ (.head _))) (by intro hc; omega))) ?_
        refine sr rfl rfl rfl ((q_eql rfl rfl rfl)) (sr rfl rfl rfl ((q_move rfl rfl)) (sr rfl rfl rfl ((q_move rfl rfl)) (sr rfl rfl rfl ((q_move rfl rfl)) (sr rfl rfl rfl ((q_move rfl rfl)) ?_))))
        refine sr rfl rfl rfl ((q_indexN rfl rfl rfl (by exact fun w hw => rd_own hw (by exact .tail _ (.head _))) (by intro hc; omega))) ?_
        refine sr rfl rfl rfl ((q_loadEl rfl rfl rfl (by exact fun w hw => rd_own hw (by exact .tail _ (.head _))) (by intro hc; omega))) ?_
        refine sr rfl rfl rfl ((q_lss rfl rfl rfl)) (sr rfl rfl rfl ((q_or2 rfl rfl rfl)) (sw_nil (post_then ?_)))
        simp only [Int.toNat_natCast, n1, n2]
        refine cw_cond rfl (fun h6 => ?_) (fun h6 => ?_)
        · skip
          have e2 : rowF ok n i (c + 1) = (1 + partsD ok n (n - c), n - c) := by
            rw [hst, if_pos]
            simp only [Bool.or_eq_true, decide_eq_true_eq] at h6
            exact ⟨h51, h52, by omega⟩
          refine cw_region (sr rfl rfl rfl ((q_move rfl rfl)) (sr rfl rfl rfl ((q_move rfl rfl)) (sr rfl rfl rfl ((q_move rfl rfl)) (sr rfl rfl rfl ((q_move rfl rfl)) (sr rfl rfl rfl ((q_move rfl rfl)) (sr rfl rfl rfl ((q_move rfl rfl)) ?_))))))
          refine sr rfl rfl rfl ((q_indexN rfl rfl rfl (by exact fun w hw => rd_own hw (by exact .tail _ (.head _))) (by intro hc; omega))) ?_
          refine sw_eff0 rfl rfl (e_storeEl1 (i := 1) rfl rfl rfl rfl rfl (by omega)) ?_
          refine sr rfl rfl rfl ((q_indexN rfl rfl rfl (by exact fun w hw => rd_own hw (by exact .head _)) (by intro hc; omega))) ?_
          refine sw_eff0 rfl rfl (e_storeEl1 (i := 0) rfl rfl rfl rfl rfl (by omega)) ?_
          refine sw_nil (post_blk (post_then (cw_region (sr rfl rfl rfl ((q_move rfl rfl)) ?_))))
          refine sr rfl rfl rfl ((q_sub rfl rfl rfl (by intro hc; omega))) ?_
          refine sr rfl rfl rfl ((q_assign rfl rfl)) (sw_nil ?_)
          refine post_next (c + 1) (by exact .cons rfl (.cons rfl (.cons rfl (.cons rfl (.cons rfl (.cons' rfl (by congr 1; first | omega | (simp only; omega)) .nil)))))) (fun w' h => ?_) (by omega) (by omega)
          simp only [Int.toNat_natCast, n1, gL_set, h53] at h
          rw [e2]
          exact (fun w h => Cl.sel (by exact .take 0 rfl (.take 0 rfl (.nil _))) w h) _ h
        · skip
          have e2 : rowF ok n i (c + 1) = rowF ok n i c := by
            rw [hst, if_neg]
            rintro ⟨_, _, g3⟩
            simp only [Bool.or_eq_false_iff, decide_eq_false_iff_not] at h6
            omega
          refine cw_skip (post_blk (post_then (cw_region (sr rfl rfl rfl ((q_move rfl rfl)) ?_))))
          refine sr rfl rfl rfl ((q_sub rfl rfl rfl (by intro hc; omega))) ?_
          refine sr rfl rfl rfl ((q_assign rfl rfl)) (sw_nil ?_)
          exact post_next (c + 1) (by exact .cons rfl (.cons rfl (.cons rfl (.cons rfl (.cons rfl (.cons' rfl (by congr 1; first | omega | (simp only; omega)) .nil)))))) (fun w' h => by rw [e2]; exact (fun w h => Cl.sel (by exact .take 0 rfl (.take 0 rfl (.nil _))) w h) _ h) (by omega) (by omega)
    · skip
      have hc' : i + c = n := by simp at h2; omega
      have e2 : rowV ok n i = (rowF ok n i c).1 := by unfold rowV; rw [if_neg (by simp at h; omega), show n - i = c by omega]
      have e3 : rowX ok n i = ((rowF ok n i c).2 : Int) := by unfold rowX; rw [if_neg (by simp at h; omega), show n - i = c by omega]
      refine cw_exit (post_then_x (post_then_x (post_blk_eq (post_blk (post_then (cw_region (sr rfl rfl rfl ((q_move rfl rfl)) ?_)))))))
      refine sr rfl rfl rfl ((q_sub rfl rfl rfl (by intro hc; omega))) ?_
      refine sr rfl rfl rfl ((q_assign rfl rfl)) (sw_nil ?_)
      exact post_next i (by exact .cons rfl (.cons rfl (.cons rfl (.cons rfl (.cons rfl .nil))))) (fun w' h => by rw [e2, e3]; exact (fun w h => Cl.sel (by exact .take 0 rfl (.take 0 rfl (.nil _))) w h) _ h) (by omega) (by omega)
  · skip
    have hq' : q = 0 := by simp at h; omega
    subst hq'
    have hln := hlv 0 (rowV ok n 0)
    have hlx0 := hlx 0 (rowX ok n 0)
    have n1 : nth (gL (rowV ok n) n 0 (rowV ok n 0)) 0 = rowV ok n 0 := by rw [gL_nth (by omega), if_neg (by omega), if_pos rfl]
    refine cw_exit (post_then_x (post_then_x (post_blk_eq (post_then (cw_seq (cw_seq (cw_region (sr rfl rfl rfl ((q_move rfl rfl)) ?_))))))))
    refine sr rfl rfl rfl ((q_indexN rfl rfl rfl (by exact fun w hw => rd_own hw (by exact .tail _ (.head _))) (by intro hc; (simp only [List.length_set, List.length_append, List.length_cons, List.length_nil, List.length_replicate, List.length_take, List.length_drop, List.length_map]; omega)))) ?_
    refine sr rfl rfl rfl ((q_loadEl rfl rfl rfl (by exact fun w hw => rd_own hw (by exact .tail _ (.head _))) (by intro hc; (simp only [List.length_set, List.length_append, List.length_cons, List.length_nil, List.length_replicate, List.length_take, List.length_drop, List.length_map]; omega)))) ?_
    refine sr rfl rfl rfl ((q_eql rfl rfl rfl)) (sw_nil (post_then ?_))
    rw [n1]
    refine cw_cond rfl (fun h7 => ?_) (fun h7 => ?_)
    · skip
      have hneg : splV ok n 0 < 0 := by
        simp only [decide_eq_true_eq] at h7
        by_cases h0 : 0 < n
        · rw [rowV_zero h0] at h7
          by_cases b : splV ok n 0 < 0
          · exact b
          · rw [if_neg b] at h7
            have := (splX_spec (ok := ok) h0 (by omega)).2.2.2.2.1
            have := (splX_spec (ok := ok) h0 (by omega)).2.2.2.2.2.1
            omega
        · unfold splV
          rw [if_pos rfl, show n - 1 = 0 by omega]
          show (-1 : Int) < 0
          decide
      rw [if_pos hneg]
      refine cw_seq (cw_region (sr rfl rfl rfl ((q_assign rfl rfl)) (sw_nil (post_then (cw_ret (post_then_r (post_ret1 rfl (resOk_tmp rfl) ?_)))))))
      exact fun w' hw => ⟨⟨none, 0, 0⟩, rfl, by rw [decide_eq_true hneg]; rfl, Cl.addNil 9 ((fun w h => Cl.sel (by exact .nil _) w h) _ hw)⟩
    · skip
      have hpos : 0 < n ∧ 0 ≤ splV ok n 0 := by
        simp only [decide_eq_false_iff_not] at h7
        by_cases h0 : 0 < n
        · rw [rowV_zero h0] at h7
          by_cases b : splV ok n 0 < 0
          · rw [if_pos b] at h7; exact absurd rfl h7
          · exact ⟨h0, by omega⟩
        · rw [show n = 0 by omega] at h7
          exact absurd (by unfold rowV; rw [if_pos rfl]) h7
      obtain ⟨hn0, hV0⟩ := hpos
      rw [if_neg (by omega)]
      refine cw_skip (post_then (cw_seq (cw_region (sr rfl rfl rfl ((q_assign rfl rfl)) (sw_nil (post_then (cw_seq (cw_seq (cw_region (sr rfl rfl rfl ((q_assign rfl rfl)) (sw_nil (post_then (cw_block ?_)))))))))))))
      refine cw_loop (S := Nat × SlV × List ByteArray) (fun y => [(1, [], .string s), (6, [], s19.v), (10, [], y.2.1.v), (11, [], .int .i64 y.1)]) (fun y => Cl w [] [ownL 9 y.2.1.v y.2.2, ownL 3 s19.v (gL (rowX ok n) n 0 (rowX ok n 0))]) (fun y => y.1 ≤ n ∧ 0 ≤ splV ok n y.1 ∧ y.2.2.length ≤ y.1 ∧ (splP ok n n 0).map (fun p => s.extract p.1 p.2) = y.2.2 ++ (splP ok n (n - y.1) y.1).map fun p => s.extract p.1 p.2) (fun y => n - y.1) (0, ⟨none, 0, 0⟩, []) ⟨by simp, hV0, by simp, by simp⟩ (by exact .cons rfl (.cons rfl (.cons rfl (.cons rfl .nil)))) (fun w' h => Cl.addNil 9 ((fun w h => Cl.sel (by exact .take 0 rfl (.nil _)) w h) _ h)) ?_
      rintro ⟨i, so, out⟩ ⟨hi, hVi, hol, hout⟩
      dsimp only at hi hVi hol hout ⊢
      refine cw_seq (cw_seq (cw_region (sr rfl rfl rfl ((q_move rfl rfl)) (sr rfl rfl rfl ((q_move rfl rfl)) (sr rfl rfl rfl ((q_lenS rfl (.cons rfl inferInstance (.nil)) Tryz.underlying9)) (sr rfl rfl rfl ((q_lss rfl rfl rfl)) (sw_nil (post_then ?_))))))))
      refine cw_cond rfl (fun h8 => ?_) (fun h8 => ?_)
      · skip
        have hi' : i < n := by simp at h8; omega
        obtain ⟨a1, a2, a3, a4, a5, a6, a7⟩ := splX_spec hi' hVi
        have n2 : nth (gL (rowX ok n) n 0 (rowX ok n 0)) i = (splX ok n i : Int) := by
          rw [gL_nth hi, if_neg (by omega)]
          split
          · rename_i e; rw [← e, rowX_eq hi']
          · exact rowX_eq hi'
        refine cw_skip (post_then (cw_seq (cw_block (cw_region (sr rfl rfl rfl ((q_move rfl rfl)) (sr rfl rfl rfl ((q_move rfl rfl)) (sr rfl rfl rfl ((q_move rfl rfl)) (sr rfl rfl rfl ((q_move rfl rfl)) (sr rfl rfl rfl ((q_move rfl rfl)) ?_)))))))))
        refine sr rfl rfl rfl ((q_indexN rfl rfl rfl (by exact fun w hw => rd_own hw (by exact .tail _ (.head _))) (by intro hc; omega))) ?_
        refine sr rfl rfl rfl ((q_loadEl rfl rfl rfl (by exact fun w hw => rd_own hw (by exact .tail _ (.head _))) (by intro hc; omega))) ?_
        simp only [Int.toNat_natCast, n2]
        refine sr rfl rfl rfl ((q_sliceS2 rfl rfl rfl rfl Tryz.underlying9 (by intro hc; omega))) ?_
        refine sw_x rfl rfl rfl (e_build1 (α := ByteArray) rfl rfl rfl rfl) (fun s110 => ?_)
        refine sw_x rfl rfl rfl (e_append (i := 1) rfl (.cons rfl inferInstance (.cons rfl inferInstance (.nil))) rfl rfl (by exact fun w hw => rd_own hw (by exact .head _)) (by first | omega | (simp only [List.length_set, List.length_append, List.length_cons, List.length_nil, List.length_replicate, List.length_take, List.length_drop, List.length_map]; omega)) rfl) (fun s111 => ?_)
        refine sr rfl rfl rfl ((q_assign rfl rfl)) (sw_nil (post_blk (post_then (cw_region (sr rfl rfl rfl ((q_move rfl rfl)) (sr rfl rfl rfl ((q_move rfl rfl)) ?_))))))
        refine sr rfl rfl rfl ((q_indexN rfl rfl rfl (by exact fun w hw => rd_own hw (by exact .tail _ (.tail _ (.head _)))) (by intro hc; omega))) ?_
        refine sr rfl rfl rfl ((q_loadEl rfl rfl rfl (by exact fun w hw => rd_own hw (by exact .tail _ (.tail _ (.head _)))) (by intro hc; omega))) ?_
        refine sr rfl rfl rfl ((q_assign rfl rfl)) (sw_nil ?_)
        simp only [Int.toNat_natCast, n2]
        refine post_next (splX ok n i, s111, out ++ [s.extract i (splX ok n i)]) (by exact .cons rfl (.cons rfl (.cons rfl (.cons rfl .nil)))) (fun w' h => (fun w h => Cl.sel (by exact .take 1 rfl (.take 1 rfl (.nil _))) w h) _ h) ⟨a2, a5, by simp; omega, ?_⟩ (by simp only; omega)
        simp only
        rw [hout, List.append_assoc]
        congr 1
        obtain ⟨m, hm⟩ : ∃ m, n - i = m + 1 := ⟨n - i - 1, by omega⟩
        rw [hm, splP, if_pos hi', List.map_cons, splP_fuel m (n - splX ok n i) (splX ok n i) (by omega) (by omega) a5]
        rfl
      · skip
        have hi' : i = n := by simp at h8; omega
        subst hi'
        rw [Nat.sub_self] at hout
        have hout2 : out = (splP ok i i 0).map fun p => s.extract p.1 p.2 := by rw [hout]; simp [splP]
        have hlen := splP_len (ok := ok) (n := i) i 0 (by omega) (by omega) hV0 hn0
        have hpos2 : 1 ≤ splV ok i 0 := by
          obtain ⟨_, _, _, _, a5, a6, _⟩ := splX_spec hn0 hV0
          omega
        refine cw_exit (post_then_x (post_then_x (post_blk_eq (post_then (cw_seq (cw_region (sr rfl rfl rfl ((q_move rfl rfl)) (sr rfl rfl rfl ((q_assign rfl rfl)) (sw_nil (post_then (cw_ret (post_ret1 rfl (resOk_tmp rfl) ?_))))))))))))
        refine fun w' hw => ⟨so, rfl, ?_, by rw [← hout2]; exact (fun w h => Cl.sel (by exact .take 0 rfl (.nil _)) w h) _ hw⟩
        rw [decide_eq_false (by omega)]
        have hrd : RdL so.v out w' := rd_own (e := 9) hw (by exact .head _)
        cases ha : so.addr with
        | some a => rfl
        | none =>
          exfalso
          have := rd_nil hrd ha
          rw [hout2] at this
          have h9 := congrArg List.length this
          simp at h9
          rw [h9] at hlen
          simp at hlen; omega
end Go.Proofs.YtkmbliojafefdaaGreatDoor

set_option autoImplicit false
set_option maxRecDepth 100000
namespace Go.Proofs.YtkmbliojafefdaaGreatDoor
open Go.Sx
open Enc (enc val)
def splE (l : List Sp) (s : ByteArray) : Int := if lexE l = 0 then (if wordOk s then (if splV (okW l s) s.size 0 < 0 then 5 else 0) else 2) else lexE l
def splR (l : List Sp) (s : ByteArray) : List ByteArray := if splE l s = 0 then splS l s else []
theorem lexE_ok {l : List Sp} (h : lexE l = 0) : riseB spC l = true ∧ l.all spOk = true := by
  unfold lexE at h
  split at h
  · cases h
  · split at h
    · rename_i h2
      simpa using h2
    · cases h
theorem splitP_spec (sv : SlV) (l : List Sp) (s : ByteArray) (hsz : ∀ u ∈ l, u.word.size ≤ 1000000) (hz : s.size ≤ 1000) (w : World) (hT : Stb w [] Tab) (hs : Stb w [] (RdL sv.v l)) (hp : Stb w [] fun w' => ∀ u ∈ l, SpIn u w') :
    Calls Tryz.prog 53 #[sv.v, .string s] w fun e w' => ∃ r : SlV, e = .returned (.tuple #[r.v, .int .i64 (splE l s)]) ∧ True ∧ Cl w [] [ownL 9 r.v (splR l s)] w' := by
  have hs2 : s.size ≤ 9223372036854775806 := by omega
  refine calls_cw (vs := [_, _]) Tryz.func53 rfl Tryz.ntmps53 rfl (Cl.start0 w) (cw_seq (cw_region (sr rfl rfl rfl ((q_assign rfl rfl)) (sr rfl rfl rfl ((q_assign rfl rfl)) (sw_nil (post_then (cw_seq (cw_seq (cw_region (sr rfl rfl rfl ((q_move rfl rfl)) (sw_step rfl rfl rfl (q_call (CanCall.mk Tryz.call95) rfl (.cons rfl inferInstance (.nil)) (fun _ w hw => callq hw (lexicon_spec _ l hsz w (stb_arg hw hT) (stb_arg hw hs) (stb_arg hw hp)))) (sr rfl rfl rfl ((q_assign rfl rfl)) (sw_nil (post_then (cw_seq (cw_region (sr rfl rfl rfl ((q_move rfl rfl)) (sr rfl rfl rfl ((q_neq rfl rfl rfl)) (sw_nil (post_then ?_))))))))))))))))))))
  refine cw_cond rfl (fun h => ?_) (fun h => ?_)
  · skip
    have h1 : lexE l ≠ 0 := by simpa using h
    have e1 : splE l s = lexE l := by unfold splE; rw [if_neg h1]
    have e2 : splR l s = [] := by unfold splR; rw [if_neg (by rw [e1]; exact h1)]
    refine cw_seq (cw_region (sr rfl rfl rfl ((q_move rfl rfl)) (sr rfl rfl rfl ((q_assign rfl rfl)) (sr rfl rfl rfl ((q_assign rfl rfl)) (sw_nil (post_then (cw_ret (post_then_r (post_ret2 rfl (resOk_tmp rfl) (resOk_tmp rfl) ?_)))))))))
    exact fun w' hw => ⟨⟨none, 0, 0⟩, by rw [e1]; rfl, trivial, by rw [e2]; exact Cl.addNil 9 ((fun w h => Cl.sel (by exact .nil _) w h) _ hw)⟩
  · skip
    have h1 : lexE l = 0 := by simpa using h
    have hr := (lexE_ok h1).1
    have hE : splE l s = if wordOk s then (if splV (okW l s) s.size 0 < 0 then 5 else 0) else 2 := by unfold splE; rw [if_pos h1]
    refine cw_skip (post_then (cw_seq (cw_seq (cw_region (sr rfl rfl rfl ((q_move rfl rfl)) ?_)))))
    refine sw_step rfl rfl rfl (q_call (CanCall.mk Tryz.call62) rfl (.cons rfl inferInstance (.nil)) (fun _ w hw => callq hw (isWord_spec _ w (by assumption) (stb_arg hw (by assumption))))) ?_
    refine sr rfl rfl rfl ((q_not rfl rfl)) (sw_nil (post_then ?_))
    refine cw_cond rfl (fun h2 => ?_) (fun h2 => ?_)
    · skip
      have e1 : splE l s = 2 := by rw [hE, if_neg (by simpa using h2)]
      have e2 : splR l s = [] := by unfold splR; rw [if_neg (by rw [e1]; decide)]
      refine cw_seq (cw_region (sr rfl rfl rfl ((q_assign rfl rfl)) (sr rfl rfl rfl ((q_assign rfl rfl)) (sw_nil (post_then (cw_ret (post_then_r (post_ret2 rfl (resOk_tmp rfl) (resOk_tmp rfl) ?_))))))))
      exact fun w' hw => ⟨⟨none, 0, 0⟩, by rw [e1]; rfl, trivial, by rw [e2]; exact Cl.addNil 9 ((fun w h => Cl.sel (by exact .nil _) w h) _ hw)⟩
    · skip
      have h3 : wordOk s = true := by simpa using h2
      rw [if_pos h3] at hE
      refine cw_skip (post_then (cw_seq (cw_region (sr rfl rfl rfl ((q_move rfl rfl)) (sr rfl rfl rfl ((q_move rfl rfl)) ?_)))))
      refine sw_x rfl rfl rfl (e_call (CanCall.mk Tryz.call96) rfl (.cons rfl inferInstance (.cons rfl inferInstance (.nil))) (fun w1 hw => split_spec sv l s hr hz w1 (stb_arg hw hs))) (fun s18 => ?_)
      refine sw_imp fun hnil => (sr rfl rfl rfl ((q_assign rfl rfl)) (sw_nil (post_then (cw_seq (cw_seq (cw_region (sr rfl rfl rfl ((q_move rfl rfl)) (sr rfl rfl rfl ((q_eqlNil rfl rfl)) (sw_nil (post_then ?_))))))))))
      rw [hnil]
      refine cw_cond rfl (fun h4 => ?_) (fun h4 => ?_)
      · skip
        have h5 : splV (okW l s) s.size 0 < 0 := by simpa using h4
        have e1 : splE l s = 5 := by rw [hE, if_pos h5]
        have e2 : splR l s = [] := by unfold splR; rw [if_neg (by rw [e1]; decide)]
        refine cw_seq (cw_region (sr rfl rfl rfl ((q_assign rfl rfl)) (sr rfl rfl rfl ((q_assign rfl rfl)) (sw_nil (post_then (cw_ret (post_then_r (post_ret2 rfl (resOk_tmp rfl) (resOk_tmp rfl) ?_))))))))
        exact fun w' hw => ⟨⟨none, 0, 0⟩, by rw [e1]; rfl, trivial, by rw [e2]; exact Cl.addNil 9 ((fun w h => Cl.sel (by exact .nil _) w h) _ hw)⟩
      · skip
        have h5 : ¬ splV (okW l s) s.size 0 < 0 := by simpa using h4
        have e1 : splE l s = 0 := by rw [hE, if_neg h5]
        have e2 : splR l s = splS l s := by unfold splR; rw [if_pos e1]
        rw [if_neg h5]
        refine cw_skip (post_then (cw_seq (cw_region (sr rfl rfl rfl ((q_move rfl rfl)) (sr rfl rfl rfl ((q_assign rfl rfl)) (sr rfl rfl rfl ((q_assign rfl rfl)) (sw_nil (post_then (cw_ret (post_ret2 rfl (resOk_tmp rfl) (resOk_tmp rfl) ?_))))))))))
        exact fun w' hw => ⟨s18, by rw [e1], trivial, by rw [e2]; exact (fun w h => Cl.sel (by exact .take 0 rfl (.nil _)) w h) _ hw⟩
end Go.Proofs.YtkmbliojafefdaaGreatDoor

set_option autoImplicit false
set_option maxRecDepth 100000
namespace Go.Proofs.YtkmbliojafefdaaGreatDoor
open Go.Sx
open Enc (enc val)
structure CdAt (t : List Cond) (m : Nat) : Prop where
  ok : condOk (nth t m) = true
  lt : 0 < m → (nth t (m - 1)).at_ < (nth t m).at_
structure ChAt (rl : List Chc) (j : Nat) : Prop where
  ph : phonesOk (nth rl j).pl 3 = true
  two : (nth rl j).tl.length ≤ 2
  emp : (nth rl j).tl.length = 0 ↔ j + 1 = rl.length
  cs : ∀ m, m < (nth rl j).tl.length → CdAt (nth rl j).tl m
structure LeAt (bl : List Let) (k : Nat) : Prop where
  c : possC (nth bl k).c = true
  lt : 0 < k → (nth bl (k - 1)).c < (nth bl k).c
  l1 : 1 ≤ (nth bl k).rl.length
  l2 : (nth bl k).rl.length ≤ 1000
  rs : ∀ j, j < (nth bl k).rl.length → ChAt (nth bl k).rl j
theorem tests_iff {t : List Cond} : testsOk t = true ↔ ∀ m, m < t.length → CdAt t m := by
  unfold testsOk
  simp only [Bool.and_eq_true, List.all_eq_true]
  constructor
  · intro ⟨h1, h2⟩ m hm
    exact ⟨h1 _ (nth_mem hm), fun h0 => by have := riseB_yes.1 h2 m (by omega) hm; omega⟩
  · intro h
    refine ⟨fun x hx => ?_, riseB_yes.2 fun m h1 h2 => by have := (h m h2).lt (by omega); omega⟩
    obtain ⟨m, hm, rfl⟩ := List.getElem_of_mem hx
    have := (h m hm).ok
    rwa [nth_get hm] at this
theorem chc_iff {rl : List Chc} {j : Nat} : chcOk (decide (j + 1 = rl.length)) (nth rl j) = true ↔ ChAt rl j := by
  unfold chcOk
  simp only [Bool.and_eq_true, beq_iff_eq, decide_eq_true_eq, decide_eq_decide]
  constructor
  · intro ⟨⟨⟨h1, h2⟩, h3⟩, h4⟩
    exact ⟨h4, h2, h1, tests_iff.1 h3⟩
  · intro h
    exact ⟨⟨⟨h.emp, h.two⟩, tests_iff.2 h.cs⟩, h.ph⟩
theorem book_iff {bl : List Let} : bookOk bl = true ↔ ∀ k, k < bl.length → LeAt bl k := by
  unfold bookOk
  simp only [Bool.and_eq_true, List.all_eq_true]
  have key : ∀ L : Let, letOk L = true ↔ possC L.c = true ∧ 1 ≤ L.rl.length ∧ L.rl.length ≤ 1000 ∧ ∀ j, j < L.rl.length → ChAt L.rl j := fun L => by
    unfold letOk
    simp only [Bool.and_eq_true, List.all_eq_true, decide_eq_true_eq, List.mem_range, chc_iff]
    exact ⟨fun h => ⟨h.1.1.1, h.1.1.2, h.1.2, h.2⟩, fun h => ⟨⟨⟨h.1, h.2.1⟩, h.2.2.1⟩, h.2.2.2⟩⟩
  constructor
  · intro ⟨h1, h2⟩ k hk
    obtain ⟨g1, g2, g3, g4⟩ := (key _).1 (h2 _ (nth_mem hk))
    exact ⟨g1, fun h0 => by have := riseB_yes.1 h1 k (by omega) hk; rw [sgn_neg] at this; omega, g2, g3, g4⟩
  · intro h
    refine ⟨riseB_yes.2 fun k h1 h2 => by rw [sgn_neg]; have := (h k h2).lt (by omega); omega, fun L hL => ?_⟩
    obtain ⟨k, hk, rfl⟩ := List.getElem_of_mem hL
    rw [key, ← nth_get hk]
    have := h k hk
    exact ⟨this.c, this.l1, this.l2, this.rs⟩
theorem refBook_spec (b : Bk) (hz : ∀ L ∈ b.bl, ∀ r ∈ L.rl, ∀ p ∈ r.pl, p.size ≤ 9223372036854775807) (w : World) (hb : Stb w [] (BkIn b)) : Calls Tryz.prog 41 #[val b] w fun e w' => e = .returned (.bool (bookOk b.bl)) ∧ Cl w [] [] w' := by
  have hB := rd_stb hb.here.1
  have hL := rd_len hB.here
  refine calls_cw (vs := [_]) Tryz.func41 rfl Tryz.ntmps41 rfl (Cl.start0 w) (cw_seq (cw_region ?_))
  refine sw_x rfl rfl rfl (e_box rfl rfl rfl) (fun b1 => ?_)
  refine sr rfl rfl rfl ((q_assign rfl rfl)) (sw_nil (post_then (cw_seq (cw_seq (cw_region (sr rfl rfl rfl ((q_assign rfl rfl)) (sw_nil (post_then (cw_block ?_)))))))))
  refine cw_loop (S := Nat) (fun k => [(1, [], .pointer (some ⟨b1, 0, none⟩)), (3, [], .int .i64 k)]) (fun _ => Cl w [] [blk b1 [b.b.v] 45]) (fun k => k ≤ b.bl.length ∧ ∀ j, j < k → LeAt b.bl j) (fun k => b.bl.length - k) 0 ⟨by omega, fun j hj => by omega⟩ (by exact .cons rfl (.cons rfl .nil)) (fun w h => Cl.sel (by exact .take 0 rfl (.nil _)) w h) ?_
  rintro k ⟨hk, hbe⟩
  refine cw_seq (cw_seq (cw_region (sr rfl rfl rfl ((q_move rfl rfl)) (sr rfl rfl rfl ((q_fieldAddr rfl rfl)) ?_))))
  refine sr rfl rfl rfl ((q_loadC rfl rfl (by exact .head _) rfl)) ?_
  refine sr rfl rfl rfl ((q_len rfl (.cons rfl inferInstance (.nil)) (by exact fun w hw => Stb.cl (by assumption) hw))) ?_
  refine sr rfl rfl rfl ((q_lss rfl rfl rfl)) (sw_nil (post_then ?_))
  refine cw_cond rfl (fun h => ?_) (fun h => ?_)
  · skip
    have hk' : k < b.bl.length := by simp at h; omega
    have hno : ¬ LeAt b.bl k → bookOk b.bl = false := fun hn => by
      cases hx : bookOk b.bl with
      | false => rfl
      | true => exact absurd (book_iff.1 hx k hk') hn
    have e1 : 0 < k → ((k : Int) - 1).toNat = k - 1 := fun h0 => by omega
    have hLi := hb.here.2 _ (nth_mem hk')
    have hzi := hz _ (nth_mem hk')
    obtain ⟨L, hLe⟩ : ∃ L, nth b.bl k = L := ⟨_, rfl⟩
    have hAt : ∀ hc : possC L.c = true, (0 < k → (nth b.bl (k - 1)).c < L.c) → 1 ≤ L.rl.length → L.rl.length ≤ 1000 → (∀ j, j < L.rl.length → ChAt L.rl j) → LeAt b.bl k := fun a1 a2 a3 a4 a5 => by
      subst hLe; exact ⟨a1, a2, a3, a4, a5⟩
    have hAf : LeAt b.bl k → possC L.c = true ∧ (0 < k → (nth b.bl (k - 1)).c < L.c) ∧ 1 ≤ L.rl.length ∧ L.rl.length ≤ 1000 ∧ (∀ j, j < L.rl.length → ChAt L.rl j) := fun hh => by
      subst hLe; exact ⟨hh.c, hh.lt, hh.l1, hh.l2, hh.rs⟩
    rw [hLe] at hLi hzi
    have hR := rd_stb hLi.1
    have hRl := rd_len hR.here
    refine cw_skip (post_then (cw_seq (cw_block (cw_seq (cw_region (sr rfl rfl rfl ((q_fieldAddr rfl rfl)) ?_))))))
    refine sr rfl rfl rfl ((q_loadC rfl rfl (by exact .head _) rfl)) ?_
    refine sr rfl rfl rfl ((q_move rfl rfl)) ?_
    refine sr rfl rfl rfl ((q_indexN rfl rfl rfl (by exact fun w hw => Stb.cl (by assumption) hw) (by intro hc; omega))) ?_
    refine sr rfl rfl rfl ((q_loadEl rfl rfl rfl (by exact fun w hw => Stb.cl (by assumption) hw) (by intro hc; omega))) ?_
    rw [hLe]
    refine sw_x rfl rfl rfl (e_alloc rfl) (fun b4 => ?_)
    refine sw_eff0 rfl rfl (e_store (i := 0) rfl rfl rfl rfl rfl rfl rfl rfl) (sw_nil (post_then (cw_seq (cw_seq ?_))))
    refine cw_region_q mixed_Tryz (by kernel_rfl) ?_
    refine qr rfl rfl rfl ((q_fieldAddr rfl rfl)) ?_
    refine qr rfl rfl rfl ((q_loadC rfl rfl (by exact .head _) rfl)) ?_
    refine qw_step rfl rfl rfl (q_call (CanCall.mk Tryz.call66) rfl (.cons rfl inferInstance (.nil)) (fun _ w hw => callq hw (refLetter_spec _ w))) (qr rfl rfl rfl ((q_not rfl rfl)) (qr rfl rfl rfl ((q_move rfl rfl)) (qr rfl rfl rfl ((q_move rfl rfl)) (qr rfl rfl rfl ((q_gtr rfl rfl rfl)) (qr rfl rfl rfl ((q_move rfl rfl)) (qr rfl rfl rfl ((q_fieldAddr rfl rfl)) ?_))))))
    refine qr rfl rfl rfl ((q_loadC rfl rfl (by exact .head _) rfl)) ?_
    refine qr rfl rfl rfl ((q_fieldAddr rfl rfl)) ?_
    refine qr rfl rfl rfl ((q_loadC rfl rfl (by exact .tail _ (.head _)) rfl)) ?_
    refine qr rfl rfl rfl ((q_move rfl rfl)) ?_
    refine qr rfl rfl rfl ((q_sub rfl rfl rfl (by intro hc; omega))) ?_
    refine qr rfl rfl rfl ((q_index rfl rfl rfl (by exact fun w hw => Stb.cl (by assumption) hw) (by intro hc; (simp only [AllT.iff, List.all_cons, List.all_nil, id, Bool.and_eq_true, Bool.not_eq_true', decide_eq_true_eq, decide_eq_false_iff_not, and_true] at hc; omega)))) ?_
    refine qr rfl rfl rfl ((q_fieldEl rfl rfl (by exact fun w hw => Stb.cl (by assumption) hw) (by intro hc; omega))) ?_
    refine qr rfl rfl rfl ((q_loadF rfl rfl rfl (by exact fun w hw => Stb.cl (by assumption) hw) (by intro hc; omega) rfl)) ?_
    refine qr rfl rfl rfl ((q_leq rfl rfl rfl)) (qr rfl rfl rfl ((q_and2 rfl rfl rfl)) (qr rfl rfl rfl ((q_or2 rfl rfl rfl)) (qr rfl rfl rfl ((q_move rfl rfl)) (qr rfl rfl rfl ((q_fieldAddr rfl rfl)) ?_))))
    refine qr rfl rfl rfl ((q_loadC rfl rfl (by exact .head _) rfl)) ?_
    refine qr rfl rfl rfl ((q_len rfl (.cons rfl inferInstance (.nil)) (by exact fun w hw => Stb.cl (by assumption) hw))) ?_
    refine qr rfl rfl rfl ((q_lss rfl rfl rfl)) (qr rfl rfl rfl ((q_or2 rfl rfl rfl)) (qr rfl rfl rfl ((q_move rfl rfl)) (qr rfl rfl rfl ((q_fieldAddr rfl rfl)) ?_)))
    refine qr rfl rfl rfl ((q_loadC rfl rfl (by exact .head _) rfl)) ?_
    refine qr rfl rfl rfl ((q_len rfl (.cons rfl inferInstance (.nil)) (by exact fun w hw => Stb.cl (by assumption) hw))) ?_
    refine qr rfl rfl rfl ((q_gtr rfl rfl rfl)) (qr rfl rfl rfl ((q_or2 rfl rfl rfl)) (qw_end (post_then ?_)))
    refine cw_cond rfl (fun h2 => ?_) (fun h2 => ?_)
    · skip
      have hf : bookOk b.bl = false := hno fun hh => by
        obtain ⟨f1, f2, f3, f4, _⟩ := hAf hh
        by_cases hk0 : 0 < k
        · have f2 := f2 hk0
          rw [e1 hk0] at h2
          simp [f1, hk0] at h2
          omega
        · have hk1 : k = 0 := by omega
          subst hk1
          simp [f1] at h2
          omega
      refine cw_seq (cw_region (sr rfl rfl rfl ((q_assign rfl rfl)) (sw_nil (post_then (cw_ret (post_then_r (post_blk_r (post_then_r (post_then_r (post_blk_r (post_then_r (post_ret1 rfl (resOk_tmp rfl) ?_))))))))))))
      exact fun w' hw => ⟨by rw [hf], (fun w h => Cl.sel (by exact .nil _) w h) _ hw⟩
    · skip
      have h3 : possC L.c = true ∧ (0 < k → (nth b.bl (k - 1)).c < L.c) ∧ 1 ≤ L.rl.length ∧ L.rl.length ≤ 1000 := by
        by_cases hk0 : 0 < k
        · rw [e1 hk0] at h2
          simp [hk0] at h2
          exact ⟨h2.1.1.1, fun _ => by omega, by omega, by omega⟩
        · have hk1 : k = 0 := by omega
          subst hk1
          simp at h2
          exact ⟨h2.1.1, fun h0 => by omega, by omega, by omega⟩
      refine cw_skip (post_then (cw_seq (cw_region (sr rfl rfl rfl ((q_assign rfl rfl)) (sw_nil (post_then (cw_block ?_)))))))
      refine cw_loop (S := Nat) (fun j => [(1, [], .pointer (some ⟨b1, 0, none⟩)), (3, [], .int .i64 k), (4, [], .pointer (some ⟨b4, 0, none⟩)), (5, [], .int .i64 j)]) (fun _ => Cl w [] [blk b4 (enc L) 61, blk b1 [b.b.v] 45]) (fun j => j ≤ L.rl.length ∧ ∀ i, i < j → ChAt L.rl i) (fun j => L.rl.length - j) 0 ⟨by omega, fun j hj => by omega⟩ (by exact .cons rfl (.cons rfl (.cons rfl (.cons rfl .nil)))) (fun w h => Cl.sel (by exact .take 0 rfl (.take 0 rfl (.nil _))) w h) ?_
      rintro j ⟨hj, hbj⟩
      refine cw_seq (cw_seq (cw_region (sr rfl rfl rfl ((q_move rfl rfl)) (sr rfl rfl rfl ((q_fieldAddr rfl rfl)) ?_))))
      refine sr rfl rfl rfl ((q_loadC rfl rfl (by exact .head _) rfl)) ?_
      refine sr rfl rfl rfl ((q_len rfl (.cons rfl inferInstance (.nil)) (by exact fun w hw => Stb.cl (by assumption) hw))) ?_
      refine sr rfl rfl rfl ((q_lss rfl rfl rfl)) (sw_nil (post_then ?_))
      refine cw_cond rfl (fun h4 => ?_) (fun h4 => ?_)
      · skip
        have hj' : j < L.rl.length := by simp at h4; omega
        have hno2 : ¬ ChAt L.rl j → bookOk b.bl = false := fun hn => hno fun hh => hn ((hAf hh).2.2.2.2 j hj')
        have hC := hLi.2 _ (nth_mem hj')
        have hC1 := rd_stb hC.1
        have hC2 := rd_stb hC.2
        have hC1l := rd_len hC1.here
        have hzp := hzi _ (nth_mem hj')
        refine cw_skip (post_then (cw_seq (cw_block (cw_seq (cw_region (sr rfl rfl rfl ((q_fieldAddr rfl rfl)) ?_))))))
        refine sr rfl rfl rfl ((q_loadC rfl rfl (by exact .head _) rfl)) ?_
        refine sr rfl rfl rfl ((q_move rfl rfl)) ?_
        refine sr rfl rfl rfl ((q_indexN rfl rfl rfl (by exact fun w hw => Stb.cl (by assumption) hw) (by intro hc; omega))) ?_
        refine sr rfl rfl rfl ((q_fieldEl rfl rfl (by exact fun w hw => Stb.cl (by assumption) hw) (by intro hc; omega))) ?_
        refine sr rfl rfl rfl ((q_loadF rfl rfl rfl (by exact fun w hw => Stb.cl (by assumption) hw) (by intro hc; omega) rfl)) ?_
        refine sr rfl rfl rfl ((q_assign rfl rfl)) (sw_nil (post_then (cw_seq (cw_seq (cw_region (sr rfl rfl rfl ((q_fieldAddr rfl rfl)) ?_))))))
        refine sr rfl rfl rfl ((q_loadC rfl rfl (by exact .head _) rfl)) ?_
        refine sr rfl rfl rfl ((q_move rfl rfl)) ?_
        refine sr rfl rfl rfl ((q_indexN rfl rfl rfl (by exact fun w hw => Stb.cl (by assumption) hw) (by intro hc; omega))) ?_
        refine sr rfl rfl rfl ((q_fieldEl rfl rfl (by exact fun w hw => Stb.cl (by assumption) hw) (by intro hc; omega))) ?_
        refine sr rfl rfl rfl ((q_loadF rfl rfl rfl (by exact fun w hw => Stb.cl (by assumption) hw) (by intro hc; omega) rfl)) ?_
        refine sw_step rfl rfl rfl (q_call (CanCall.mk Tryz.call23) rfl (.cons rfl inferInstance (.cons rfl inferInstance (.nil))) (fun _ w hw => callq hw (refPhones_spec _ _ _ w (by exact stb_arg hw (by assumption)) (by assumption)))) ?_
        refine sr rfl rfl rfl ((q_not rfl rfl)) (sr rfl rfl rfl ((q_move rfl rfl)) (sr rfl rfl rfl ((q_move rfl rfl)) ?_))
        refine sr rfl rfl rfl ((q_len rfl (.cons rfl inferInstance (.nil)) (by exact fun w hw => Stb.cl (by assumption) hw))) ?_
        refine sr rfl rfl rfl ((q_gtr rfl rfl rfl)) (sr rfl rfl rfl ((q_or2 rfl rfl rfl)) (sr rfl rfl rfl ((q_move rfl rfl)) (sr rfl rfl rfl ((q_move rfl rfl)) ?_)))
        refine sr rfl rfl rfl ((q_len rfl (.cons rfl inferInstance (.nil)) (by exact fun w hw => Stb.cl (by assumption) hw))) ?_
        refine sr rfl rfl rfl ((q_eql rfl rfl rfl)) (sr rfl rfl rfl ((q_move rfl rfl)) (sr rfl rfl rfl ((q_fieldAddr rfl rfl)) ?_))
        refine sr rfl rfl rfl ((q_loadC rfl rfl (by exact .head _) rfl)) ?_
        refine sr rfl rfl rfl ((q_len rfl (.cons rfl inferInstance (.nil)) (by exact fun w hw => Stb.cl (by assumption) hw))) ?_
        refine sr rfl rfl rfl ((q_sub rfl rfl rfl (by intro hc; omega))) ?_
        refine sr rfl rfl rfl ((q_eql rfl rfl rfl)) (sr rfl rfl rfl ((q_neq_b rfl rfl rfl Tryz.underlying4)) (sr rfl rfl rfl ((q_or2 rfl rfl rfl)) (sw_nil (post_then ?_))))
        have e2 : decide ((j : Int) = (L.rl.length : Int) - 1) = decide (j + 1 = L.rl.length) := by rw [Bool.eq_iff_iff]; simp; omega
        refine cw_cond rfl (fun h5 => ?_) (fun h5 => ?_)
        · skip
          have hf : bookOk b.bl = false := hno2 fun hh => by
            have f3 := hh.emp
            simp [hh.ph] at h5
            rw [← List.length_eq_zero_iff] at h5
            have := hh.two
            omega
          refine cw_seq (cw_region (sr rfl rfl rfl ((q_assign rfl rfl)) (sw_nil (post_then (cw_ret (post_then_r (post_blk_r (post_then_r (post_then_r (post_blk_r (post_blk_r (post_then_r (post_then_r (post_blk_r (post_then_r (post_ret1 rfl (resOk_tmp rfl) ?_))))))))))))))))
          exact fun w' hw => ⟨by rw [hf], (fun w h => Cl.sel (by exact .nil _) w h) _ hw⟩
        · skip
          have h6 : phonesOk (nth L.rl j).pl 3 = true ∧ (nth L.rl j).tl.length ≤ 2 ∧ ((nth L.rl j).tl.length = 0 ↔ j + 1 = L.rl.length) := by
            simp at h5
            rw [← List.length_eq_zero_iff] at h5
            exact ⟨h5.1.1, by omega, by omega⟩
          refine cw_skip (post_then (cw_seq (cw_region (sr rfl rfl rfl ((q_assign rfl rfl)) (sw_nil (post_then (cw_block ?_)))))))
          refine cw_loop (S := Nat) (fun m => [(1, [], .pointer (some ⟨b1, 0, none⟩)), (3, [], .int .i64 k), (4, [], .pointer (some ⟨b4, 0, none⟩)), (5, [], .int .i64 j), (6, [], (nth L.rl j).t.v), (7, [], .int .i64 m)]) (fun _ => Cl w [] [blk b4 (enc L) 61, blk b1 [b.b.v] 45]) (fun m => m ≤ (nth L.rl j).tl.length ∧ ∀ i, i < m → CdAt (nth L.rl j).tl i) (fun m => (nth L.rl j).tl.length - m) 0 ⟨by omega, fun m hm => by omega⟩ (by exact .cons rfl (.cons rfl (.cons rfl (.cons rfl (.cons rfl (.cons rfl .nil)))))) (fun w h => Cl.sel (by exact .take 0 rfl (.take 0 rfl (.nil _))) w h) ?_
          rintro m ⟨hm, hbm⟩
          refine cw_seq (cw_seq (cw_region (sr rfl rfl rfl ((q_move rfl rfl)) (sr rfl rfl rfl ((q_move rfl rfl)) ?_))))
          refine sr rfl rfl rfl ((q_len rfl (.cons rfl inferInstance (.nil)) (by exact fun w hw => Stb.cl (by assumption) hw))) ?_
          refine sr rfl rfl rfl ((q_lss rfl rfl rfl)) (sw_nil (post_then ?_))
          refine cw_cond rfl (fun h7 => ?_) (fun h7 => ?_)
          · skip
            have hm' : m < (nth L.rl j).tl.length := by simp at h7; omega
            have e3 : 0 < m → ((m : Int) - 1).toNat = m - 1 := fun h0 => by omega
            refine cw_skip (post_then (cw_seq (cw_block (cw_seq ?_))))
            refine cw_region_q mixed_Tryz (by kernel_rfl) ?_
            refine qr rfl rfl rfl ((q_move rfl rfl)) (qr rfl rfl rfl ((q_move rfl rfl)) ?_)
            refine qr rfl rfl rfl ((q_indexN rfl rfl rfl (by exact fun w hw => Stb.cl (by assumption) hw) (by intro hc; omega))) ?_
            refine qr rfl rfl rfl ((q_fieldEl rfl rfl (by exact fun w hw => Stb.cl (by assumption) hw) (by intro hc; omega))) ?_
            refine qr rfl rfl rfl ((q_loadF rfl rfl rfl (by exact fun w hw => Stb.cl (by assumption) hw) (by intro hc; omega) rfl)) ?_
            refine qr rfl rfl rfl ((q_lss rfl rfl rfl)) (qr rfl rfl rfl ((q_move rfl rfl)) (qr rfl rfl rfl ((q_move rfl rfl)) (qr rfl rfl rfl ((q_move rfl rfl)) ?_)))
            refine qr rfl rfl rfl ((q_indexN rfl rfl rfl (by exact fun w hw => Stb.cl (by assumption) hw) (by intro hc; omega))) ?_
            refine qr rfl rfl rfl ((q_fieldEl rfl rfl (by exact fun w hw => Stb.cl (by assumption) hw) (by intro hc; omega))) ?_
            refine qr rfl rfl rfl ((q_loadF rfl rfl rfl (by exact fun w hw => Stb.cl (by assumption) hw) (by intro hc; omega) rfl)) ?_
            refine qr rfl rfl rfl ((q_gtr rfl rfl rfl)) (qr rfl rfl rfl ((q_or2 rfl rfl rfl)) (qr rfl rfl rfl ((q_move rfl rfl)) (qr rfl rfl rfl ((q_move rfl rfl)) (qr rfl rfl rfl ((q_move rfl rfl)) ?_))))
            refine qr rfl rfl rfl ((q_indexN rfl rfl rfl (by exact fun w hw => Stb.cl (by assumption) hw) (by intro hc; omega))) ?_
            refine qr rfl rfl rfl ((q_fieldEl rfl rfl (by exact fun w hw => Stb.cl (by assumption) hw) (by intro hc; omega))) ?_
            refine qr rfl rfl rfl ((q_loadF rfl rfl rfl (by exact fun w hw => Stb.cl (by assumption) hw) (by intro hc; omega) rfl)) ?_
            refine qr rfl rfl rfl ((q_eql rfl rfl rfl)) (qr rfl rfl rfl ((q_or2 rfl rfl rfl)) (qr rfl rfl rfl ((q_move rfl rfl)) (qr rfl rfl rfl ((q_move rfl rfl)) (qr rfl rfl rfl ((q_move rfl rfl)) ?_))))
            refine qr rfl rfl rfl ((q_indexN rfl rfl rfl (by exact fun w hw => Stb.cl (by assumption) hw) (by intro hc; omega))) ?_
            refine qr rfl rfl rfl ((q_fieldEl rfl rfl (by exact fun w hw => Stb.cl (by assumption) hw) (by intro hc; omega))) ?_
            refine qr rfl rfl rfl ((q_loadF rfl rfl rfl (by exact fun w hw => Stb.cl (by assumption) hw) (by intro hc; omega) rfl)) ?_
            refine qr rfl rfl rfl ((q_neq rfl rfl rfl)) (qr rfl rfl rfl ((q_move rfl rfl)) (qr rfl rfl rfl ((q_move rfl rfl)) (qr rfl rfl rfl ((q_move rfl rfl)) ?_)))
            refine qr rfl rfl rfl ((q_indexN rfl rfl rfl (by exact fun w hw => Stb.cl (by assumption) hw) (by intro hc; omega))) ?_
            refine qr rfl rfl rfl ((q_fieldEl rfl rfl (by exact fun w hw => Stb.cl (by assumption) hw) (by intro hc; omega))) ?_
            refine qr rfl rfl rfl ((q_loadF rfl rfl rfl (by exact fun w hw => Stb.cl (by assumption) hw) (by intro hc; omega) rfl)) ?_
            refine qw_step rfl rfl rfl (q_call (CanCall.mk Tryz.call66) rfl (.cons rfl inferInstance (.nil)) (fun _ w hw => callq hw (refLetter_spec _ w))) (qr rfl rfl rfl ((q_not rfl rfl)) (qr rfl rfl rfl ((q_and2 rfl rfl rfl)) (qr rfl rfl rfl ((q_or2 rfl rfl rfl)) (qr rfl rfl rfl ((q_move rfl rfl)) (qr rfl rfl rfl ((q_move rfl rfl)) (qr rfl rfl rfl ((q_gtr rfl rfl rfl)) (qr rfl rfl rfl ((q_move rfl rfl)) (qr rfl rfl rfl ((q_move rfl rfl)) (qr rfl rfl rfl ((q_move rfl rfl)) ?_)))))))))
            refine qr rfl rfl rfl ((q_indexN rfl rfl rfl (by exact fun w hw => Stb.cl (by assumption) hw) (by intro hc; omega))) ?_
            refine qr rfl rfl rfl ((q_fieldEl rfl rfl (by exact fun w hw => Stb.cl (by assumption) hw) (by intro hc; omega))) ?_
            refine qr rfl rfl rfl ((q_loadF rfl rfl rfl (by exact fun w hw => Stb.cl (by assumption) hw) (by intro hc; omega) rfl)) ?_
            refine qr rfl rfl rfl ((q_move rfl rfl)) (qr rfl rfl rfl ((q_move rfl rfl)) ?_)
            refine qr rfl rfl rfl ((q_sub rfl rfl rfl (by intro hc; omega))) ?_
            refine qr rfl rfl rfl ((q_index rfl rfl rfl (by exact fun w hw => Stb.cl (by assumption) hw) (by intro hc; (simp only [AllT.iff, List.all_cons, List.all_nil, id, Bool.and_eq_true, Bool.not_eq_true', decide_eq_true_eq, decide_eq_false_iff_not, and_true] at hc; omega)))) ?_
            refine qr rfl rfl rfl ((q_fieldEl rfl rfl (by exact fun w hw => Stb.cl (by assumption) hw) (by intro hc; omega))) ?_
            refine qr rfl rfl rfl ((q_loadF rfl rfl rfl (by exact fun w hw => Stb.cl (by assumption) hw) (by intro hc; omega) rfl)) ?_
            refine qr rfl rfl rfl ((q_leq rfl rfl rfl)) (qr rfl rfl rfl ((q_and2 rfl rfl rfl)) (qr rfl rfl rfl ((q_or2 rfl rfl rfl)) (qw_end (post_then ?_))))
            refine cw_cond rfl (fun h8 => ?_) (fun h8 => ?_)
            · skip
              have hf : bookOk b.bl = false := hno2 fun hh => by
                obtain ⟨f1, f2⟩ := hh.cs m hm'
                unfold condOk at f1
                simp at f1
                by_cases hm0 : 0 < m
                · have f2 := f2 hm0
                  rw [e3 hm0] at h8
                  rcases f1.2 with f3 | f3 <;> simp [f3, hm0] at h8 <;> omega
                · have hm1 : m = 0 := by omega
                  subst hm1
                  rcases f1.2 with f3 | f3 <;> simp [f3] at h8 <;> omega
              refine cw_seq (cw_region (sr rfl rfl rfl ((q_assign rfl rfl)) (sw_nil (post_then (cw_ret (post_blk_r (post_then_r (post_then_r (post_blk_r (post_blk_r (post_then_r (post_then_r (post_blk_r (post_blk_r (post_then_r (post_then_r (post_blk_r (post_then_r (post_ret1 rfl (resOk_tmp rfl) ?_)))))))))))))))))))
              exact fun w' hw => ⟨by rw [hf], (fun w h => Cl.sel (by exact .nil _) w h) _ hw⟩
            · skip
              have h9 : CdAt (nth L.rl j).tl m := by
                by_cases hm0 : 0 < m
                · rw [e3 hm0] at h8
                  simp [hm0] at h8
                  refine ⟨?_, fun _ => by omega⟩
                  unfold condOk
                  simp
                  refine ⟨by omega, ?_⟩
                  by_cases f3 : (nth (nth L.rl j).tl m).c = 0
                  · exact .inl f3
                  · exact .inr (h8.1.2 f3)
                · have hm1 : m = 0 := by omega
                  subst hm1
                  simp at h8
                  refine ⟨?_, fun _ => by omega⟩
                  unfold condOk
                  simp
                  refine ⟨by omega, ?_⟩
                  by_cases f3 : (nth (nth L.rl j).tl 0).c = 0
                  · exact .inl f3
                  · exact .inr (h8.2 f3)
              refine cw_skip (post_blk (post_then (cw_region (sr rfl rfl rfl ((q_move rfl rfl)) ?_))))
              refine sr rfl rfl rfl ((q_add rfl rfl rfl (by intro hc; omega))) ?_
              refine sr rfl rfl rfl ((q_assign rfl rfl)) (sw_nil ?_)
              exact post_next (m + 1) (by exact .cons rfl (.cons rfl (.cons rfl (.cons rfl (.cons rfl (.cons rfl .nil)))))) (fun w h => Cl.sel (by exact .take 0 rfl (.take 0 rfl (.nil _))) w h) ⟨by omega, fun i hi => by
                rcases Nat.lt_or_ge i m with h6 | h6
                · exact hbm i h6
                · have : i = m := by omega
                  subst this; exact h9⟩ (by omega)
          · skip
            have hm' : m = (nth L.rl j).tl.length := by simp at h7; omega
            subst hm'
            have h9 : ChAt L.rl j := ⟨h6.1, h6.2.1, h6.2.2, hbm⟩
            refine cw_exit (post_then_x (post_then_x (post_blk_eq (post_blk (post_then (cw_region (sr rfl rfl rfl ((q_move rfl rfl)) ?_)))))))
            refine sr rfl rfl rfl ((q_add rfl rfl rfl (by intro hc; omega))) ?_
            refine sr rfl rfl rfl ((q_assign rfl rfl)) (sw_nil ?_)
            exact post_next (j + 1) (by exact .cons rfl (.cons rfl (.cons rfl (.cons rfl .nil)))) (fun w h => Cl.sel (by exact .take 0 rfl (.take 0 rfl (.nil _))) w h) ⟨by omega, fun i hi => by
              rcases Nat.lt_or_ge i j with h6 | h6
              · exact hbj i h6
              · have : i = j := by omega
                subst this; exact h9⟩ (by omega)
      · skip
        have hj' : j = L.rl.length := by simp at h4; omega
        subst hj'
        have h9 : LeAt b.bl k := hAt h3.1 h3.2.1 h3.2.2.1 h3.2.2.2 hbj
        refine cw_exit (post_then_x (post_then_x (post_blk_eq (post_blk (post_then (cw_region (sr rfl rfl rfl ((q_move rfl rfl)) ?_)))))))
        refine sr rfl rfl rfl ((q_add rfl rfl rfl (by intro hc; omega))) ?_
        refine sr rfl rfl rfl ((q_assign rfl rfl)) (sw_nil ?_)
        exact post_next (k + 1) (by exact .cons rfl (.cons rfl .nil)) (fun w h => Cl.sel (by exact .take 1 rfl (.nil _)) w h) ⟨by omega, fun i hi => by
          rcases Nat.lt_or_ge i k with h6 | h6
          · exact hbe i h6
          · have : i = k := by omega
            subst this; exact h9⟩ (by omega)
  · skip
    have hk' : k = b.bl.length := by simp at h; omega
    subst hk'
    have hf : bookOk b.bl = true := book_iff.2 hbe
    refine cw_exit (post_then_x (post_then_x (post_blk_eq (post_then (cw_seq (cw_region (sr rfl rfl rfl ((q_assign rfl rfl)) (sw_nil (post_then (cw_ret (post_ret1 rfl (resOk_tmp rfl) ?_)))))))))))
    exact fun w' hw => ⟨by rw [hf], (fun w h => Cl.sel (by exact .nil _) w h) _ hw⟩
end Go.Proofs.YtkmbliojafefdaaGreatDoor

set_option autoImplicit false
set_option maxRecDepth 100000
namespace Go.Proofs.YtkmbliojafefdaaGreatDoor
open Go.Sx
open Enc (enc val)
end Go.Proofs.YtkmbliojafefdaaGreatDoor

set_option autoImplicit false
set_option maxRecDepth 100000
namespace Go.Proofs.YtkmbliojafefdaaGreatDoor
open Go.Sx
open Enc (enc val)
theorem runeCount_spec (s : ByteArray) (w : World) (hs : s.size ≤ 1000000) : Calls Tryz.prog 140 #[.string s] w fun e w' => e = .returned (.int .i64 (runes s).length) ∧ Cl w [] [] w' := by
  refine calls_cw (vs := [_]) Tryz.func140 rfl Tryz.ntmps140 rfl (Cl.start0 w) (cw_seq (cw_region (sr rfl rfl rfl ((q_assign rfl rfl)) (sw_nil (post_then (cw_seq (cw_seq (cw_region (sr rfl rfl rfl ((q_move rfl rfl)) ?_)))))))))
  refine sw_x rfl rfl rfl (e_rangeS rfl rfl Tryz.underlying9) (fun r4 => ?_)
  refine sw_nil (post_then (cw_block ?_))
  refine cw_loop (S := Nat × List Rn) (fun y => [(2, [], .int .i64 y.2.length), (4, [], .pointer (some ⟨r4, 0, none⟩))]) (fun y => Cl w [] [obj r4 (.stringIter s y.1)]) (fun y => y.2.length ≤ y.1 ∧ y.2.length ≤ s.size ∧ runes s = y.2 ++ (runesP s y.1).map fun x => ⟨x.2⟩) (fun y => s.size - y.1) (0, []) ⟨by simp, by simp, rfl⟩ (by exact .cons rfl (.cons rfl .nil)) (fun _ h => h) ?_
  rintro ⟨k, l⟩ ⟨hlk, hls, hall⟩
  dsimp only at hlk hls hall ⊢
  refine cw_seq (cw_region ?_)
  refine sw_x rfl rfl rfl (e_nextS (i := 0) rfl rfl rfl) (fun y5 => ?_)
  refine sr rfl rfl rfl ((q_extract rfl rfl (nextSV_0 _ _))) (sw_nil (post_then (cw_seq ?_)))
  refine cw_cond rfl (fun h2 => ?_) (fun h2 => ?_)
  · skip
    have hk : k < s.size := by simpa using h2
    have hp := decode_pos s k
    have hst := runesP_step hk
    have hnp : nextSP s k = k + (Utf8.decode s k).2 := by simp [nextSP, hk]
    refine cw_skip (post_then (cw_block (cw_region (sr rfl rfl rfl ((q_move rfl rfl)) ?_))))
    refine sr rfl rfl rfl ((q_add rfl rfl rfl (by intro hc; omega))) ?_
    refine sr rfl rfl rfl ((q_assign rfl rfl)) (sw_nil (post_blk ?_))
    refine post_next (k + (Utf8.decode s k).2, l ++ [⟨(Utf8.decode s k).1⟩]) (by simp only [List.length_append, List.length_cons, List.length_nil]; exact (by exact .cons rfl (.cons rfl .nil))) (fun w' hw' => ?_) ⟨by simp; omega, by simp; omega, by rw [hall, hst]; simp⟩ (by simp only; omega)
    rw [← hnp]
    exact (fun w h => Cl.sel (by exact .take 0 rfl (.nil _)) w h) _ hw'
  · skip
    have hk : ¬ k < s.size := by simpa using h2
    have he := runesP_end hk
    have e : l = runes s := by rw [hall, he]; simp
    refine cw_exit (post_then_x (post_then_x (post_blk_eq (post_then (cw_seq (cw_region (sr rfl rfl rfl ((q_move rfl rfl)) (sr rfl rfl rfl ((q_assign rfl rfl)) (sw_nil (post_then (cw_ret (post_ret1 rfl (resOk_tmp rfl) ?_))))))))))))
    exact fun w' hw => ⟨by rw [← e], (fun w h => Cl.sel (by exact .nil _) w h) _ hw⟩
def sndS (pl : List ByteArray) (fr why ix : Int) : List Snd := pl.map fun ph => ⟨ph, fr, why, ix⟩
theorem sndS_len (pl : List ByteArray) (fr why ix : Int) : (sndS pl fr why ix).length = pl.length := by simp [sndS]
theorem sndS_take {pl : List ByteArray} {fr why ix : Int} {j : Nat} (hj : j < pl.length) : (sndS pl fr why ix).take (j + 1) = (sndS pl fr why ix).take j ++ [⟨nth pl j, fr, why, ix⟩] := by
  rw [List.take_succ_eq_append_getElem (by rw [sndS_len]; exact hj)]
  simp [sndS, nth_get hj]
theorem sndS_all {pl : List ByteArray} {fr why ix : Int} : (sndS pl fr why ix).take pl.length = sndS pl fr why ix := List.take_of_length_le (by rw [sndS_len]; exact Nat.le_refl _)
def entS (l : List Sp) (i : Int) : List Snd := sndS (nth l i.toNat).pl 0 1 i
def parF (l : List Sp) : Int → List ByteArray → List Snd
  | _, [] => []
  | fr, q :: ps => sndS (nth l (idxW l q).toNat).pl fr 2 (idxW l q) ++ parF l (fr + (runes q).length) ps
theorem splP_mem {ok : Nat → Nat → Bool} {n : Nat} : ∀ (f i : Nat), 0 ≤ splV ok n i → ∀ p ∈ splP ok n f i, ok p.1 p.2 = true ∧ p.2 ≤ n
  | 0, _, _, p, hp => by cases hp
  | f + 1, i, h, p, hp => by
    unfold splP at hp
    split at hp
    · rename_i hi
      obtain ⟨a1, a2, a3, a4, a5, a6, a7⟩ := splX_spec hi h
      rcases List.mem_cons.1 hp with rfl | hp
      · exact ⟨a4, a2⟩
      · exact splP_mem f _ a5 p hp
    · cases hp
theorem splS_mem {l : List Sp} {s : ByteArray} (h : ¬ splV (okW l s) s.size 0 < 0) : ∀ q ∈ splS l s, 0 ≤ idxW l q ∧ q.size ≤ s.size := fun q hq => by
  unfold splS at hq
  obtain ⟨p, hp, rfl⟩ := List.mem_map.1 hq
  obtain ⟨h1, h2⟩ := splP_mem _ _ (by omega) p hp
  unfold okW at h1
  exact ⟨by simpa using h1, by rw [ByteArray.size_extract]; omega⟩
theorem splS_le (l : List Sp) (s : ByteArray) (h : ¬ splV (okW l s) s.size 0 < 0) : (splS l s).length ≤ s.size + 1 := by
  unfold splS
  rw [List.length_map]
  by_cases h0 : 0 < s.size
  · have h1 := splP_len (ok := okW l s) (n := s.size) s.size 0 (by omega) (by omega) (by omega) h0
    have : splV (okW l s) s.size 0 ≤ 1 + (s.size : Int) := by
      unfold splV
      rw [if_pos rfl]
      exact (bestK_bd (ok := okW l s) (f := partsD (okW l s) s.size) (i := 0) (B := (s.size : Int)) (c := s.size - 1) (by omega) fun k a b => by have := (partsD_bd (ok := okW l s) (n := s.size) (q := s.size) (i := k) (by omega) (by omega)).2; omega).2
    omega
  · have : s.size = 0 := by omega
    rw [this]; simp [splP]
theorem sp_blk {bs : Nat} {lx : SlV} {b : Bk} {w : World} (h : Stb w [] (BlkAt bs [lx.v, b.b.v] 131)) : Stb w [] (BlkIs bs 0 lx) := blkIs_stb h fun j v hj => by
  match j, hj with
  | 0, hj => simpa [Enc.enc] using hj
  | j + 1, hj => simp [Enc.enc] at hj
theorem entry_spec (bs : Nat) (lx : SlV) (b : Bk) (l : List Sp) (s : ByteArray) (hr : riseB spC l = true) (hpl : ∀ u ∈ l, u.pl.length ≤ 1000) (w : World) (hsp : Stb w [] (BlkAt bs [lx.v, b.b.v] 131)) (hs : Stb w [] (RdL lx.v l)) (hp : Stb w [] fun w' => ∀ u ∈ l, SpIn u w') :
    Calls Tryz.prog 102 #[.pointer (some ⟨bs, 0, none⟩), .string s] w fun e w' => ∃ r : SlV, e = .returned (.tuple #[r.v, .bool (decide (0 ≤ idxW l s))]) ∧ True ∧ Cl w [] [ownL 136 r.v (if 0 ≤ idxW l s then entS l (idxW l s) else [])] w' := by
  have hli := sp_blk hsp
  have hL := rd_len hs.here
  have hib := idxW_bd l s
  refine calls_cw (vs := [_, _]) Tryz.func102 rfl Tryz.ntmps102 rfl (Cl.start0 w) (cw_seq (cw_region (sr rfl rfl rfl ((q_assign rfl rfl)) (sr rfl rfl rfl ((q_assign rfl rfl)) (sw_nil (post_then (cw_seq (cw_region (sr rfl rfl rfl ((q_move rfl rfl)) (sr rfl rfl rfl ((q_nilCheck rfl rfl)) (sr rfl rfl rfl ((q_fieldAddr rfl rfl)) ?_)))))))))))
  refine sr rfl rfl rfl ((q_loadS rfl rfl (fun w hw => Stb.cl (by assumption) hw) rfl)) ?_
  refine sr rfl rfl rfl ((q_move rfl rfl)) (sw_step rfl rfl rfl (q_call (CanCall.mk Tryz.call137) rfl (.cons rfl inferInstance (.cons rfl inferInstance (.nil))) (fun _ w hw => callq hw (find_spec lx l s hr w (stb_arg hw hs)))) (sr rfl rfl rfl ((q_assign rfl rfl)) (sw_nil (post_then (cw_seq (cw_seq (cw_region (sr rfl rfl rfl ((q_move rfl rfl)) (sr rfl rfl rfl ((q_lss rfl rfl rfl)) (sw_nil (post_then ?_)))))))))))
  refine cw_cond rfl (fun h => ?_) (fun h => ?_)
  · skip
    have h1 : ¬ 0 ≤ idxW l s := by simp at h; omega
    refine cw_seq (cw_region (sr rfl rfl rfl ((q_assign rfl rfl)) (sr rfl rfl rfl ((q_assign rfl rfl)) (sw_nil (post_then (cw_ret (post_then_r (post_ret2 rfl (resOk_tmp rfl) (resOk_tmp rfl) ?_))))))))
    exact fun w' hw => ⟨⟨none, 0, 0⟩, by rw [decide_eq_false h1]; rfl, trivial, by rw [if_neg h1]; exact Cl.addNil 136 ((fun w h => Cl.sel (by exact .nil _) w h) _ hw)⟩
  · skip
    have h1 : 0 ≤ idxW l s := by simp at h; omega
    obtain ⟨i, hi⟩ : ∃ i, idxW l s = i := ⟨_, rfl⟩
    rw [hi] at h1 hib ⊢
    rw [if_pos h1, decide_eq_true h1]
    have him : i.toNat < l.length := by omega
    have hxs : Stb w [] (RdL (nth l i.toNat).p.v (nth l i.toNat).pl) := stb_mem hp (nth_mem him)
    have hxl := hpl _ (nth_mem him)
    refine cw_skip (post_then (cw_seq (cw_region (sr rfl rfl rfl ((q_assign rfl rfl)) (sw_nil (post_then (cw_seq (cw_seq (cw_region (sr rfl rfl rfl ((q_move rfl rfl)) (sr rfl rfl rfl ((q_nilCheck rfl rfl)) (sr rfl rfl rfl ((q_fieldAddr rfl rfl)) ?_))))))))))))
    refine sr rfl rfl rfl ((q_loadS rfl rfl (fun w hw => Stb.cl (by assumption) hw) rfl)) ?_
    refine sr rfl rfl rfl ((q_move rfl rfl)) ?_
    refine sr rfl rfl rfl ((q_index rfl rfl rfl (by exact fun w hw => Stb.cl (by assumption) hw) (by intro hc; omega))) ?_
    refine sr rfl rfl rfl ((q_fieldEl rfl rfl (by exact fun w hw => Stb.cl (by assumption) hw) (by intro hc; omega))) ?_
    refine sr rfl rfl rfl ((q_loadF rfl rfl rfl (by exact fun w hw => Stb.cl (by assumption) hw) (by intro hc; omega) rfl)) ?_
    refine sr rfl rfl rfl ((q_len rfl (.cons rfl inferInstance (.nil)) (by exact fun w hw => Stb.cl (by assumption) hw))) ?_
    refine sr rfl rfl rfl ((q_move rfl rfl)) (sw_nil (post_then (cw_block ?_)))
    refine cw_loop (S := Nat × SlV) (fun y => [(6, [], .int .i64 i), (7, [], y.2.v), (25, [], (nth l i.toNat).p.v), (26, [], .int .i64 (nth l i.toNat).pl.length), (27, [], .int .i64 y.1)]) (fun y => Cl w [] [ownL 136 y.2.v ((entS l i).take y.1)]) (fun y => y.1 ≤ (nth l i.toNat).pl.length) (fun y => (nth l i.toNat).pl.length - y.1) (0, ⟨none, 0, 0⟩) (by simp) (by exact .cons rfl (.cons rfl (.cons rfl (.cons rfl (.cons rfl .nil))))) (fun w' h => Cl.addNil 136 ((fun w h => Cl.sel (by exact .nil _) w h) _ h)) ?_
    rintro ⟨j, so⟩ hj
    dsimp only at hj ⊢
    have htl : ((entS l i).take j).length ≤ 1000 := by rw [List.length_take]; omega
    refine cw_seq (cw_region (sr rfl rfl rfl ((q_lss rfl rfl rfl)) (sw_nil (post_then (cw_seq ?_)))))
    refine cw_cond rfl (fun h2 => ?_) (fun h2 => ?_)
    · skip
      have hj' : j < (nth l i.toNat).pl.length := by simp at h2; omega
      have hst := sndS_take (fr := 0) (why := 1) (ix := i) hj'
      refine cw_skip (post_then (cw_seq (cw_block (cw_seq (cw_region ?_)))))
      refine sr rfl rfl rfl ((q_indexN rfl rfl rfl (by exact fun w hw => Stb.cl (by assumption) hw) (by intro hc; omega))) ?_
      refine sr rfl rfl rfl ((q_loadEl rfl rfl rfl (by exact fun w hw => Stb.cl (by assumption) hw) (by intro hc; omega))) ?_
      refine sr rfl rfl rfl ((q_assign rfl rfl)) (sw_nil (post_then (cw_region (sr rfl rfl rfl ((q_move rfl rfl)) (sr rfl rfl rfl ((q_move rfl rfl)) (sr rfl rfl rfl ((q_move rfl rfl)) (sr rfl rfl rfl ((q_build rfl (.cons rfl inferInstance (.cons rfl inferInstance (.cons rfl inferInstance (.nil)))) rfl)) ?_)))))))
      refine sw_x rfl rfl rfl (e_build1 (α := Snd) (x := (⟨nth (nth l i.toNat).pl j, 0, 1, i⟩ : Snd)) rfl rfl rfl rfl) (fun s35 => ?_)
      refine sw_x rfl rfl rfl (e_append (i := 1) rfl (.cons rfl inferInstance (.cons rfl inferInstance (.nil))) rfl rfl (by exact fun w hw => rd_own hw (by exact .head _)) (by first | omega | (simp only [List.length_set, List.length_append, List.length_cons, List.length_nil, List.length_replicate, List.length_take, List.length_drop, List.length_map]; omega)) rfl) (fun s36 => ?_)
      refine sr rfl rfl rfl ((q_assign rfl rfl)) (sw_nil (post_blk (post_then (cw_region ?_))))
      refine sr rfl rfl rfl ((q_add rfl rfl rfl (by intro hc; omega))) ?_
      refine sr rfl rfl rfl ((q_move rfl rfl)) (sw_nil ?_)
      exact post_next (j + 1, s36) (by exact .cons rfl (.cons rfl (.cons rfl (.cons rfl (.cons rfl .nil))))) (fun w' h => by simp only; unfold entS at h ⊢; rw [hst]; exact (fun w h => Cl.sel (by exact .take 1 rfl (.nil _)) w h) _ h) (by simp only; omega) (by simp only; omega)
    · skip
      have hj' : j = (nth l i.toNat).pl.length := by simp at h2; omega
      subst hj'
      have hst : (entS l i).take (nth l i.toNat).pl.length = entS l i := sndS_all
      rw [hst]
      refine cw_exit (post_then_x (post_then_x (post_blk_eq (post_then (cw_seq (cw_region (sr rfl rfl rfl ((q_move rfl rfl)) (sr rfl rfl rfl ((q_assign rfl rfl)) (sr rfl rfl rfl ((q_assign rfl rfl)) (sw_nil (post_then (cw_ret (post_ret2 rfl (resOk_tmp rfl) (resOk_tmp rfl) ?_)))))))))))))
      exact fun w' hw => ⟨so, rfl, trivial, hw⟩
end Go.Proofs.YtkmbliojafefdaaGreatDoor

set_option autoImplicit false
set_option maxRecDepth 100000
namespace Go.Proofs.YtkmbliojafefdaaGreatDoor
open Go.Sx
open Enc (enc val)
theorem parF_drop {l : List Sp} {fr : Int} {ps : List ByteArray} {k : Nat} (hk : k < ps.length) : parF l fr (ps.drop k) = sndS (nth l (idxW l (nth ps k)).toNat).pl fr 2 (idxW l (nth ps k)) ++ parF l (fr + (runes (nth ps k)).length) (ps.drop (k + 1)) := by
  rw [List.drop_eq_getElem_cons hk, nth_get hk]; rfl
theorem parF_end {l : List Sp} {fr : Int} {ps : List ByteArray} {k : Nat} (hk : ps.length ≤ k) : parF l fr (ps.drop k) = [] := by
  rw [List.drop_eq_nil_of_le hk]; rfl
theorem speakParts_spec (bs : Nat) (lx : SlV) (b : Bk) (l : List Sp) (s : ByteArray) (hz : s.size ≤ 1000) (hr : riseB spC l = true) (hpl : ∀ u ∈ l, u.pl.length ≤ 1000) (w : World) (hsp : Stb w [] (BlkAt bs [lx.v, b.b.v] 131)) (hs : Stb w [] (RdL lx.v l)) (hp : Stb w [] fun w' => ∀ u ∈ l, SpIn u w') :
    Calls Tryz.prog 103 #[.pointer (some ⟨bs, 0, none⟩), .string s] w fun e w' => ∃ r : SlV, e = .returned (.tuple #[r.v, .bool (decide (¬ splV (okW l s) s.size 0 < 0))]) ∧ True ∧ Cl w [] [ownL 136 r.v (if splV (okW l s) s.size 0 < 0 then [] else parF l 0 (splS l s))] w' := by
  have hli := sp_blk hsp
  have hL := rd_len hs.here
  refine calls_cw (vs := [_, _]) Tryz.func103 rfl Tryz.ntmps103 rfl (Cl.start0 w) (cw_seq (cw_region (sr rfl rfl rfl ((q_assign rfl rfl)) (sr rfl rfl rfl ((q_assign rfl rfl)) (sw_nil (post_then (cw_seq (cw_region (sr rfl rfl rfl ((q_move rfl rfl)) (sr rfl rfl rfl ((q_nilCheck rfl rfl)) (sr rfl rfl rfl ((q_fieldAddr rfl rfl)) ?_)))))))))))
  refine sr rfl rfl rfl ((q_loadS rfl rfl (fun w hw => Stb.cl (by assumption) hw) rfl)) ?_
  refine sr rfl rfl rfl ((q_move rfl rfl)) ?_
  refine sw_x rfl rfl rfl (e_call (CanCall.mk Tryz.call96) rfl (.cons rfl inferInstance (.cons rfl inferInstance (.nil))) (fun w1 hw => split_spec lx l s hr hz w1 (stb_arg hw hs))) (fun s19 => ?_)
  refine sw_imp fun hnil => (sr rfl rfl rfl ((q_assign rfl rfl)) (sw_nil (post_then (cw_seq (cw_seq (cw_region (sr rfl rfl rfl ((q_move rfl rfl)) (sr rfl rfl rfl ((q_eqlNil rfl rfl)) (sw_nil (post_then ?_))))))))))
  rw [hnil]
  refine cw_cond rfl (fun h => ?_) (fun h => ?_)
  · skip
    have h1 : splV (okW l s) s.size 0 < 0 := by simpa using h
    refine cw_seq (cw_region (sr rfl rfl rfl ((q_assign rfl rfl)) (sr rfl rfl rfl ((q_assign rfl rfl)) (sw_nil (post_then (cw_ret (post_then_r (post_ret2 rfl (resOk_tmp rfl) (resOk_tmp rfl) ?_))))))))
    exact fun w' hw => ⟨⟨none, 0, 0⟩, by rw [decide_eq_false (by omega)]; rfl, trivial, by rw [if_pos h1]; exact Cl.addNil 136 ((fun w h => Cl.sel (by exact .nil _) w h) _ hw)⟩
  · skip
    have h1 : ¬ splV (okW l s) s.size 0 < 0 := by simpa using h
    rw [if_neg h1, if_neg h1, decide_eq_true h1]
    have hmem := splS_mem h1
    have hle := splS_le l s h1
    obtain ⟨ps, hps⟩ : ∃ ps, splS l s = ps := ⟨_, rfl⟩
    rw [hps] at hmem hle ⊢
    refine cw_skip (post_then (cw_seq (cw_region (sr rfl rfl rfl ((q_assign rfl rfl)) (sw_nil (post_then (cw_seq (cw_region (sr rfl rfl rfl ((q_assign rfl rfl)) (sw_nil (post_then (cw_seq (cw_seq (cw_region (sr rfl rfl rfl ((q_move rfl rfl)) ?_)))))))))))))))
    refine sr rfl rfl rfl ((q_len rfl (.cons rfl inferInstance (.nil)) (by exact fun w hw => rd_own hw (by exact .head _)))) ?_
    refine sr rfl rfl rfl ((q_move rfl rfl)) (sw_nil (post_then (cw_block ?_)))
    refine cw_loop (S := Nat × Int × SlV × List Snd) (fun y => [(0, [], .pointer (some ⟨bs, 0, none⟩)), (7, [], y.2.2.1.v), (8, [], .int .i64 y.2.1), (22, [], s19.v), (23, [], .int .i64 ps.length), (24, [], .int .i64 y.1)]) (fun y => Cl w [] [ownL 136 y.2.2.1.v y.2.2.2, ownL 9 s19.v ps]) (fun y => y.1 ≤ ps.length ∧ 0 ≤ y.2.1 ∧ y.2.1 ≤ 1000 * y.1 ∧ y.2.2.2.length ≤ 1000 * y.1 ∧ parF l 0 ps = y.2.2.2 ++ parF l y.2.1 (ps.drop y.1)) (fun y => ps.length - y.1) (0, 0, ⟨none, 0, 0⟩, []) ⟨by simp, by simp, by simp, by simp, by simp⟩ (by exact .cons rfl (.cons rfl (.cons rfl (.cons rfl (.cons rfl (.cons rfl .nil)))))) (fun w' h => Cl.addNil 136 ((fun w h => Cl.sel (by exact .take 0 rfl (.nil _)) w h) _ h)) ?_
    rintro ⟨k, fr, so, out⟩ ⟨hk, hf0, hf1, hol, hout⟩
    dsimp only at hk hf0 hf1 hol hout ⊢
    refine cw_seq (cw_region (sr rfl rfl rfl ((q_lss rfl rfl rfl)) (sw_nil (post_then (cw_seq ?_)))))
    refine cw_cond rfl (fun h2 => ?_) (fun h2 => ?_)
    · skip
      have hk' : k < ps.length := by simp at h2; omega
      obtain ⟨q, hq⟩ : ∃ q, nth ps k = q := ⟨_, rfl⟩
      have hqm := hmem q (by rw [← hq]; exact nth_mem hk')
      have hst := parF_drop (l := l) (fr := fr) hk'
      rw [hq] at hst
      obtain ⟨i, hi⟩ : ∃ i, idxW l q = i := ⟨_, rfl⟩
      have hib := idxW_bd l q
      rw [hi] at hst hqm hib
      have him : i.toNat < l.length := by omega
      have hxs : Stb w [] (RdL (nth l i.toNat).p.v (nth l i.toNat).pl) := stb_mem hp (nth_mem him)
      have hxl := hpl _ (nth_mem him)
      have hrl := runes_len_le q
      rw [hst] at hout
      refine cw_skip (post_then (cw_seq (cw_block (cw_seq (cw_region ?_)))))
      refine sr rfl rfl rfl ((q_indexN rfl rfl rfl (by exact fun w hw => rd_own hw (by exact .tail _ (.head _))) (by intro hc; omega))) ?_
      refine sr rfl rfl rfl ((q_loadEl rfl rfl rfl (by exact fun w hw => rd_own hw (by exact .tail _ (.head _))) (by intro hc; omega))) ?_
      refine sr rfl rfl rfl ((q_assign rfl rfl)) (sw_nil (post_then (cw_seq (cw_region (sr rfl rfl rfl ((q_move rfl rfl)) (sr rfl rfl rfl ((q_nilCheck rfl rfl)) (sr rfl rfl rfl ((q_fieldAddr rfl rfl)) ?_)))))))
      refine sr rfl rfl rfl ((q_loadS rfl rfl (fun w hw => Stb.cl (by assumption) hw) rfl)) ?_
      refine sr rfl rfl rfl ((q_move rfl rfl)) ?_
      rw [hq]
      refine sw_step rfl rfl rfl (q_call (CanCall.mk Tryz.call137) rfl (.cons rfl inferInstance (.cons rfl inferInstance (.nil))) (fun _ w1 hw => callq hw (find_spec lx l q hr w1 (stb_arg hw hs)))) ?_
      rw [hi]
      refine sr rfl rfl rfl ((q_assign rfl rfl)) (sw_nil (post_then (cw_seq (cw_seq (cw_region (sr rfl rfl rfl ((q_move rfl rfl)) (sr rfl rfl rfl ((q_nilCheck rfl rfl)) (sr rfl rfl rfl ((q_fieldAddr rfl rfl)) ?_))))))))
      refine sr rfl rfl rfl ((q_loadS rfl rfl (fun w hw => Stb.cl (by assumption) hw) rfl)) ?_
      refine sr rfl rfl rfl ((q_move rfl rfl)) ?_
      refine sr rfl rfl rfl ((q_index rfl rfl rfl (by exact fun w hw => Stb.cl (by assumption) hw) (by intro hc; omega))) ?_
      refine sr rfl rfl rfl ((q_fieldEl rfl rfl (by exact fun w hw => Stb.cl (by assumption) hw) (by intro hc; omega))) ?_
      refine sr rfl rfl rfl ((q_loadF rfl rfl rfl (by exact fun w hw => Stb.cl (by assumption) hw) (by intro hc; omega) rfl)) ?_
      refine sr rfl rfl rfl ((q_len rfl (.cons rfl inferInstance (.nil)) (by exact fun w hw => Stb.cl (by assumption) hw))) ?_
      refine sr rfl rfl rfl ((q_move rfl rfl)) (sw_nil (post_then (cw_block ?_)))
      refine cw_loop (S := Nat × SlV × List Snd) (fun y => [(0, [], .pointer (some ⟨bs, 0, none⟩)), (7, [], y.2.1.v), (8, [], .int .i64 fr), (10, [], .string q), (11, [], .int .i64 i), (22, [], s19.v), (23, [], .int .i64 ps.length), (24, [], .int .i64 k), (41, [], (nth l i.toNat).p.v), (42, [], .int .i64 (nth l i.toNat).pl.length), (43, [], .int .i64 y.1)]) (fun y => Cl w [] [ownL 136 y.2.1.v y.2.2, ownL 9 s19.v ps]) (fun y => y.1 ≤ (nth l i.toNat).pl.length ∧ y.2.2 = out ++ (sndS (nth l i.toNat).pl fr 2 i).take y.1) (fun y => (nth l i.toNat).pl.length - y.1) (0, so, out) ⟨by simp, by simp⟩ (by exact .cons rfl (.cons rfl (.cons rfl (.cons rfl (.cons rfl (.cons rfl (.cons rfl (.cons rfl (.cons rfl (.cons rfl (.cons rfl .nil))))))))))) (fun w' h => h) ?_
      rintro ⟨j, so2, out2⟩ ⟨hj, hout2⟩
      dsimp only at hj hout2 ⊢
      have hol2 : out2.length ≤ 1000 * k + 1000 := by rw [hout2, List.length_append, List.length_take, sndS_len]; omega
      refine cw_seq (cw_region (sr rfl rfl rfl ((q_lss rfl rfl rfl)) (sw_nil (post_then (cw_seq ?_)))))
      refine cw_cond rfl (fun h3 => ?_) (fun h3 => ?_)
      · skip
        have hj' : j < (nth l i.toNat).pl.length := by simp at h3; omega
        have hst2 := sndS_take (fr := fr) (why := 2) (ix := i) hj'
        refine cw_skip (post_then (cw_seq (cw_block (cw_seq (cw_region ?_)))))
        refine sr rfl rfl rfl ((q_indexN rfl rfl rfl (by exact fun w hw => Stb.cl (by assumption) hw) (by intro hc; omega))) ?_
        refine sr rfl rfl rfl ((q_loadEl rfl rfl rfl (by exact fun w hw => Stb.cl (by assumption) hw) (by intro hc; omega))) ?_
        refine sr rfl rfl rfl ((q_assign rfl rfl)) (sw_nil (post_then (cw_region (sr rfl rfl rfl ((q_move rfl rfl)) (sr rfl rfl rfl ((q_move rfl rfl)) (sr rfl rfl rfl ((q_move rfl rfl)) (sr rfl rfl rfl ((q_move rfl rfl)) (sr rfl rfl rfl ((q_build rfl (.cons rfl inferInstance (.cons rfl inferInstance (.cons rfl inferInstance (.cons rfl inferInstance (.nil))))) rfl)) ?_))))))))
        refine sw_x rfl rfl rfl (e_build1 (α := Snd) (x := (⟨nth (nth l i.toNat).pl j, fr, 2, i⟩ : Snd)) rfl rfl rfl rfl) (fun s52 => ?_)
        refine sw_x rfl rfl rfl (e_append (i := 1) rfl (.cons rfl inferInstance (.cons rfl inferInstance (.nil))) rfl rfl (by exact fun w hw => rd_own hw (by exact .head _)) (by first | omega | (simp only [List.length_set, List.length_append, List.length_cons, List.length_nil, List.length_replicate, List.length_take, List.length_drop, List.length_map]; omega)) rfl) (fun s53 => ?_)
        refine sr rfl rfl rfl ((q_assign rfl rfl)) (sw_nil (post_blk (post_then (cw_region ?_))))
        refine sr rfl rfl rfl ((q_add rfl rfl rfl (by intro hc; omega))) ?_
        refine sr rfl rfl rfl ((q_move rfl rfl)) (sw_nil ?_)
        exact post_next (j + 1, s53, out2 ++ [(⟨nth (nth l i.toNat).pl j, fr, 2, i⟩ : Snd)]) (by exact .cons rfl (.cons rfl (.cons rfl (.cons rfl (.cons rfl (.cons rfl (.cons rfl (.cons rfl (.cons rfl (.cons rfl (.cons rfl .nil))))))))))) (fun w' h => (fun w h => Cl.sel (by exact .take 1 rfl (.take 1 rfl (.nil _))) w h) _ h) ⟨by simp only; omega, by simp only; rw [hst2, hout2, List.append_assoc]⟩ (by simp only; omega)
      · skip
        have hj' : j = (nth l i.toNat).pl.length := by simp at h3; omega
        subst hj'
        rw [sndS_all] at hout2
        refine cw_exit (post_then_x (post_then_x (post_blk_eq (post_then (cw_region (sr rfl rfl rfl ((q_move rfl rfl)) (sr rfl rfl rfl ((q_move rfl rfl)) ?_)))))))
        refine sw_step rfl rfl rfl (q_call (CanCall.mk Tryz.call140) rfl (.cons rfl inferInstance (.nil)) (fun _ w hw => callq hw (runeCount_spec _ w (by omega)))) ?_
        refine sr rfl rfl rfl ((q_add rfl rfl rfl (by intro hc; omega))) ?_
        refine sr rfl rfl rfl ((q_assign rfl rfl)) (sw_nil (post_blk (post_then (cw_region ?_))))
        refine sr rfl rfl rfl ((q_add rfl rfl rfl (by intro hc; omega))) ?_
        refine sr rfl rfl rfl ((q_move rfl rfl)) (sw_nil ?_)
        refine post_next (k + 1, fr + (runes q).length, so2, out2) (by exact .cons rfl (.cons rfl (.cons rfl (.cons rfl (.cons rfl (.cons rfl .nil)))))) (fun w' h => h) ⟨by simp only; omega, by simp only; omega, by simp only; omega, by simp only; omega, ?_⟩ (by simp only; omega)
        simp only
        rw [hout, hout2, List.append_assoc]
    · skip
      have hk' : k = ps.length := by simp at h2; omega
      rw [parF_end (by omega), List.append_nil] at hout
      refine cw_exit (post_then_x (post_then_x (post_blk_eq (post_then (cw_seq (cw_region (sr rfl rfl rfl ((q_move rfl rfl)) (sr rfl rfl rfl ((q_assign rfl rfl)) (sr rfl rfl rfl ((q_assign rfl rfl)) (sw_nil (post_then (cw_ret (post_ret2 rfl (resOk_tmp rfl) (resOk_tmp rfl) ?_)))))))))))))
      exact fun w' hw => ⟨so, rfl, trivial, by rw [hout]; exact (fun w h => Cl.sel (by exact .take 0 rfl (.nil _)) w h) _ hw⟩
def pronC (l : List Sp) (bl : List Let) (s : ByteArray) : List Snd := if 0 ≤ idxW l s then entS l (idxW l s) else if splV (okW l s) s.size 0 < 0 then sayC bl (runes s) else parF l 0 (splS l s)
end Go.Proofs.YtkmbliojafefdaaGreatDoor

set_option autoImplicit false
set_option maxRecDepth 100000
namespace Go.Proofs.YtkmbliojafefdaaGreatDoor
open Go.Sx
open Enc (enc val)
end Go.Proofs.YtkmbliojafefdaaGreatDoor

set_option autoImplicit false
set_option maxRecDepth 100000
namespace Go.Proofs.YtkmbliojafefdaaGreatDoor
open Go.Sx
open Enc (enc val)
end Go.Proofs.YtkmbliojafefdaaGreatDoor

set_option autoImplicit false
set_option maxRecDepth 100000
namespace Go.Proofs.YtkmbliojafefdaaGreatDoor
open Go.Sx
open Enc (enc val)
end Go.Proofs.YtkmbliojafefdaaGreatDoor

/- Method values: functions with their first argument bound. General lemmas, no program text. -/
set_option autoImplicit false
namespace Go.Sx
open Enc (enc val)
section
variable {P : Program} {n : Fr} {E : Env} {C : World → Prop} {cs : List Bool} {o : Oper} {w0 : World} {fp : List Nat} {H : List Asn}
theorem q_func_b {f : Fn} {l : List Operand} {vs : List Value} (ho : o.op = .makeFunc f l.toArray #[]) (hv : Evs E cs l vs) : OpR P n E C cs o (.func f vs.toArray #[]) :=
  .of_run fun e he hc w _ => by
    unfold execOp; simp only [ho]
    rw [List.map_toArray, hv.eval he hc]
    simp [Instr.makeFunc]
theorem e_callB {α : Type} {vf : α → Value} {p : α → Prop} {B : α → List Asn} {f : FuncId} {first : Array Value} {x : Operand} {cx : List Bool} {l : List Operand} {ts : Array TypeId} {vs : List Value} (hf : CanCall P f) (ho : o.op = .call { callee := .value x, args := l.toArray, argTypes := ts })
    (hx : evl E x = some (cx, .func (.func f) first #[])) [hs : Sub cx []] (hv : Evs E [] l vs)
    (h : ∀ w, Cl w0 fp H w → Calls P f (first ++ vs.toArray) w fun e w' => ∃ x, e = .returned (vf x) ∧ p x ∧ Cl w [] (B x) w') : OpE P n E (Cl w0 fp H) o (fun v w' => ∃ x, v = vf x ∧ p x ∧ Cl w0 fp (B x ++ H) w') :=
  .of_call (f := f) (args := first ++ vs.toArray) (fun a w ha hw => by
    unfold execOp; simp only [ho]
    simp only [resolve, ha.eval hx hs AllT.nil, Deferred.ofValue, invoke, List.map_toArray, hv.eval ha AllT.nil, Sem.run_bind, Sem.run_pure, Result.andThen_ok, Array.append_empty]
    simp [hf.run]) fun w hw => (h w hw).mono fun e w' ⟨x, he, hp, hc⟩ => ⟨_, he, x, rfl, hp, hw.split0.2.2 _ _ hc⟩
end
end Go.Sx

set_option autoImplicit false
set_option maxRecDepth 100000
namespace Go.Proofs.YtkmbliojafefdaaGreatDoor
open Go.Sx
open Enc (enc val)
/-- A method value: a function, the block of its receiver. -/
structure Fv where
  g : Nat
  b : Nat
instance : Inhabited Fv := ⟨⟨0, 0⟩⟩
instance : Enc Fv := ⟨fun u => [.func (.func u.g) #[.pointer (some ⟨u.b, 0, none⟩)] #[]], 1, fun u => .func (.func u.g) #[.pointer (some ⟨u.b, 0, none⟩)] #[], fun _ => rfl, by simp [Value.oneCell'], fun _ => rfl, by decide⟩
instance : HasTy Tryz.prog 132 Fv := hasTy_cell Tryz.sizeOf132 Tryz.isAgg132 rfl (fun _ => rfl)
def pronE (l : List Sp) (bl : List Let) (s : ByteArray) : Int := if lexE l = 0 then (if bookOk bl && wordOk s then (if 120 < (pronC l bl s).length then 4 else 0) else 2) else lexE l
def pronR (l : List Sp) (bl : List Let) (s : ByteArray) : List Snd := if pronE l bl s = 0 then pronC l bl s else []
/-- The three ways: which function, whether it says something, what. -/
def wayG (k : Nat) : Nat := if k = 0 then 102 else if k = 1 then 103 else 79
def wayB (l : List Sp) (s : ByteArray) (k : Nat) : Bool := if k = 0 then decide (0 ≤ idxW l s) else if k = 1 then decide (¬ splV (okW l s) s.size 0 < 0) else true
def wayR (l : List Sp) (bl : List Let) (s : ByteArray) (k : Nat) : List Snd := if k = 0 then (if 0 ≤ idxW l s then entS l (idxW l s) else []) else if k = 1 then (if splV (okW l s) s.size 0 < 0 then [] else parF l 0 (splS l s)) else sayC bl (runes s)
theorem way_can (k : Nat) : CanCall Tryz.prog (wayG k) := by
  unfold wayG
  split
  · exact CanCall.mk Tryz.call102
  · split
    · exact CanCall.mk Tryz.call103
    · exact CanCall.mk Tryz.call79
theorem way_spec (k bs : Nat) (lx : SlV) (b : Bk) (l : List Sp) (s : ByteArray) (hz : s.size ≤ 1000) (hn : (runes s).length ≤ 80) (hr : riseB spC l = true) (hpl : ∀ u ∈ l, u.pl.length ≤ 1000) (hg : BGood b.bl) (w : World) (hsp : Stb w [] (BlkAt bs [lx.v, b.b.v] 131)) (hs : Stb w [] (RdL lx.v l)) (hp : Stb w [] fun w' => ∀ u ∈ l, SpIn u w') (hb : Stb w [] (BkIn b)) :
    Calls Tryz.prog (wayG k) #[.pointer (some ⟨bs, 0, none⟩), .string s] w fun e w' => ∃ r : SlV, e = .returned (.tuple #[r.v, .bool (wayB l s k)]) ∧ True ∧ Cl w [] [ownL 136 r.v (wayR l b.bl s k)] w' := by
  unfold wayG wayB wayR
  by_cases h0 : k = 0
  · simp only [if_pos h0]
    exact entry_spec bs lx b l s hr hpl w hsp hs hp
  · simp only [if_neg h0]
    by_cases h1 : k = 1
    · simp only [if_pos h1]
      exact speakParts_spec bs lx b l s hz hr hpl w hsp hs hp
    · simp only [if_neg h1]
      exact rules_spec bs lx b s (by omega) hn hg w hsp hb
theorem wayB_0 (l : List Sp) (s : ByteArray) : wayB l s 0 = decide (0 ≤ idxW l s) := rfl
theorem wayB_1 (l : List Sp) (s : ByteArray) : wayB l s 1 = decide (¬ splV (okW l s) s.size 0 < 0) := rfl
theorem wayR_0 (l : List Sp) (bl : List Let) (s : ByteArray) : wayR l bl s 0 = if 0 ≤ idxW l s then entS l (idxW l s) else [] := rfl
theorem wayR_1 (l : List Sp) (bl : List Let) (s : ByteArray) : wayR l bl s 1 = if splV (okW l s) s.size 0 < 0 then [] else parF l 0 (splS l s) := rfl
theorem wayR_2 (l : List Sp) (bl : List Let) (s : ByteArray) : wayR l bl s 2 = sayC bl (runes s) := rfl
theorem way_is {l : List Sp} {bl : List Let} {s : ByteArray} {k : Nat} (hk : k < 3) (h0 : ∀ j, j < k → wayB l s j = false) (h1 : wayB l s k = true) : wayR l bl s k = pronC l bl s := by
  unfold pronC
  rcases (by omega : k = 0 ∨ k = 1 ∨ k = 2) with rfl | rfl | rfl
  · rw [wayB_0, decide_eq_true_eq] at h1
    rw [wayR_0, if_pos h1, if_pos h1]
  · have g0 := h0 0 (by omega)
    rw [wayB_0, decide_eq_false_iff_not] at g0
    rw [wayB_1, decide_eq_true_eq] at h1
    rw [wayR_1, if_neg g0, if_neg h1, if_neg h1]
  · have g0 := h0 0 (by omega)
    rw [wayB_0, decide_eq_false_iff_not] at g0
    have g1 := h0 1 (by omega)
    rw [wayB_1, decide_eq_false_iff_not, Decidable.not_not] at g1
    rw [wayR_2, if_neg g0, if_pos g1]
theorem pronounce_spec (sl : SlV) (b : Bk) (l : List Sp) (s : ByteArray) (hz : s.size ≤ 1000) (hsz : ∀ u ∈ l, u.word.size ≤ 1000000) (w : World) (hT : Stb w [] Tab) (hs : Stb w [] (RdL sl.v l)) (hp : Stb w [] fun w' => ∀ u ∈ l, SpIn u w') (hb : Stb w [] (BkIn b)) :
    Calls Tryz.prog 57 #[sl.v, val b, .string s] w fun e w' => ∃ r : SlV, e = .returned (.tuple #[r.v, .int .i64 (pronE l b.bl s)]) ∧ True ∧ Cl w [] [ownL 136 r.v (pronR l b.bl s)] w' := by
  have hs2 : s.size ≤ 9223372036854775806 := by omega
  refine calls_cw (vs := [_, _, _]) Tryz.func57 rfl Tryz.ntmps57 rfl (Cl.start0 w) (cw_seq (cw_region ?_))
  refine sw_x rfl rfl rfl (e_box rfl rfl rfl) (fun b4 => ?_)
  refine sr rfl rfl rfl ((q_assign rfl rfl)) (sr rfl rfl rfl ((q_assign rfl rfl)) (sw_nil (post_then (cw_seq (cw_seq (cw_region (sr rfl rfl rfl ((q_move rfl rfl)) (sw_step rfl rfl rfl (q_call (CanCall.mk Tryz.call95) rfl (.cons rfl inferInstance (.nil)) (fun _ w hw => callq hw (lexicon_spec _ l hsz w (stb_arg hw hT) (stb_arg hw hs) (stb_arg hw hp)))) (sr rfl rfl rfl ((q_assign rfl rfl)) (sw_nil (post_then (cw_seq (cw_region (sr rfl rfl rfl ((q_move rfl rfl)) (sr rfl rfl rfl ((q_neq rfl rfl rfl)) (sw_nil (post_then ?_)))))))))))))))))
  refine cw_cond rfl (fun h => ?_) (fun h => ?_)
  · skip
    have h1 : lexE l ≠ 0 := by simpa using h
    have e1 : pronE l b.bl s = lexE l := by unfold pronE; rw [if_neg h1]
    have e2 : pronR l b.bl s = [] := by unfold pronR; rw [if_neg (by rw [e1]; exact h1)]
    refine cw_seq (cw_region (sr rfl rfl rfl ((q_move rfl rfl)) (sr rfl rfl rfl ((q_assign rfl rfl)) (sr rfl rfl rfl ((q_assign rfl rfl)) (sw_nil (post_then (cw_ret (post_then_r (post_ret2 rfl (resOk_tmp rfl) (resOk_tmp rfl) ?_)))))))))
    exact fun w' hw => ⟨⟨none, 0, 0⟩, by rw [e1]; rfl, trivial, by rw [e2]; exact Cl.addNil 136 ((fun w h => Cl.sel (by exact .nil _) w h) _ hw)⟩
  · skip
    have h1 : lexE l = 0 := by simpa using h
    have hE : pronE l b.bl s = if bookOk b.bl && wordOk s then (if 120 < (pronC l b.bl s).length then 4 else 0) else 2 := by unfold pronE; rw [if_pos h1]
    obtain ⟨hr, hall⟩ := lexE_ok h1
    have hpl : ∀ u ∈ l, u.pl.length ≤ 120 := fun u hu => by
      have := List.all_eq_true.1 hall u hu
      simp [spOk, phonesOk] at this; omega
    refine cw_skip (post_then (cw_seq (cw_seq (cw_region ?_))))
    refine sr rfl rfl rfl ((q_loadA rfl rfl (by exact .head _) rfl)) ?_
    refine sw_step rfl rfl rfl (q_call (CanCall.mk Tryz.call33) rfl (.cons rfl inferInstance (.nil)) (fun _ w hw => callq hw (validBook_spec b w (stb_arg hw hb)))) (sr rfl rfl rfl ((q_not rfl rfl)) (sr rfl rfl rfl ((q_move rfl rfl)) (sr rfl rfl rfl ((q_move rfl rfl)) ?_)))
    refine sw_step rfl rfl rfl (q_call (CanCall.mk Tryz.call62) rfl (.cons rfl inferInstance (.nil)) (fun _ w hw => callq hw (isWord_spec _ w (by assumption) (stb_arg hw (by assumption))))) ?_
    refine sr rfl rfl rfl ((q_not rfl rfl)) (sr rfl rfl rfl ((q_or2 rfl rfl rfl)) (sw_nil (post_then ?_)))
    refine cw_cond rfl (fun h2 => ?_) (fun h2 => ?_)
    · skip
      have e1 : pronE l b.bl s = 2 := by
        rw [hE, if_neg]
        cases q1 : bookOk b.bl <;> cases q2 : wordOk s <;> simp [q1, q2] at h2 ⊢
      have e2 : pronR l b.bl s = [] := by unfold pronR; rw [if_neg (by rw [e1]; decide)]
      refine cw_seq (cw_region (sr rfl rfl rfl ((q_assign rfl rfl)) (sr rfl rfl rfl ((q_assign rfl rfl)) (sw_nil (post_then (cw_ret (post_then_r (post_ret2 rfl (resOk_tmp rfl) (resOk_tmp rfl) ?_))))))))
      exact fun w' hw => ⟨⟨none, 0, 0⟩, by rw [e1]; rfl, trivial, by rw [e2]; exact Cl.addNil 136 ((fun w h => Cl.sel (by exact .nil _) w h) _ hw)⟩
    · skip
      have h3 : bookOk b.bl = true ∧ wordOk s = true := by
        cases q1 : bookOk b.bl <;> cases q2 : wordOk s <;> simp [q1, q2] at h2 ⊢
      rw [if_pos (by rw [h3.1, h3.2]; rfl)] at hE
      have hg := good_of h3.1
      have hrl : (runes s).length ≤ 40 := by have := h3.2; simp [wordOk] at this; omega
      refine cw_skip (post_then (cw_seq (cw_region (sr rfl rfl rfl ((q_move rfl rfl)) ?_))))
      refine sr rfl rfl rfl ((q_loadA rfl rfl (by exact .head _) rfl)) ?_
      refine sr rfl rfl rfl ((q_build rfl (.cons rfl inferInstance (.cons rfl inferInstance (.nil))) rfl)) ?_
      refine sw_x rfl rfl rfl (e_box rfl rfl rfl) (fun b30 => ?_)
      refine sr rfl rfl rfl ((q_assign rfl rfl)) (sw_nil (post_then (cw_seq (cw_seq (cw_region (sr rfl rfl rfl ((q_move rfl rfl)) (sr rfl rfl rfl ((q_func_b rfl (.cons rfl inferInstance (.nil)))) (sr rfl rfl rfl ((q_move rfl rfl)) (sr rfl rfl rfl ((q_func_b rfl (.cons rfl inferInstance (.nil)))) (sr rfl rfl rfl ((q_move rfl rfl)) (sr rfl rfl rfl ((q_func_b rfl (.cons rfl inferInstance (.nil)))) ?_)))))))))))
      refine sw_x rfl rfl rfl (e_buildL (α := Fv) (l := [⟨102, b30⟩, ⟨103, b30⟩, ⟨79, b30⟩]) rfl (.cons rfl inferInstance (.cons rfl inferInstance (.cons rfl inferInstance (.nil)))) rfl rfl rfl rfl) (fun s37 => ?_)
      refine sr rfl rfl rfl ((q_len rfl (.cons rfl inferInstance (.nil)) (by exact fun w hw => rd_own hw (by exact .head _)))) ?_
      refine sr rfl rfl rfl ((q_move rfl rfl)) (sw_nil (post_then (cw_block ?_)))
      refine cw_loop (S := Nat) (fun k => [(2, [], .string s), (37, [], s37.v), (38, [], .int .i64 3), (39, [], .int .i64 k)]) (fun _ => Cl w [] [ownL 132 s37.v ([⟨102, b30⟩, ⟨103, b30⟩, ⟨79, b30⟩] : List Fv), blk b30 [sl.v, b.b.v] 131]) (fun k => k ≤ 3 ∧ ∀ j, j < k → wayB l s j = false) (fun k => 3 - k) 0 ⟨by omega, fun j hj => by omega⟩ (by exact .cons rfl (.cons rfl (.cons rfl (.cons rfl .nil)))) (fun w h => Cl.sel (by exact .take 0 rfl (.take 0 rfl (.nil _))) w h) ?_
      rintro k ⟨hk, hbe⟩
      have hl3 : ([⟨102, b30⟩, ⟨103, b30⟩, ⟨79, b30⟩] : List Fv).length = 3 := rfl
      refine cw_seq (cw_region (sr rfl rfl rfl ((q_lss rfl rfl rfl)) (sw_nil (post_then (cw_seq ?_)))))
      refine cw_cond rfl (fun h4 => ?_) (fun h4 => ?_)
      · skip
        have hk' : k < 3 := by simp at h4; omega
        have hf : nth ([⟨102, b30⟩, ⟨103, b30⟩, ⟨79, b30⟩] : List Fv) k = ⟨wayG k, b30⟩ := by
          rcases (by omega : k = 0 ∨ k = 1 ∨ k = 2) with rfl | rfl | rfl <;> rfl
        refine cw_skip (post_then (cw_seq (cw_block (cw_seq (cw_region ?_)))))
        refine sr rfl rfl rfl ((q_indexN rfl rfl rfl (by exact fun w hw => rd_own hw (by exact .head _)) (by intro hc; omega))) ?_
        refine sr rfl rfl rfl ((q_loadEl rfl rfl rfl (by exact fun w hw => rd_own hw (by exact .head _)) (by intro hc; omega))) ?_
        refine sr rfl rfl rfl ((q_assign rfl rfl)) (sw_nil (post_then (cw_seq (cw_region (sr rfl rfl rfl ((q_move rfl rfl)) (sr rfl rfl rfl ((q_move rfl rfl)) ?_))))))
        rw [hf]
        refine sw_x rfl rfl rfl (e_callB (way_can k) rfl rfl (.cons rfl inferInstance (.nil)) (fun w1 hw => way_spec k b30 sl b l s hz (by omega) hr (fun u hu => by have := hpl u hu; omega) hg w1 (stb_blk hw (by exact .tail _ (.head _))) (stb_arg hw hs) (stb_arg hw hp) (stb_arg hw hb))) (fun s46 => ?_)
        refine sw_imp fun _ => (sr rfl rfl rfl ((q_move rfl rfl)) (sr rfl rfl rfl ((q_extract rfl rfl rfl)) (sr rfl rfl rfl ((q_extract rfl rfl rfl)) (sr rfl rfl rfl ((q_assign rfl rfl)) (sr rfl rfl rfl ((q_assign rfl rfl)) (sw_nil (post_then (cw_seq (cw_region (sr rfl rfl rfl ((q_move rfl rfl)) (sw_nil (post_then ?_))))))))))))
        refine cw_cond rfl (fun h5 => ?_) (fun h5 => ?_)
        · skip
          have e0 := way_is (bl := b.bl) hk' hbe h5
          rw [e0]
          refine cw_seq (cw_seq (cw_region (sr rfl rfl rfl ((q_move rfl rfl)) ?_)))
          refine sr rfl rfl rfl ((q_len rfl (.cons rfl inferInstance (.nil)) (by exact fun w hw => rd_own hw (by exact .head _)))) ?_
          refine sr rfl rfl rfl ((q_gtr rfl rfl rfl)) (sw_nil (post_then ?_))
          refine cw_cond rfl (fun h6 => ?_) (fun h6 => ?_)
          · skip
            have e1 : pronE l b.bl s = 4 := by rw [hE, if_pos (by simp only [decide_eq_true_eq] at h6; omega)]
            have e2 : pronR l b.bl s = [] := by unfold pronR; rw [if_neg (by rw [e1]; decide)]
            refine cw_seq (cw_region (sr rfl rfl rfl ((q_assign rfl rfl)) (sr rfl rfl rfl ((q_assign rfl rfl)) (sw_nil (post_then (cw_ret (post_then_r (post_blk_r (post_then_r (post_then_r (post_blk_r (post_then_r (post_ret2 rfl (resOk_tmp rfl) (resOk_tmp rfl) ?_)))))))))))))
            exact fun w' hw => ⟨⟨none, 0, 0⟩, by rw [e1]; rfl, trivial, by rw [e2]; exact Cl.addNil 136 ((fun w h => Cl.sel (by exact .nil _) w h) _ hw)⟩
          · skip
            have e1 : pronE l b.bl s = 0 := by rw [hE, if_neg (by simp only [decide_eq_false_iff_not] at h6; omega)]
            have e2 : pronR l b.bl s = pronC l b.bl s := by unfold pronR; rw [if_pos e1]
            refine cw_skip (post_then (cw_seq (cw_region (sr rfl rfl rfl ((q_move rfl rfl)) (sr rfl rfl rfl ((q_assign rfl rfl)) (sr rfl rfl rfl ((q_assign rfl rfl)) (sw_nil (post_then (cw_ret (post_blk_r (post_then_r (post_then_r (post_blk_r (post_then_r (post_ret2 rfl (resOk_tmp rfl) (resOk_tmp rfl) ?_)))))))))))))))
            exact fun w' hw => ⟨s46, by rw [e1]; rfl, trivial, by rw [e2]; exact (fun w h => Cl.sel (by exact .take 0 rfl (.nil _)) w h) _ hw⟩
        · skip
          refine cw_skip (post_blk (post_then (cw_region ?_)))
          refine sr rfl rfl rfl ((q_add rfl rfl rfl (by intro hc; omega))) ?_
          refine sr rfl rfl rfl ((q_move rfl rfl)) (sw_nil ?_)
          exact post_next (k + 1) (by exact .cons rfl (.cons rfl (.cons rfl (.cons rfl .nil)))) (fun w h => Cl.sel (by exact .take 1 rfl (.take 1 rfl (.nil _))) w h) ⟨by omega, fun j hj => by
            rcases Nat.lt_or_ge j k with b1 | b1
            · exact hbe j b1
            · have : j = k := by omega
              subst this; exact h5⟩ (by omega)
      · skip
        exfalso
        have hk' : k = 3 := by simp at h4; omega
        have := hbe 2 (by omega)
        cases this
end Go.Proofs.YtkmbliojafefdaaGreatDoor

set_option autoImplicit false
set_option maxRecDepth 100000
namespace Go.Proofs.YtkmbliojafefdaaGreatDoor
open Go.Sx
open Enc (enc val)
instance : DecidableEq Snd := fun a b => decidable_of_iff (a.phone = b.phone ∧ a.fr = b.fr ∧ a.why = b.why ∧ a.ix = b.ix) ⟨fun h => by cases a; cases b; simp at h; simp [h], fun h => by rw [h]; exact ⟨rfl, rfl, rfl, rfl⟩⟩
section
variable {n : Fr} {E : Env} {C : World → Prop} {cs : List Bool} {o : Oper}
theorem neq136 (a b : Snd) (w : World) : (binOp .neq 136 (val a) (val b)).run Tryz.prog w = .ok (.bool (!decide (a = b))) w := by
  obtain ⟨a1, a2, a3, a4⟩ := a
  obtain ⟨b1, b2, b3, b4⟩ := b
  show (binOp .neq 136 (.agg #[.string a1, .int .i64 a2, .int .i64 a3, .int .i64 a4]) (.agg #[.string b1, .int .i64 b2, .int .i64 b3, .int .i64 b4])).run Tryz.prog w = _
  have hin : a1.toList = b1.toList ↔ a1 = b1 := ⟨fun h => by rw [ba_toList, ba_toList] at h; cases a1; cases b1; simp only at h; rw [Array.toList_inj.1 h], fun h => by rw [h]⟩
  simp [go_sem, hin]
  by_cases h1 : a1 = b1 <;> by_cases h2 : a2 = b2 <;> by_cases h3 : a3 = b3 <;> by_cases h4 : a4 = b4 <;> simp [h1, h2, h3, h4]
theorem q_neqSnd {t' : TypeId} {x y : Operand} {cx cy : List Bool} {a b : Snd} (ho : o.op = .binOp .neq 136 x y t') (hx : evl E x = some (cx, val a)) (hy : evl E y = some (cy, val b)) [sx : Sub cx cs] [sy : Sub cy cs] : OpR Tryz.prog n E C cs o (.bool (!decide (a = b))) :=
  .of_run fun ac ha hc w _ => by
    have hg : (eqGuard .neq 136 x y (val a) (val b)).run Tryz.prog w = .ok () w := by kernel_rfl
    unfold execOp; simp only [ho]; rw [ha.eval hx sx hc, ha.eval hy sy hc]
    simp [hg, neq136, Result.andThen]
end
theorem sameSounds_spec (sa sb : Value) (a b : List Snd) (w : World) (ha : Stb w [] (RdL sa a)) (hb : Stb w [] (RdL sb b)) : Calls Tryz.prog 42 #[sa, sb] w fun e w' => e = .returned (.bool (decide (a = b))) ∧ Cl w [] [] w' := by
  have hLa := rd_len ha.here
  have hLb := rd_len hb.here
  refine calls_cw (vs := [_, _]) Tryz.func42 rfl Tryz.ntmps42 rfl (Cl.start0 w) (cw_seq (cw_region (sr rfl rfl rfl ((q_assign rfl rfl)) (sw_nil (post_then (cw_seq (cw_seq (cw_region (sr rfl rfl rfl ((q_move rfl rfl)) ?_)))))))))
  refine sr rfl rfl rfl ((q_len rfl (.cons rfl inferInstance (.nil)) (by exact fun w hw => Stb.cl (by assumption) hw))) ?_
  refine sr rfl rfl rfl ((q_move rfl rfl)) ?_
  refine sr rfl rfl rfl ((q_len rfl (.cons rfl inferInstance (.nil)) (by exact fun w hw => Stb.cl (by assumption) hw))) ?_
  refine sr rfl rfl rfl ((q_neq rfl rfl rfl)) (sw_nil (post_then ?_))
  refine cw_cond rfl (fun h => ?_) (fun h => ?_)
  · skip
    have h2 : ¬ a = b := fun e => by subst e; simp at h
    refine cw_seq (cw_region (sr rfl rfl rfl ((q_assign rfl rfl)) (sw_nil (post_then (cw_ret (post_then_r (post_ret1 rfl (resOk_tmp rfl) ?_)))))))
    exact fun w' hw => ⟨by rw [decide_eq_false h2], hw⟩
  · skip
    have hl : a.length = b.length := by simp at h; omega
    refine cw_skip (post_then (cw_seq (cw_seq (cw_region (sr rfl rfl rfl ((q_assign rfl rfl)) (sw_nil (post_then (cw_block ?_))))))))
    refine cw_loop (S := Nat) (fun k => [(0, [], sa), (1, [], sb), (5, [], .int .i64 k)]) (fun _ => Cl w [] []) (fun k => k ≤ a.length ∧ ∀ j, j < k → nth a j = nth b j) (fun k => a.length - k) 0 ⟨Nat.zero_le _, fun j hj => by omega⟩ (by exact .cons rfl (.cons rfl (.cons rfl .nil))) (fun _ h => h) ?_
    rintro k ⟨hk, hbe⟩
    refine cw_seq (cw_seq (cw_region (sr rfl rfl rfl ((q_move rfl rfl)) (sr rfl rfl rfl ((q_move rfl rfl)) ?_))))
    refine sr rfl rfl rfl ((q_len rfl (.cons rfl inferInstance (.nil)) (by exact fun w hw => Stb.cl (by assumption) hw))) ?_
    refine sr rfl rfl rfl ((q_lss rfl rfl rfl)) (sw_nil (post_then ?_))
    refine cw_cond rfl (fun h2 => ?_) (fun h2 => ?_)
    · skip
      have hk' : k < a.length := by simp at h2; omega
      have hkb : k < b.length := by omega
      refine cw_skip (post_then (cw_seq (cw_block (cw_seq (cw_region_a (Cl w [] []) [] mixed_Tryz ?_)))))
      refine aw_pure 0 rfl (by kernel_rfl) (by kernel_rfl) (by kernel_rfl) (by kernel_rfl) (by kernel_rfl) rfl rfl rfl (q_move rfl rfl) ?_
      refine aw_pure 1 rfl (by kernel_rfl) (by kernel_rfl) (by kernel_rfl) (by kernel_rfl) (by kernel_rfl) rfl rfl rfl (q_move rfl rfl) ?_
      refine aw_take 2 (fun w h => Cl.sel (by exact .nil _) w h) rfl (by kernel_rfl) (by kernel_rfl) (by kernel_rfl) (by kernel_rfl) (by kernel_rfl) (by kernel_rfl) rfl rfl rfl (q_indexN rfl rfl rfl (by exact fun w hw => Stb.cl (by assumption) hw) (by intro hc; omega)) ?_
      refine aw_take 3 (fun w h => Cl.sel (by exact .nil _) w h) rfl (by kernel_rfl) (by kernel_rfl) (by kernel_rfl) (by kernel_rfl) (by kernel_rfl) (by kernel_rfl) rfl rfl rfl (q_loadEl rfl rfl rfl (by exact fun w hw => Stb.cl (by assumption) hw) (by intro hc; omega)) ?_
      refine aw_pure 4 rfl (by kernel_rfl) (by kernel_rfl) (by kernel_rfl) (by kernel_rfl) (by kernel_rfl) rfl rfl rfl (q_move rfl rfl) ?_
      refine aw_pure 5 rfl (by kernel_rfl) (by kernel_rfl) (by kernel_rfl) (by kernel_rfl) (by kernel_rfl) rfl rfl rfl (q_move rfl rfl) ?_
      refine aw_take 6 (fun w h => Cl.sel (by exact .nil _) w h) rfl (by kernel_rfl) (by kernel_rfl) (by kernel_rfl) (by kernel_rfl) (by kernel_rfl) (by kernel_rfl) rfl rfl rfl (q_indexN rfl rfl rfl (by exact fun w hw => Stb.cl (by assumption) hw) (by intro hc; omega)) ?_
      refine aw_take 7 (fun w h => Cl.sel (by exact .nil _) w h) rfl (by kernel_rfl) (by kernel_rfl) (by kernel_rfl) (by kernel_rfl) (by kernel_rfl) (by kernel_rfl) rfl rfl rfl (q_loadEl rfl rfl rfl (by exact fun w hw => Stb.cl (by assumption) hw) (by intro hc; omega)) ?_
      refine aw_take 8 (fun w h => Cl.sel (by exact .nil _) w h) rfl (by kernel_rfl) (by kernel_rfl) (by kernel_rfl) (by kernel_rfl) (by kernel_rfl) (by kernel_rfl) rfl rfl rfl (q_neqSnd (a := nth a k) (b := nth b k) rfl rfl rfl) ?_
      refine aw_end (by kernel_rfl) ?_
      refine post_then ?_
      refine cw_cond rfl (fun h3 => ?_) (fun h3 => ?_)
      · skip
        have h4 : ¬ a = b := fun e => by subst e; simp at h3
        refine cw_seq (cw_region (sr rfl rfl rfl ((q_assign rfl rfl)) (sw_nil (post_then (cw_ret (post_blk_r (post_then_r (post_then_r (post_blk_r (post_then_r (post_ret1 rfl (resOk_tmp rfl) ?_)))))))))))
        exact fun w' hw => ⟨by rw [decide_eq_false h4], hw⟩
      · skip
        have h4 : nth a k = nth b k := by simpa using h3
        refine cw_skip (post_blk (post_then (cw_region (sr rfl rfl rfl ((q_move rfl rfl)) ?_))))
        refine sr rfl rfl rfl ((q_add rfl rfl rfl (by intro hc; omega))) ?_
        refine sr rfl rfl rfl ((q_assign rfl rfl)) (sw_nil ?_)
        exact post_next (k + 1) (by exact .cons rfl (.cons rfl (.cons rfl .nil))) (fun _ h => h) ⟨by omega, fun j hj => by
          rcases Nat.lt_or_ge j k with h5 | h5
          · exact hbe j h5
          · have : j = k := by omega
            subst this; exact h4⟩ (by omega)
    · skip
      have hk' : k = a.length := by simp at h2; omega
      have h4 : a = b := List.ext_getElem hl fun i h5 h6 => by
        have := hbe i (by omega)
        rwa [nth_get h5, nth_get h6] at this
      refine cw_exit (post_then_x (post_then_x (post_blk_eq (post_then (cw_seq (cw_region (sr rfl rfl rfl ((q_assign rfl rfl)) (sw_nil (post_then (cw_ret (post_ret1 rfl (resOk_tmp rfl) ?_)))))))))))
      exact fun w' hw => ⟨by rw [decide_eq_true h4], hw⟩
end Go.Proofs.YtkmbliojafefdaaGreatDoor

set_option autoImplicit false
set_option maxRecDepth 100000
namespace Go.Proofs.YtkmbliojafefdaaGreatDoor
open Go.Sx
open Enc (enc val)
end Go.Proofs.YtkmbliojafefdaaGreatDoor

set_option autoImplicit false
set_option maxRecDepth 100000
namespace Go.Proofs.YtkmbliojafefdaaGreatDoor
open Go.Sx
open Enc (enc val)
theorem entS_map (l : List Sp) (i : Int) : (entS l i).map (·.phone) = (nth l i.toNat).pl := by
  unfold entS sndS
  rw [List.map_map]
  exact List.map_id _
theorem parF_map (l : List Sp) : ∀ (ps : List ByteArray) (fr : Int), (parF l fr ps).map (·.phone) = ps.flatMap fun q => (nth l (idxW l q).toNat).pl
  | [], _ => rfl
  | q :: ps, fr => by
    rw [parF, List.map_append, parF_map l ps, List.flatMap_cons]
    congr 1
    unfold sndS
    rw [List.map_map]
    exact List.map_id _
theorem idxW_word {l : List Sp} {q : ByteArray} (h : 0 ≤ idxW l q) : (idxW l q).toNat < l.length ∧ (nth l (idxW l q).toNat).word = q := by
  unfold idxW idxP at h ⊢
  split at h
  · rename_i k hk
    obtain ⟨h1, h2, _⟩ := List.findIdx?_eq_some_iff_getElem.1 hk
    simp only [Int.toNat_natCast]
    refine ⟨h1, ?_⟩
    rw [nth_get h1]; simpa using h2
  · omega
/-- An entry pronounces itself. -/
theorem pron_entry {l : List Sp} {bl : List Let} {q : ByteArray} (hl : lexE l = 0) (hb : bookOk bl = true) (h : 0 ≤ idxW l q) : pronE l bl q = 0 ∧ pronR l bl q = entS l (idxW l q) := by
  obtain ⟨h1, h2⟩ := idxW_word h
  have h3 := List.all_eq_true.1 (lexE_ok hl).2 _ (nth_mem h1)
  rw [spOk, h2, Bool.and_eq_true] at h3
  have h4 : pronC l bl q = entS l (idxW l q) := by unfold pronC; rw [if_pos h]
  have h5 : (entS l (idxW l q)).length ≤ 120 := by
    unfold entS
    rw [sndS_len]
    have := h3.2
    simp [phonesOk] at this; omega
  have h6 : pronE l bl q = 0 := by
    unfold pronE
    rw [if_pos hl, if_pos (by rw [hb, h3.1]; rfl), h4, if_neg (by omega)]
  exact ⟨h6, by unfold pronR; rw [if_pos h6, h4]⟩
theorem reasons_spec (sl : SlV) (b : Bk) (l : List Sp) (s : ByteArray) (hsz : s.size ≤ 9223372036854775807) (hz : ∀ u ∈ l, u.word.size ≤ 9223372036854775807) (w : World) (hT : Stb w [] Tab) (hs : Stb w [] (RdL sl.v l)) (hsi : Stb w [] fun w' => ∀ u ∈ l, SpIn u w') (hb : Stb w [] (BkIn b)) :
    Calls Tryz.prog 16 #[sl.v, val b, .string s] w fun e w' => e = .returned (.bool true) ∧ Cl w [] [] w' := by
  have hL1 := rd_len hs.here
  refine calls_cw (vs := [_, _, _]) Tryz.func16 rfl Tryz.ntmps16 rfl (Cl.start0 w) (cw_seq (cw_region ?_))
  refine sw_x rfl rfl rfl (e_box rfl rfl rfl) (fun b4 => ?_)
  refine sr rfl rfl rfl ((q_assign rfl rfl)) (sw_nil (post_then (cw_seq (cw_seq (cw_region (sr rfl rfl rfl ((q_move rfl rfl)) (sw_step rfl rfl rfl (q_call (CanCall.mk Tryz.call27) rfl (.cons rfl inferInstance (.cons rfl inferInstance (.nil))) (fun _ w hw => callq hw (lawLex_spec _ l 20 hz w (stb_arg hw hs) (stb_arg hw hsi)))) (sr rfl rfl rfl ((q_not rfl rfl)) (sr rfl rfl rfl ((q_move rfl rfl)) (sr rfl rfl rfl ((q_move rfl rfl)) ?_))))))))))
  refine sr rfl rfl rfl ((q_len rfl (.cons rfl inferInstance (.nil)) (by exact fun w hw => Stb.cl (by assumption) hw))) ?_
  refine sr rfl rfl rfl ((q_gtr rfl rfl rfl)) (sr rfl rfl rfl ((q_or2 rfl rfl rfl)) (sr rfl rfl rfl ((q_move rfl rfl)) ?_))
  refine sr rfl rfl rfl ((q_loadA rfl rfl (by exact .head _) rfl)) ?_
  refine sw_step rfl rfl rfl (q_call (CanCall.mk Tryz.call40) rfl (.cons rfl inferInstance (.nil)) (fun _ w hw => callq hw (lawBook_spec b w (stb_arg hw hb)))) (sr rfl rfl rfl ((q_not rfl rfl)) (sr rfl rfl rfl ((q_or2 rfl rfl rfl)) (sr rfl rfl rfl ((q_move rfl rfl)) (sr rfl rfl rfl ((q_move rfl rfl)) (sr rfl rfl rfl ((q_lenS rfl (.cons rfl inferInstance (.nil)) Tryz.underlying9)) (sr rfl rfl rfl ((q_gtr rfl rfl rfl)) (sr rfl rfl rfl ((q_or2 rfl rfl rfl)) (sr rfl rfl rfl ((q_move rfl rfl)) (sr rfl rfl rfl ((q_move rfl rfl)) ?_)))))))))
  refine sw_step rfl rfl rfl (q_call (CanCall.mk Tryz.call51) rfl (.cons rfl inferInstance (.nil)) (fun hcs w hw => callq hw (refLexicon_spec _ l (fun u hu => by simp [AllT] at hcs; have z := lawLex_z hcs.1.1.1 u hu; exact ⟨by omega, fun b hb => by have := z.2.2 b hb; omega⟩) w (stb_arg hw hT) (stb_arg hw hs) (stb_arg hw hsi)))) ?_
  refine sr rfl rfl rfl ((q_not rfl rfl)) (sr rfl rfl rfl ((q_or2 rfl rfl rfl)) (sr rfl rfl rfl ((q_move rfl rfl)) ?_))
  refine sr rfl rfl rfl ((q_loadA rfl rfl (by exact .head _) rfl)) ?_
  refine sw_step rfl rfl rfl (q_call (CanCall.mk Tryz.call41) rfl (.cons rfl inferInstance (.nil)) (fun hcs w hw => callq hw (refBook_spec b (fun L hL r hr q hq => by simp [AllT] at hcs; have := lawBk_small hcs.1.1.2 L hL r hr q hq; omega) w (stb_arg hw hb)))) ?_
  refine sr rfl rfl rfl ((q_not rfl rfl)) (sr rfl rfl rfl ((q_or2 rfl rfl rfl)) (sw_nil (post_then ?_)))
  refine cw_cond rfl (fun h => ?_) (fun h => ?_)
  · skip
    refine cw_seq (cw_region ?_)
    refine sw_step rfl rfl rfl (q_call (CanCall.mk Tryz.call19) rfl (.nil) (fun _ w hw => callq hw (known_spec w (stb_arg hw (by assumption))))) ?_
    refine sr rfl rfl rfl ((q_assign rfl rfl)) (sw_nil (post_then (cw_ret (post_then_r (post_ret1 rfl (resOk_tmp rfl) ?_)))))
    exact fun w' hw => ⟨rfl, (fun w h => Cl.sel (by exact .nil _) w h) _ hw⟩
  · skip
    have h1 : lawLex l 20 = true ∧ l.length ≤ 20 ∧ lawBk b.bl = true ∧ s.size ≤ 60 ∧ lexOk l = true ∧ bookOk b.bl = true := by
      simp at h; exact ⟨h.1.1.1.1.1, by omega, h.1.1.1.2, by omega, h.1.2, h.2⟩
    obtain ⟨c1, c0, c2, c3, c4, c5⟩ := h1
    have z1 := lawLex_z c1
    have hl0 : lexE l = 0 := by
      show (if 3000 < l.length then 4 else if lexOk l = true then 0 else 2) = (0 : Int)
      rw [if_neg (by omega), if_pos c4]
    have hVd : pronE l b.bl s = if wordOk s then (if 120 < (pronC l b.bl s).length then 4 else 0) else 2 := by
      unfold pronE
      rw [if_pos hl0, c5]
      cases wordOk s <;> rfl
    have hszz : ∀ u ∈ l, u.word.size ≤ 1000000 := fun u hu => by have := z1 u hu; omega
    refine cw_skip (post_then (cw_seq (cw_region (sr rfl rfl rfl ((q_move rfl rfl)) ?_))))
    refine sr rfl rfl rfl ((q_loadA rfl rfl (by exact .head _) rfl)) ?_
    refine sr rfl rfl rfl ((q_move rfl rfl)) ?_
    refine sw_x rfl rfl rfl (e_call (CanCall.mk Tryz.call57) rfl (.cons rfl inferInstance (.cons rfl inferInstance (.cons rfl inferInstance (.nil)))) (fun w1 hw => pronounce_spec sl b l s (by omega) hszz w1 (stb_arg hw hT) (stb_arg hw hs) (stb_arg hw hsi) (stb_arg hw hb))) (fun s52 => ?_)
    refine sw_imp fun _ => (sr rfl rfl rfl ((q_move rfl rfl)) (sr rfl rfl rfl ((q_extract rfl rfl rfl)) (sr rfl rfl rfl ((q_extract rfl rfl rfl)) (sr rfl rfl rfl ((q_assign rfl rfl)) (sr rfl rfl rfl ((q_assign rfl rfl)) (sw_nil (post_then (cw_seq (cw_seq (cw_region (sr rfl rfl rfl ((q_move rfl rfl)) (sr rfl rfl rfl ((q_neq rfl rfl rfl)) (sw_nil (post_then ?_))))))))))))))
    refine cw_cond rfl (fun h2 => ?_) (fun h2 => ?_)
    · skip
      have e2 : pronR l b.bl s = [] := by unfold pronR; rw [if_neg (by simpa using h2)]
      rw [e2]
      refine cw_seq (cw_region (sr rfl rfl rfl ((q_move rfl rfl)) ?_))
      refine sr rfl rfl rfl ((q_len rfl (.cons rfl inferInstance (.nil)) (by exact fun w hw => rd_own hw (by exact .head _)))) ?_
      refine sr rfl rfl rfl ((q_eql rfl rfl rfl)) (sr rfl rfl rfl ((q_move rfl rfl)) ?_)
      refine sw_step rfl rfl rfl (q_call (CanCall.mk Tryz.call19) rfl (.nil) (fun _ w hw => callq hw (known_spec w (stb_arg hw (by assumption))))) ?_
      refine sr rfl rfl rfl ((q_and2 rfl rfl rfl)) (sr rfl rfl rfl ((q_assign rfl rfl)) (sw_nil (post_then (cw_ret (post_then_r (post_ret1 rfl (resOk_tmp rfl) ?_))))))
      exact fun w' hw => ⟨rfl, (fun w h => Cl.sel (by exact .nil _) w h) _ hw⟩
    · skip
      have e1 : pronE l b.bl s = 0 := by simpa using h2
      have e2 : pronR l b.bl s = pronC l b.bl s := by unfold pronR; rw [if_pos e1]
      have hwo : wordOk s = true := by
        cases hx : wordOk s with
        | true => rfl
        | false => rw [hx] at hVd; rw [hVd] at e1; cases e1
      have hlen : (pronC l b.bl s).length ≤ 120 := by
        rw [hwo] at hVd
        rw [e1] at hVd
        by_cases hx : 120 < (pronC l b.bl s).length
        · rw [if_pos rfl, if_pos hx] at hVd; cases hVd
        · omega
      rw [e2]
      refine cw_skip (post_then (cw_seq (cw_region (sr rfl rfl rfl ((q_move rfl rfl)) ?_))))
      refine sw_x rfl rfl rfl (e_call (CanCall.mk Tryz.call39) rfl (.cons rfl inferInstance (.nil)) (fun w1 hw => said39_spec _ (pronC l b.bl s) (by omega) w1 (stb_own hw (by exact .head _)))) (fun s64 => ?_)
      refine sw_imp fun _ => (sr rfl rfl rfl ((q_assign rfl rfl)) (sw_nil (post_then (cw_seq (cw_seq (cw_region (sr rfl rfl rfl ((q_assign rfl rfl)) (sw_nil (post_then (cw_block ?_))))))))))
      refine cw_loop (S := Nat) (fun k => [(0, [], sl.v), (2, [], .string s), (4, [], .pointer (some ⟨b4, 0, none⟩)), (7, [], s52.v), (9, [], s64.v), (10, [], .int .i64 k)]) (fun _ => Cl w [] [ownL 9 s64.v ((pronC l b.bl s).map (·.phone)), ownL 136 s52.v (pronC l b.bl s), blk b4 [b.b.v] 45]) (fun k => k ≤ l.length ∧ ∀ j, j < k → decide ((nth l j).word = s) = false) (fun k => l.length - k) 0 ⟨by omega, fun j hj => by omega⟩ (by exact .cons rfl (.cons rfl (.cons rfl (.cons rfl (.cons rfl (.cons rfl .nil)))))) (fun w h => Cl.sel (by exact .take 0 rfl (.take 0 rfl (.take 0 rfl (.nil _)))) w h) ?_
      rintro k ⟨hk, hbe⟩
      refine cw_seq (cw_seq (cw_region (sr rfl rfl rfl ((q_move rfl rfl)) (sr rfl rfl rfl ((q_move rfl rfl)) ?_))))
      refine sr rfl rfl rfl ((q_len rfl (.cons rfl inferInstance (.nil)) (by exact fun w hw => Stb.cl (by assumption) hw))) ?_
      refine sr rfl rfl rfl ((q_lss rfl rfl rfl)) (sw_nil (post_then ?_))
      refine cw_cond rfl (fun h3 => ?_) (fun h3 => ?_)
      · skip
        have hk' : k < l.length := by simp at h3; omega
        refine cw_skip (post_then (cw_seq (cw_block (cw_seq (cw_region (sr rfl rfl rfl ((q_move rfl rfl)) (sr rfl rfl rfl ((q_move rfl rfl)) ?_)))))))
        refine sr rfl rfl rfl ((q_indexN rfl rfl rfl (by exact fun w hw => Stb.cl (by assumption) hw) (by intro hc; omega))) ?_
        refine sr rfl rfl rfl ((q_fieldEl rfl rfl (by exact fun w hw => Stb.cl (by assumption) hw) (by intro hc; omega))) ?_
        refine sr rfl rfl rfl ((q_loadF rfl rfl rfl (by exact fun w hw => Stb.cl (by assumption) hw) (by intro hc; omega) rfl)) ?_
        refine sr rfl rfl rfl ((q_move rfl rfl)) (sr rfl rfl rfl ((q_eqlStr rfl rfl rfl Tryz.underlying9)) (sw_nil (post_then ?_)))
        refine cw_cond rfl (fun h4 => ?_) (fun h4 => ?_)
        · skip
          have hi : idxW l s = k := idxP_at (p := fun u : Sp => decide (u.word = s)) hk' hbe h4
          have e3 : (pronC l b.bl s).map (·.phone) = (nth l k).pl := by
            unfold pronC
            rw [if_pos (by omega), entS_map, hi]; rfl
          have hxs : Stb w [] (RdL (nth l k).p.v (nth l k).pl) := stb_mem hsi (nth_mem hk')
          rw [e3]
          refine cw_seq (cw_region (sr rfl rfl rfl ((q_move rfl rfl)) (sr rfl rfl rfl ((q_move rfl rfl)) (sr rfl rfl rfl ((q_move rfl rfl)) ?_))))
          refine sr rfl rfl rfl ((q_indexN rfl rfl rfl (by exact fun w hw => Stb.cl (by assumption) hw) (by intro hc; omega))) ?_
          refine sr rfl rfl rfl ((q_fieldEl rfl rfl (by exact fun w hw => Stb.cl (by assumption) hw) (by intro hc; omega))) ?_
          refine sr rfl rfl rfl ((q_loadF rfl rfl rfl (by exact fun w hw => Stb.cl (by assumption) hw) (by intro hc; omega) rfl)) ?_
          refine sw_step rfl rfl rfl (q_call (CanCall.mk Tryz.call38) rfl (.cons rfl inferInstance (.cons rfl inferInstance (.nil))) (fun _ w hw => callq hw (order_spec _ _ _ _ w (by exact stb_own hw (by exact .head _)) (by exact stb_arg hw (by assumption))))) ?_
          refine sr rfl rfl rfl ((q_eql rfl rfl rfl)) (sr rfl rfl rfl ((q_move rfl rfl)) ?_)
          refine sw_step rfl rfl rfl (q_call (CanCall.mk Tryz.call19) rfl (.nil) (fun _ w hw => callq hw (known_spec w (stb_arg hw (by assumption))))) ?_
          refine sr rfl rfl rfl ((q_and2 rfl rfl rfl)) (sr rfl rfl rfl ((q_assign rfl rfl)) (sw_nil (post_then (cw_ret (post_blk_r (post_then_r (post_then_r (post_blk_r (post_then_r (post_ret1 rfl (resOk_tmp rfl) ?_))))))))))
          refine fun w' hw => ⟨?_, (fun w h => Cl.sel (by exact .nil _) w h) _ hw⟩
          rw [ord_self]; simp
        · skip
          refine cw_skip (post_blk (post_then (cw_region (sr rfl rfl rfl ((q_move rfl rfl)) ?_))))
          refine sr rfl rfl rfl ((q_add rfl rfl rfl (by intro hc; omega))) ?_
          refine sr rfl rfl rfl ((q_assign rfl rfl)) (sw_nil ?_)
          exact post_next (k + 1) (by exact .cons rfl (.cons rfl (.cons rfl (.cons rfl (.cons rfl (.cons rfl .nil)))))) (fun w h => Cl.sel (by exact .take 0 rfl (.take 0 rfl (.take 0 rfl (.nil _)))) w h) ⟨by omega, fun j hj => by
            rcases Nat.lt_or_ge j k with h6 | h6
            · exact hbe j h6
            · have : j = k := by omega
              subst this; exact h4⟩ (by omega)
      · skip
        have hk' : k = l.length := by simp at h3; omega
        subst hk'
        have hi : idxW l s = -1 := idxP_none (p := fun u : Sp => decide (u.word = s)) hbe
        have hpc : pronC l b.bl s = if splV (okW l s) s.size 0 < 0 then sayC b.bl (runes s) else parF l 0 (splS l s) := by
          unfold pronC; rw [if_neg (by omega)]
        have hsE : splE l s = if splV (okW l s) s.size 0 < 0 then 5 else 0 := by unfold splE; rw [if_pos hl0, if_pos hwo]
        refine cw_exit (post_then_x (post_then_x (post_blk_eq (post_then (cw_seq (cw_region (sr rfl rfl rfl ((q_move rfl rfl)) (sr rfl rfl rfl ((q_move rfl rfl)) ?_))))))))
        refine sw_x rfl rfl rfl (e_call (CanCall.mk Tryz.call53) rfl (.cons rfl inferInstance (.cons rfl inferInstance (.nil))) (fun w1 hw => splitP_spec sl l s hszz (by omega) w1 (stb_arg hw hT) (stb_arg hw hs) (stb_arg hw hsi))) (fun s92 => ?_)
        refine sw_imp fun _ => (sr rfl rfl rfl ((q_move rfl rfl)) (sr rfl rfl rfl ((q_extract rfl rfl rfl)) (sr rfl rfl rfl ((q_extract rfl rfl rfl)) (sr rfl rfl rfl ((q_assign rfl rfl)) (sr rfl rfl rfl ((q_assign rfl rfl)) (sw_nil (post_then (cw_seq (cw_seq (cw_region (sr rfl rfl rfl ((q_move rfl rfl)) (sr rfl rfl rfl ((q_neq rfl rfl rfl)) (sw_nil (post_then ?_))))))))))))))
        refine cw_cond rfl (fun h5 => ?_) (fun h5 => ?_)
        · skip
          have hV : splV (okW l s) s.size 0 < 0 := by
            by_cases hx : splV (okW l s) s.size 0 < 0
            · exact hx
            · rw [if_neg hx] at hsE; rw [hsE] at h5; simp at h5
          rw [if_pos hV] at hpc
          have hy1 : sayE b.bl s = 0 := by unfold sayE; rw [c5, hwo]; rfl
          have hy2 : sayR b.bl s = sayC b.bl (runes s) := by unfold sayR; rw [c5, hwo]; rfl
          refine cw_seq (cw_region ?_)
          refine sr rfl rfl rfl ((q_loadA rfl rfl (by exact .tail _ (.tail _ (.tail _ (.head _)))) rfl)) ?_
          refine sr rfl rfl rfl ((q_move rfl rfl)) ?_
          refine sw_x rfl rfl rfl (e_call (CanCall.mk Tryz.call37) rfl (.cons rfl inferInstance (.cons rfl inferInstance (.nil))) (fun w1 hw => say_spec b s (by omega) w1 (stb_arg hw hT) (stb_arg hw hb))) (fun s100 => ?_)
          refine sw_imp fun _ => ?_
          rw [hy1, hy2]
          rw [hpc]
          refine sr rfl rfl rfl ((q_move rfl rfl)) (sr rfl rfl rfl ((q_extract rfl rfl rfl)) (sr rfl rfl rfl ((q_extract rfl rfl rfl)) (sr rfl rfl rfl ((q_assign rfl rfl)) (sr rfl rfl rfl ((q_assign rfl rfl)) (sw_nil (post_then (cw_seq (cw_region (sr rfl rfl rfl ((q_move rfl rfl)) (sr rfl rfl rfl ((q_eql rfl rfl rfl)) (sr rfl rfl rfl ((q_move rfl rfl)) (sr rfl rfl rfl ((q_move rfl rfl)) (sr rfl rfl rfl ((q_move rfl rfl)) ?_)))))))))))))
          refine sw_step rfl rfl rfl (q_call (CanCall.mk Tryz.call42) rfl (.cons rfl inferInstance (.cons rfl inferInstance (.nil))) (fun _ w1 hw => callq hw (sameSounds_spec _ _ (sayC b.bl (runes s)) (sayC b.bl (runes s)) w1 (stb_own hw (by exact .tail _ (.tail _ (.tail _ (.head _))))) (stb_own hw (by exact .head _))))) ?_
          refine sr rfl rfl rfl ((q_and2 rfl rfl rfl)) (sr rfl rfl rfl ((q_move rfl rfl)) ?_)
          refine sw_step rfl rfl rfl (q_call (CanCall.mk Tryz.call19) rfl (.nil) (fun _ w hw => callq hw (known_spec w (stb_arg hw (by assumption))))) ?_
          refine sr rfl rfl rfl ((q_and2 rfl rfl rfl)) (sr rfl rfl rfl ((q_assign rfl rfl)) (sw_nil (post_then (cw_ret (post_then_r (post_ret1 rfl (resOk_tmp rfl) ?_))))))
          exact fun w' hw => ⟨by simp, (fun w h => Cl.sel (by exact .nil _) w h) _ hw⟩
        · skip
          have hV : ¬ splV (okW l s) s.size 0 < 0 := fun hx => by
            rw [if_pos hx] at hsE; rw [hsE] at h5; simp at h5
          rw [if_neg hV] at hpc hsE
          have hsR : splR l s = splS l s := by unfold splR; rw [if_pos hsE]
          rw [hsR]
          have hmem := splS_mem hV
          have hle := splS_le l s hV
          obtain ⟨ps, hps⟩ : ∃ ps, splS l s = ps := ⟨_, rfl⟩
          rw [hps] at hmem hle hpc ⊢
          obtain ⟨said, hsd⟩ : ∃ said, (pronC l b.bl s).map (·.phone) = said := ⟨_, rfl⟩
          have hsd2 : said = ps.flatMap fun q => (nth l (idxW l q).toNat).pl := by rw [← hsd, hpc, parF_map]
          rw [hsd]
          refine cw_skip (post_then (cw_seq (cw_region (sr rfl rfl rfl ((q_assign rfl rfl)) (sw_nil (post_then (cw_seq (cw_seq (cw_region (sr rfl rfl rfl ((q_assign rfl rfl)) (sw_nil (post_then (cw_block ?_)))))))))))))
          refine cw_loop (S := Nat × SlV × List ByteArray) (fun y => [(0, [], sl.v), (4, [], .pointer (some ⟨b4, 0, none⟩)), (9, [], s64.v), (11, [], s92.v), (15, [], y.2.1.v), (16, [], .int .i64 y.1)]) (fun y => Cl w [] [ownL 9 y.2.1.v y.2.2, ownL 9 s92.v ps, ownL 9 s64.v said, blk b4 [b.b.v] 45]) (fun y => y.1 ≤ ps.length ∧ y.2.2.length ≤ 130 * y.1 ∧ y.2.2 = (ps.take y.1).flatMap fun q => (nth l (idxW l q).toNat).pl) (fun y => ps.length - y.1) (0, ⟨none, 0, 0⟩, []) ⟨by simp, by simp, by simp⟩ (by exact .cons rfl (.cons rfl (.cons rfl (.cons rfl (.cons rfl (.cons rfl .nil)))))) (fun w' h => Cl.addNil 9 ((fun w h => Cl.sel (by exact .take 0 rfl (.take 0 rfl (.take 1 rfl (.nil _)))) w h) _ h)) ?_
          rintro ⟨k, so, out⟩ ⟨hk, hol, hout⟩
          dsimp only at hk hol hout ⊢
          refine cw_seq (cw_seq (cw_region (sr rfl rfl rfl ((q_move rfl rfl)) (sr rfl rfl rfl ((q_move rfl rfl)) ?_))))
          refine sr rfl rfl rfl ((q_len rfl (.cons rfl inferInstance (.nil)) (by exact fun w hw => rd_own hw (by exact .tail _ (.head _))))) ?_
          refine sr rfl rfl rfl ((q_lss rfl rfl rfl)) (sw_nil (post_then ?_))
          refine cw_cond rfl (fun h6 => ?_) (fun h6 => ?_)
          · skip
            have hk' : k < ps.length := by simp at h6; omega
            obtain ⟨q, hq⟩ : ∃ q, nth ps k = q := ⟨_, rfl⟩
            have hqm := hmem q (by rw [← hq]; exact nth_mem hk')
            obtain ⟨e3, e4⟩ := pron_entry hl0 c5 hqm.1
            have hst := take_flat (fun q => (nth l (idxW l q).toNat).pl) hk'
            rw [hq, ← hout] at hst
            have hwd := idxW_word hqm.1
            have hql := (z1 _ (nth_mem hwd.1)).2.1
            have hel : (entS l (idxW l q)).length ≤ 130 := by unfold entS; rw [sndS_len]; exact hql
            refine cw_skip (post_then (cw_seq (cw_block (cw_seq (cw_region_a (Cl w [] [ownL 9 so.v out, ownL 9 s92.v ps, ownL 9 s64.v said, blk b4 [b.b.v] 45]) [] mixed_Tryz ?_)))))
            refine aw_pure 0 rfl (by kernel_rfl) (by kernel_rfl) (by kernel_rfl) (by kernel_rfl) (by kernel_rfl) rfl rfl rfl (q_move rfl rfl) ?_
            refine aw_take 1 (fun w h => Cl.sel (by exact .take 0 rfl (.take 0 rfl (.take 0 rfl (.take 0 rfl (.nil _))))) w h) rfl (by kernel_rfl) (by kernel_rfl) (by kernel_rfl) (by kernel_rfl) (by kernel_rfl) (by kernel_rfl) rfl rfl rfl (q_loadA rfl rfl (by exact .tail _ (.tail _ (.tail _ (.head _)))) rfl) ?_
            refine aw_pure 2 rfl (by kernel_rfl) (by kernel_rfl) (by kernel_rfl) (by kernel_rfl) (by kernel_rfl) rfl rfl rfl (q_move rfl rfl) ?_
            refine aw_pure 3 rfl (by kernel_rfl) (by kernel_rfl) (by kernel_rfl) (by kernel_rfl) (by kernel_rfl) rfl rfl rfl (q_move rfl rfl) ?_
            refine aw_take 4 (fun w h => Cl.sel (by exact .take 0 rfl (.take 0 rfl (.take 0 rfl (.take 0 rfl (.nil _))))) w h) rfl (by kernel_rfl) (by kernel_rfl) (by kernel_rfl) (by kernel_rfl) (by kernel_rfl) (by kernel_rfl) rfl rfl rfl (q_indexN rfl rfl rfl (by exact fun w hw => rd_own hw (by exact .tail _ (.head _))) (by intro hc; omega)) ?_
            refine aw_take 5 (fun w h => Cl.sel (by exact .take 0 rfl (.take 0 rfl (.take 0 rfl (.take 0 rfl (.nil _))))) w h) rfl (by kernel_rfl) (by kernel_rfl) (by kernel_rfl) (by kernel_rfl) (by kernel_rfl) (by kernel_rfl) rfl rfl rfl (q_loadEl rfl rfl rfl (by exact fun w hw => rd_own hw (by exact .tail _ (.head _))) (by intro hc; omega)) ?_
            rw [hq]
            refine aw_x 6 (by kernel_rfl) rfl rfl rfl rfl (e_call (CanCall.mk Tryz.call57) rfl (.cons rfl inferInstance (.cons rfl inferInstance (.cons rfl inferInstance (.nil)))) (fun w1 hw => pronounce_spec sl b l q (by omega) hszz w1 (stb_arg hw hT) (stb_arg hw hs) (stb_arg hw hsi) (stb_arg hw hb))) (by intro hb; exact fun _ w h => (fun w h => Cl.sel (by exact .take 1 rfl (.take 1 rfl (.take 1 rfl (.take 1 rfl (.nil _))))) w h) w h.2) (fun s126 => ?_)
            refine aw_imp fun _ => ?_
            rw [e3, e4]
            refine aw_pure 7 rfl (by kernel_rfl) (by kernel_rfl) (by kernel_rfl) (by kernel_rfl) (by kernel_rfl) rfl rfl rfl (q_move rfl rfl) ?_
            refine aw_take 8 (fun w h => Cl.sel (by exact .take 1 rfl (.take 1 rfl (.take 1 rfl (.take 1 rfl (.nil _))))) w h) rfl (by kernel_rfl) (by kernel_rfl) (by kernel_rfl) (by kernel_rfl) (by kernel_rfl) (by kernel_rfl) rfl rfl rfl (q_extract rfl rfl rfl) ?_
            refine aw_take 9 (fun w h => Cl.sel (by exact .take 1 rfl (.take 1 rfl (.take 1 rfl (.take 1 rfl (.nil _))))) w h) rfl (by kernel_rfl) (by kernel_rfl) (by kernel_rfl) (by kernel_rfl) (by kernel_rfl) (by kernel_rfl) rfl rfl rfl (q_extract rfl rfl rfl) ?_
            refine aw_pure 10 rfl (by kernel_rfl) (by kernel_rfl) (by kernel_rfl) (by kernel_rfl) (by kernel_rfl) rfl rfl rfl (q_assign rfl rfl) ?_
            refine aw_pure 11 rfl (by kernel_rfl) (by kernel_rfl) (by kernel_rfl) (by kernel_rfl) (by kernel_rfl) rfl rfl rfl (q_assign rfl rfl) ?_
            refine aw_end (by kernel_rfl) ?_
            refine post_then (cw_seq (cw_seq (cw_region (sr rfl rfl rfl ((q_move rfl rfl)) (sr rfl rfl rfl ((q_neq rfl rfl rfl)) (sw_nil (post_then ?_)))))))
            refine cw_cond rfl (fun h7 => ?_) (fun h7 => ?_)
            · skip
              exfalso
              simp at h7
            · skip
              refine cw_skip (post_then (cw_region (sr rfl rfl rfl ((q_move rfl rfl)) (sr rfl rfl rfl ((q_move rfl rfl)) ?_))))
              refine sw_x rfl rfl rfl (e_call (CanCall.mk Tryz.call39) rfl (.cons rfl inferInstance (.nil)) (fun w1 hw => said39_spec _ (entS l (idxW l q)) (by omega) w1 (stb_own hw (by exact .head _)))) (fun s133 => ?_)
              refine sw_imp fun _ => ?_
              rw [entS_map]
              refine sw_x rfl rfl rfl (e_append (i := 2) rfl (.cons rfl inferInstance (.cons rfl inferInstance (.nil))) rfl rfl (by exact fun w hw => rd_own hw (by exact .head _)) (by first | omega | (simp only [List.length_set, List.length_append, List.length_cons, List.length_nil, List.length_replicate, List.length_take, List.length_drop, List.length_map]; omega)) rfl) (fun s134 => ?_)
              refine sr rfl rfl rfl ((q_assign rfl rfl)) (sw_nil (post_blk (post_then (cw_region (sr rfl rfl rfl ((q_move rfl rfl)) ?_)))))
              refine sr rfl rfl rfl ((q_add rfl rfl rfl (by intro hc; omega))) ?_
              refine sr rfl rfl rfl ((q_assign rfl rfl)) (sw_nil ?_)
              exact post_next (k + 1, s134, out ++ (nth l (idxW l q).toNat).pl) (by exact .cons rfl (.cons rfl (.cons rfl (.cons rfl (.cons rfl (.cons rfl .nil)))))) (fun w' h => (fun w h => Cl.sel (by exact .take 2 rfl (.take 2 rfl (.take 2 rfl (.take 2 rfl (.nil _))))) w h) _ h) ⟨by simp only; omega, by simp only [List.length_append]; omega, by simp only; rw [hst]⟩ (by simp only; omega)
          · skip
            have hk' : k = ps.length := by simp at h6; omega
            have e5 : out = said := by rw [hout, hk', List.take_length, hsd2]
            subst e5
            refine cw_exit (post_then_x (post_then_x (post_blk_eq (post_then (cw_seq (cw_region (sr rfl rfl rfl ((q_move rfl rfl)) (sr rfl rfl rfl ((q_move rfl rfl)) ?_))))))))
            refine sw_step rfl rfl rfl (q_call (CanCall.mk Tryz.call38) rfl (.cons rfl inferInstance (.cons rfl inferInstance (.nil))) (fun _ w hw => callq hw (order_spec _ _ _ _ w (by exact stb_own hw (by exact .tail _ (.tail _ (.head _)))) (by exact stb_own hw (by exact .head _))))) ?_
            refine sr rfl rfl rfl ((q_eql rfl rfl rfl)) (sr rfl rfl rfl ((q_move rfl rfl)) ?_)
            refine sw_step rfl rfl rfl (q_call (CanCall.mk Tryz.call19) rfl (.nil) (fun _ w hw => callq hw (known_spec w (stb_arg hw (by assumption))))) ?_
            refine sr rfl rfl rfl ((q_and2 rfl rfl rfl)) (sr rfl rfl rfl ((q_assign rfl rfl)) (sw_nil (post_then (cw_ret (post_ret1 rfl (resOk_tmp rfl) ?_)))))
            refine fun w' hw => ⟨?_, (fun w h => Cl.sel (by exact .nil _) w h) _ hw⟩
            rw [ord_self]; simp
end Go.Proofs.YtkmbliojafefdaaGreatDoor

set_option autoImplicit false
namespace Go.Proofs.YtkmbliojafefdaaGreatDoor.letterReasons
open Go.ChangeShapes Go.WideShapes Go.ChangeAt Go.RowKit Go.Sx
theorem own : ownKnob Tryz.prog.godebug = none := by kernel_rfl
theorem laid : laidOutB Tryz.prog = true := by kernel_rfl
theorem rowed : ∀ t ∈ Tryz.f16.params.toList, Tryz.prog.readableRec t = true ∧ t < Tryz.prog.types.size := by
  rw [Tryz.params16]
  intro t ht
  change t ∈ [38, 45, 9] at ht
  simp only [List.mem_cons, List.not_mem_nil, or_false] at ht
  rcases ht with rfl | rfl | rfl <;> exact ⟨by kernel_rfl, of_decide_eq_true (by kernel_rfl)⟩
set_option maxHeartbeats 1000000 in
set_option maxRecDepth 100000 in
theorem lifted (os : Os) (started : os.Started) (H : Type) (enc : TypeId × Value → H) :
    ReturnsInHanded {} Tryz.checked os 16 .any (fun w args => (Rows.letterReasonsSpec.pre enc Tryz.prog Tryz.f16 Rows.letterReasonsRow.domain false w args ∧ laidMetH Tryz.prog Rows.letterReasonsRow.laid w) ∧ sizedMet enc Tryz.prog Tryz.f16 (OpenSpec.ofChange Rows.letterReasonsSpec) false w args)
      (Rows.letterReasonsSpec.post enc Tryz.prog Tryz.f16 false true false false) := by
  refine returnsInHanded_of_change_and (C := Tryz.checked) (X := fun w _ => laidMetH Tryz.prog Rows.letterReasonsRow.laid w) (fun _ _ _ hh h => h.of_heap hh) own started (by kernel_rfl) Tryz.func16
    (ChangeSpec.witness_shaped (enc := enc) (C := Tryz.checked) (os := os) (X := fun w _ => laidMetH Tryz.prog Rows.letterReasonsRow.laid w) false (World.laidAll Tryz.prog os Rows.letterReasonsRow.laid) #[.slice none 0 0, .agg #[.slice none 0 0], .string ByteArray.empty] 8 (World.laidAll_os _ _ _)
      (World.shaped_of_ZipB (by kernel_rfl) (by kernel_rfl)) (by kernel_rfl) (by kernel_rfl) (by kernel_rfl)
      (by rw [MakeChecks.laidMetH_plain _ _ _ (by kernel_rfl)]; exact laidMet_laidAll _ (by kernel_rfl) (by kernel_rfl))) ?_
  intro W base args ds gs before hval0 hW hcnd _ hL _
  have hval : ∀ (j : Nat) t v, Tryz.f16.params[j]? = some t → args[j]? = some v → Value.okWide Tryz.prog W .any base t v := hval0
  have hW' := hW
  have hlt := hW.lt
  obtain ⟨p, q, hA0, hV, rfl, hfz, hnd⟩ := hW
  have hA : DataW.TrodAll enc Tryz.prog W 0 (fun _ => true) true Tryz.f16.params.toList args.toList ds p := hA0
  have hkeep := fun (W' : World) (hb : Below W.heap.size W W') (sp : Nat → Bool) (hsp : ∀ x ∈ p, sp x.block = true) => trodAll_keep laid hb sp rowed hA (fun x hx => hlt x (by simp [hx])) hsp
  rw [Tryz.params16] at hA hval
  obtain ⟨v0, vs0, d0, ds0, p0, q0, hargs, rfl, rfl, h0, r0⟩ := trodAll_cons hA
  obtain ⟨v1, vs1, d1, ds1, p1, q1, rfl, rfl, rfl, h1, r1⟩ := trodAll_cons r0
  obtain ⟨v2, vs2, d2, ds2, p2, q2, rfl, rfl, rfl, h2, r2⟩ := trodAll_cons r1
  obtain ⟨rfl, rfl, rfl⟩ := trodAll_nil r2
  obtain rfl : args = #[v0, v1, v2] := by cases args; simp_all
  obtain ⟨rfl, rfl⟩ := trodVars_none hV
  obtain ⟨a0, b0, rfl, k0⟩ := open_deep (hval 0 38 v0 rfl rfl) h0
  obtain ⟨a1, b1, rfl, k1⟩ := open_deep (hval 1 45 v1 rfl rfl) h1
  obtain ⟨a2, b2, rfl, k2⟩ := open_deep (hval 2 9 v2 rfl rfl) h2
  obtain ⟨rfl, w2⟩ := k2.here
  clear hA0 hval0
  rw [MakeChecks.laidMetH_plain _ _ _ (by kernel_rfl)] at hL
  have hT : Stb W [] Tab := tab_stb (utf8Tabs_of_readsT (U8Types.of196 Tryz.lays196) ⟨by kernel_rfl, by kernel_rfl, by kernel_rfl, by kernel_rfl, by kernel_rfl, by kernel_rfl, by kernel_rfl⟩ (Pinned.utf8First_eq ▸ Lib.laidMet.reads hL (.tail _ (.head _))) (Lib.laidMet.reads hL (.head _)))
  obtain rfl := k1.here.1
  refine (reasons_spec a0 a1 b0 a2 (by have := w2; unfold maxLen at this; omega) (sp_size k0.here) W hT (stb_flat (fun a b w h => h.1) k0) (sp_all k0) (stb_map k1 fun _ h => h.2)).mono fun e W' ⟨he, hc⟩ => ?_
  subst he
  have hb := below_of hc
  exact ⟨_, rfl, _, _, _, [], _, [], hW', trodAll_cons_mk (shut_bool Tryz.underlying4 _) trodAll_mk0, hkeep W' hb _ (fun x hx => by simpa using hlt x (by simpa using hx)), rfl, hb.frame _, fun h => by cases h⟩
end Go.Proofs.YtkmbliojafefdaaGreatDoor.letterReasons

set_option autoImplicit false
namespace Go.Proofs.YtkmbliojafefdaaGreatDoor.letterReasons
open Go.Sx
theorem named : Tryz.prog.funcNamed "declaim/declaimlaw03.LetterReasons" = some 16 := by kernel_rfl
theorem inst : Tryz.f16.isInstance Tryz.prog Rows.letterReasonsRow.origin Rows.letterReasonsRow.targs := of_decide_eq_true (by kernel_rfl)
theorem wrap : Tryz.f16.isWrapper Tryz.prog Rows.letterReasonsRow.wrapper Rows.letterReasonsRow.mainSum := by unfold Func.isWrapper; first | (rw [if_pos (by decide +kernel)]; kernel_rfl) | (rw [if_neg (by decide +kernel)]; exact ⟨rfl, rfl⟩)
theorem over : Rows.letterReasonsRow.holds Tryz.pinned (OpenSpec.ofChange Rows.letterReasonsSpec) :=
  OpenClaim.holds_of_wide 16 Tryz.f16 rfl rfl rfl rfl rfl rfl rfl ⟨rfl, rfl, rfl, rfl, rfl⟩ rfl rfl rfl rfl rfl named Tryz.func16 closed inst wrap
    (fun os started H enc _ => lifted os started H enc)
end Go.Proofs.YtkmbliojafefdaaGreatDoor.letterReasons
