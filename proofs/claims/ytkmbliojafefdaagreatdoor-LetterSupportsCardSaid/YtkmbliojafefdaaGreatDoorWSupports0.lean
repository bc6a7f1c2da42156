import Derived.Test.YtkmbliojafefdaaGreatDoorWB6

set_option autoImplicit false
set_option linter.unusedSimpArgs false
set_option linter.unusedVariables false
set_option maxRecDepth 100000
namespace Go.Proofs.YtkmbliojafefdaaGreatDoor
open Go.Sx
open Enc (enc val)
structure FgAt (a : List Fgn) (k : Nat) : Prop where
  ph : phonesOk [(nth a k).phone] 1 = true
  lt : 0 < k → sLt (nth a (k - 1)).phone (nth a k).phone = true
  l1 : 1 ≤ (nth a k).sl.length
  l5 : (nth a k).sl.length ≤ 5
  st : ∀ j, j < (nth a k).sl.length → phonesOk (nth (nth a k).sl j) 3 = true
theorem lt_asym {x y : ByteArray} (h : sLt y x = true) : sLt x y = false ∧ ¬ x = y := by
  refine ⟨?_, fun e => ?_⟩
  · cases h2 : sLt x y with
    | false => rfl
    | true => have := sLt_trans h h2; rw [sLt_irr] at this; cases this
  · subst e; rw [sLt_irr] at h; cases h
theorem lt_of {x y : ByteArray} (h : sLt x y = false ∧ ¬ x = y) : sLt y x = true := by
  rcases sLt_tri x y with h1 | h1 | h1
  · rw [h1] at h; cases h.1
  · exact absurd h1 h.2
  · exact h1
end Go.Proofs.YtkmbliojafefdaaGreatDoor

set_option autoImplicit false
set_option maxRecDepth 100000
namespace Go.Proofs.YtkmbliojafefdaaGreatDoor
open Go.Sx
open Enc (enc val)
theorem all_no {α : Type} [Inhabited α] {p : α → Bool} {l : List α} {k : Nat} (hk : k < l.length) (h : p (nth l k) = false) : l.all p = false := by
  rw [List.all_eq_false]; exact ⟨_, nth_mem hk, by simp [h]⟩
theorem all_yes {α : Type} [Inhabited α] {p : α → Bool} {l : List α} (h : ∀ k, k < l.length → p (nth l k) = true) : l.all p = true := by
  rw [List.all_eq_true]
  intro x hx
  obtain ⟨k, hk, rfl⟩ := List.getElem_of_mem hx
  have := h k hk
  rwa [nth_get hk] at this
end Go.Proofs.YtkmbliojafefdaaGreatDoor

set_option autoImplicit false
set_option maxRecDepth 100000
namespace Go.Proofs.YtkmbliojafefdaaGreatDoor
open Go.Sx
open Enc (enc val)
def lawPrs (p : List Pr) : Bool := !(decide (30 < p.length) && decide (p.length ≤ 1000) || decide (1100 < p.length)) && p.all fun u => lawPh u.pl 5
theorem lawPairs_spec (sv : Value) (p : List Pr) (w : World) (hs : Stb w [] (RdL sv p)) (hp : Stb w [] fun w' => ∀ u ∈ p, PrIn u w') : Calls Tryz.prog 17 #[sv] w fun e w' => e = .returned (.bool (lawPrs p)) ∧ Cl w [] [] w' := by
  have hL := rd_len hs.here
  refine calls_cw (vs := [_]) Tryz.func17 rfl Tryz.ntmps17 rfl (Cl.start0 w) (cw_seq (cw_region (zS rfl (q_assign rfl rfl) (sw_nil (post_then (cw_seq (cw_seq (cw_region (zS rfl (q_move rfl rfl) ?_)))))))))
  refine zS rfl (q_len rfl (.k rfl (.nil)) (stA (by assumption))) ?_
  refine zS rfl (q_gtr rfl rfl rfl) (zS rfl (q_move rfl rfl) (zS rfl (q_move rfl rfl) ?_))
  refine zS rfl (q_len rfl (.k rfl (.nil)) (stA (by assumption))) ?_
  refine zS rfl (q_leq rfl rfl rfl) (zS rfl (q_and2 rfl rfl rfl) (zS rfl (q_move rfl rfl) (zS rfl (q_move rfl rfl) ?_)))
  refine zS rfl (q_len rfl (.k rfl (.nil)) (stA (by assumption))) ?_
  refine zS rfl (q_gtr rfl rfl rfl) (zS rfl (q_or2 rfl rfl rfl) (sw_nil (post_then ?_)))
  refine cw_cond rfl (fun h => ?_) (fun h => ?_)
  · have e1 : lawPrs p = false := by
      unfold lawPrs
      simp at h
      rcases h with h | h
      · rw [decide_eq_true (by omega : 30 < p.length), decide_eq_true (by omega : p.length ≤ 1000)]; simp
      · rw [decide_eq_true (by omega : 1100 < p.length)]; simp
    refine cw_seq (cw_region (zS rfl (q_assign rfl rfl) (sw_nil (post_then (cw_ret (post_then_r (post_ret1 rfl (resOk_tmp rfl) ?_)))))))
    exact fun w' hw => ⟨by rw [e1], (Cl.sel (by exact .nil _)) _ hw⟩
  · have e0 : (!(decide (30 < p.length) && decide (p.length ≤ 1000) || decide (1100 < p.length))) = true := by
      simp at h
      simp; omega
    refine cw_skip (post_then (cw_seq (cw_seq (cw_region (zS rfl (q_assign rfl rfl) (sw_nil (post_then (cw_block ?_))))))))
    refine cw_loop (S := Nat) (fun k => [(0, [], sv), (3, [], .int .i64 k)]) (fun _ => Cl w [] []) (fun k => k ≤ p.length ∧ ∀ i, i < k → lawPh (nth p i).pl 5 = true) (fun k => p.length - k) 0 ⟨by omega, fun j hj => by omega⟩ (by exact .cons rfl (.cons rfl .nil)) (Cl.sel (by exact .nil _)) ?_
    rintro k ⟨hk, hbe⟩
    refine cw_seq (cw_seq (cw_region (zS rfl (q_move rfl rfl) (zS rfl (q_move rfl rfl) ?_))))
    refine zS rfl (q_len rfl (.k rfl (.nil)) (stA (by assumption))) ?_
    refine zS rfl (q_lss rfl rfl rfl) (sw_nil (post_then ?_))
    refine cw_cond rfl (fun h2 => ?_) (fun h2 => ?_)
    · have hk' : k < p.length := by simp at h2; omega
      have hx := rd_stb (hp.here _ (nth_mem hk'))
      refine cw_skip (post_then (cw_seq (cw_block (cw_seq (cw_region (zS rfl (q_move rfl rfl) (zS rfl (q_move rfl rfl) ?_)))))))
      refine zS rfl (q_indexN rfl rfl rfl (stA (by assumption)) (by intro hc; omega)) ?_
      refine zS rfl (q_fieldEl rfl rfl (stA (by assumption)) (by intro hc; omega)) ?_
      refine zS rfl (q_loadF rfl rfl rfl (stA (by assumption)) (by intro hc; omega) rfl) ?_
      refine sw_step rfl rfl rfl (q_call (CanCall.mk Tryz.call18) rfl (.k rfl (.k rfl (.nil))) (fun _ w hw => callq hw (lawPhones_spec _ _ _ (by omega) w (by exact stb_arg hw (by assumption))))) ?_
      refine zS rfl (q_not rfl rfl) (sw_nil (post_then ?_))
      refine cw_cond rfl (fun h3 => ?_) (fun h3 => ?_)
      · have e1 : lawPrs p = false := by
          unfold lawPrs
          rw [all_no hk' (by simpa using h3)]
          simp
        refine cw_seq (cw_region (zS rfl (q_assign rfl rfl) (sw_nil (post_then (cw_ret (post_blk_r (post_then_r (post_then_r (post_blk_r (post_then_r (post_ret1 rfl (resOk_tmp rfl) ?_)))))))))))
        exact fun w' hw => ⟨by rw [e1], (Cl.sel (by exact .nil _)) _ hw⟩
      · have e1 : lawPh (nth p k).pl 5 = true := by simpa using h3
        refine cw_skip (post_blk (post_then (cw_region (zS rfl (q_move rfl rfl) ?_))))
        refine zS rfl (q_add rfl rfl rfl (by intro hc; omega)) ?_
        refine zS rfl (q_assign rfl rfl) (sw_nil ?_)
        exact post_next (k + 1) (by exact .cons rfl (.cons rfl .nil)) (Cl.sel (by exact .nil _)) ⟨by omega, fun i hi => by
          rcases Nat.lt_or_ge i k with h6 | h6
          · exact hbe i h6
          · have : i = k := by omega
            subst this; exact e1⟩ (by omega)
    · have hk' : k = p.length := by simp at h2; omega
      subst hk'
      have e1 : lawPrs p = true := by unfold lawPrs; rw [all_yes hbe, e0]; rfl
      refine cw_exit (post_then_x (post_then_x (post_blk_eq (post_then (cw_seq (cw_region (zS rfl (q_assign rfl rfl) (sw_nil (post_then (cw_ret (post_ret1 rfl (resOk_tmp rfl) ?_)))))))))))
      exact fun w' hw => ⟨by rw [e1], (Cl.sel (by exact .nil _)) _ hw⟩
theorem lawPrs_z {p : List Pr} (h : lawPrs p = true) : ∀ u ∈ p, u.pl.length ≤ 5 ∧ ∀ b ∈ u.pl, b.size ≤ 12 := fun u hu => by
  unfold lawPrs lawPh at h
  simp only [Bool.and_eq_true, List.all_eq_true, decide_eq_true_eq] at h
  have := h.2 u hu
  exact ⟨by omega, this.2⟩
def lawLex (l : List Sp) (most : Int) : Bool := !(decide (most < l.length) && decide (l.length ≤ 3000) || decide (3500 < l.length)) && l.all fun u => decide (u.word.size ≤ 60) && lawPh u.pl 130
theorem lawLex_spec (sv : Value) (l : List Sp) (most : Int) (hz : ∀ u ∈ l, u.word.size ≤ 9223372036854775807) (w : World) (hs : Stb w [] (RdL sv l)) (hp : Stb w [] fun w' => ∀ u ∈ l, SpIn u w') : Calls Tryz.prog 27 #[sv, .int .i64 most] w fun e w' => e = .returned (.bool (lawLex l most)) ∧ Cl w [] [] w' := by
  have hL := rd_len hs.here
  refine calls_cw (vs := [_, _]) Tryz.func27 rfl Tryz.ntmps27 rfl (Cl.start0 w) (cw_seq (cw_region (zS rfl (q_assign rfl rfl) (sw_nil (post_then (cw_seq (cw_seq (cw_region (zS rfl (q_move rfl rfl) ?_)))))))))
  refine zS rfl (q_len rfl (.k rfl (.nil)) (stA (by assumption))) ?_
  refine zS rfl (q_move rfl rfl) (zS rfl (q_gtr rfl rfl rfl) (zS rfl (q_move rfl rfl) (zS rfl (q_move rfl rfl) ?_)))
  refine zS rfl (q_len rfl (.k rfl (.nil)) (stA (by assumption))) ?_
  refine zS rfl (q_leq rfl rfl rfl) (zS rfl (q_and2 rfl rfl rfl) (zS rfl (q_move rfl rfl) (zS rfl (q_move rfl rfl) ?_)))
  refine zS rfl (q_len rfl (.k rfl (.nil)) (stA (by assumption))) ?_
  refine zS rfl (q_gtr rfl rfl rfl) (zS rfl (q_or2 rfl rfl rfl) (sw_nil (post_then ?_)))
  refine cw_cond rfl (fun h => ?_) (fun h => ?_)
  · have e1 : lawLex l most = false := by
      unfold lawLex
      simp at h
      rcases h with h | h
      · rw [decide_eq_true (by omega : most < l.length), decide_eq_true (by omega : l.length ≤ 3000)]; simp
      · rw [decide_eq_true (by omega : 3500 < l.length)]; simp
    refine cw_seq (cw_region (zS rfl (q_assign rfl rfl) (sw_nil (post_then (cw_ret (post_then_r (post_ret1 rfl (resOk_tmp rfl) ?_)))))))
    exact fun w' hw => ⟨by rw [e1], (Cl.sel (by exact .nil _)) _ hw⟩
  · have e0 : (!(decide (most < l.length) && decide (l.length ≤ 3000) || decide (3500 < l.length))) = true := by
      simp at h
      simp; omega
    refine cw_skip (post_then (cw_seq (cw_seq (cw_region (zS rfl (q_assign rfl rfl) (sw_nil (post_then (cw_block ?_))))))))
    refine cw_loop (S := Nat) (fun k => [(0, [], sv), (5, [], .int .i64 k)]) (fun _ => Cl w [] []) (fun k => k ≤ l.length ∧ ∀ i, i < k → (decide ((nth l i).word.size ≤ 60) && lawPh (nth l i).pl 130) = true) (fun k => l.length - k) 0 ⟨by omega, fun j hj => by omega⟩ (by exact .cons rfl (.cons rfl .nil)) (Cl.sel (by exact .nil _)) ?_
    rintro k ⟨hk, hbe⟩
    refine cw_seq (cw_seq (cw_region (zS rfl (q_move rfl rfl) (zS rfl (q_move rfl rfl) ?_))))
    refine zS rfl (q_len rfl (.k rfl (.nil)) (stA (by assumption))) ?_
    refine zS rfl (q_lss rfl rfl rfl) (sw_nil (post_then ?_))
    refine cw_cond rfl (fun h2 => ?_) (fun h2 => ?_)
    · have hk' : k < l.length := by simp at h2; omega
      have hx := rd_stb (hp.here _ (nth_mem hk'))
      have hzk := hz _ (nth_mem hk')
      refine cw_skip (post_then (cw_seq (cw_block (cw_seq (cw_region (zS rfl (q_move rfl rfl) (zS rfl (q_move rfl rfl) ?_)))))))
      refine zS rfl (q_indexN rfl rfl rfl (stA (by assumption)) (by intro hc; omega)) ?_
      refine zS rfl (q_fieldEl rfl rfl (stA (by assumption)) (by intro hc; omega)) ?_
      refine zS rfl (q_loadF rfl rfl rfl (stA (by assumption)) (by intro hc; omega) rfl) ?_
      refine zS rfl (q_lenS rfl (.k rfl (.nil)) Tryz.underlying9) (zS rfl (q_gtr rfl rfl rfl) (zS rfl (q_move rfl rfl) (zS rfl (q_move rfl rfl) (zS rfl (q_move rfl rfl) ?_))))
      refine zS rfl (q_indexN rfl rfl rfl (stA (by assumption)) (by intro hc; omega)) ?_
      refine zS rfl (q_fieldEl rfl rfl (stA (by assumption)) (by intro hc; omega)) ?_
      refine zS rfl (q_loadF rfl rfl rfl (stA (by assumption)) (by intro hc; omega) rfl) ?_
      refine sw_step rfl rfl rfl (q_call (CanCall.mk Tryz.call18) rfl (.k rfl (.k rfl (.nil))) (fun _ w hw => callq hw (lawPhones_spec _ _ _ (by omega) w (by exact stb_arg hw (by assumption))))) ?_
      refine zS rfl (q_not rfl rfl) (zS rfl (q_or2 rfl rfl rfl) (sw_nil (post_then ?_)))
      refine cw_cond rfl (fun h3 => ?_) (fun h3 => ?_)
      · have e1 : lawLex l most = false := by
          unfold lawLex
          rw [all_no hk' (by
            cases q1 : lawPh (nth l k).pl 130 <;> simp [q1] at h3 ⊢; omega)]
          simp
        refine cw_seq (cw_region (zS rfl (q_assign rfl rfl) (sw_nil (post_then (cw_ret (post_blk_r (post_then_r (post_then_r (post_blk_r (post_then_r (post_ret1 rfl (resOk_tmp rfl) ?_)))))))))))
        exact fun w' hw => ⟨by rw [e1], (Cl.sel (by exact .nil _)) _ hw⟩
      · have e1 : (decide ((nth l k).word.size ≤ 60) && lawPh (nth l k).pl 130) = true := by
          cases q1 : lawPh (nth l k).pl 130 <;> simp [q1] at h3 ⊢; omega
        refine cw_skip (post_blk (post_then (cw_region (zS rfl (q_move rfl rfl) ?_))))
        refine zS rfl (q_add rfl rfl rfl (by intro hc; omega)) ?_
        refine zS rfl (q_assign rfl rfl) (sw_nil ?_)
        exact post_next (k + 1) (by exact .cons rfl (.cons rfl .nil)) (Cl.sel (by exact .nil _)) ⟨by omega, fun i hi => by
          rcases Nat.lt_or_ge i k with h6 | h6
          · exact hbe i h6
          · have : i = k := by omega
            subst this; exact e1⟩ (by omega)
    · have hk' : k = l.length := by simp at h2; omega
      subst hk'
      have e1 : lawLex l most = true := by unfold lawLex; rw [all_yes hbe, e0]; rfl
      refine cw_exit (post_then_x (post_then_x (post_blk_eq (post_then (cw_seq (cw_region (zS rfl (q_assign rfl rfl) (sw_nil (post_then (cw_ret (post_ret1 rfl (resOk_tmp rfl) ?_)))))))))))
      exact fun w' hw => ⟨by rw [e1], (Cl.sel (by exact .nil _)) _ hw⟩
theorem lawLex_z {l : List Sp} {most : Int} (h : lawLex l most = true) : ∀ u ∈ l, u.word.size ≤ 60 ∧ u.pl.length ≤ 130 ∧ ∀ b ∈ u.pl, b.size ≤ 12 := fun u hu => by
  unfold lawLex lawPh at h
  simp only [Bool.and_eq_true, List.all_eq_true, decide_eq_true_eq] at h
  have := h.2 u hu
  exact ⟨this.1, by omega, this.2.2⟩
def prsOk (p : List Pr) : Bool := riseB prC p && p.all prOk
structure PrAt (p : List Pr) (k : Nat) : Prop where
  ok : prOk (nth p k) = true
  lt : 0 < k → (nth p (k - 1)).c < (nth p k).c ∨ (nth p (k - 1)).c = (nth p k).c ∧ ordL (nth p (k - 1)).pl (nth p k).pl < 0
theorem prC_neg {a b : Pr} : prC a b < 0 ↔ a.c < b.c ∨ a.c = b.c ∧ ordL a.pl b.pl < 0 := by
  unfold prC orL
  by_cases h : sgn (a.c - b.c) = 0
  · rw [if_pos h]
    rw [sgn_zero] at h
    unfold orL
    split
    · rw [show orL [] = 0 from rfl]; constructor <;> omega
    · constructor <;> omega
  · rw [if_neg h]
    rw [sgn_neg]
    rw [sgn_zero] at h
    constructor <;> omega
theorem prs_iff {p : List Pr} : prsOk p = true ↔ ∀ k, k < p.length → PrAt p k := by
  unfold prsOk
  simp only [Bool.and_eq_true, List.all_eq_true]
  constructor
  · intro ⟨h1, h2⟩ k hk
    exact ⟨h2 _ (nth_mem hk), fun h0 => prC_neg.1 (riseB_yes.1 h1 k (by omega) hk)⟩
  · intro h
    refine ⟨riseB_yes.2 fun k h1 h2 => prC_neg.2 ((h k h2).lt (by omega)), fun L hL => ?_⟩
    obtain ⟨k, hk, rfl⟩ := List.getElem_of_mem hL
    rw [← nth_get hk]
    exact (h k hk).ok
theorem refPairs_spec (sv : Value) (p : List Pr) (hz : ∀ u ∈ p, ∀ b ∈ u.pl, b.size ≤ 9223372036854775807) (w : World) (hs : Stb w [] (RdL sv p)) (hp : Stb w [] fun w' => ∀ u ∈ p, PrIn u w') : Calls Tryz.prog 22 #[sv] w fun e w' => e = .returned (.bool (prsOk p)) ∧ Cl w [] [] w' := by
  have hL := rd_len hs.here
  refine calls_cw (vs := [_]) Tryz.func22 rfl Tryz.ntmps22 rfl (Cl.start0 w) (cw_seq (cw_region (zS rfl (q_assign rfl rfl) (sw_nil (post_then (cw_seq (cw_seq (cw_region (zS rfl (q_assign rfl rfl) (sw_nil (post_then (cw_block ?_))))))))))))
  refine cw_loop (S := Nat) (fun k => [(0, [], sv), (3, [], .int .i64 k)]) (fun _ => Cl w [] []) (fun k => k ≤ p.length ∧ ∀ j, j < k → PrAt p j) (fun k => p.length - k) 0 ⟨by omega, fun j hj => by omega⟩ (by exact .cons rfl (.cons rfl .nil)) (Cl.sel (by exact .nil _)) ?_
  rintro k ⟨hk, hbe⟩
  refine cw_seq (cw_seq (cw_region (zS rfl (q_move rfl rfl) (zS rfl (q_move rfl rfl) ?_))))
  refine zS rfl (q_len rfl (.k rfl (.nil)) (stA (by assumption))) ?_
  refine zS rfl (q_lss rfl rfl rfl) (sw_nil (post_then ?_))
  refine cw_cond rfl (fun h => ?_) (fun h => ?_)
  · have hk' : k < p.length := by simp at h; omega
    have hno : ¬ PrAt p k → prsOk p = false := fun hn => by
      cases hx : prsOk p with
      | false => rfl
      | true => exact absurd (prs_iff.1 hx k hk') hn
    have e1 : 0 < k → ((k : Int) - 1).toNat = k - 1 := fun h0 => by omega
    have hx := rd_stb (hp.here _ (nth_mem hk'))
    have hx2 : Stb w [] (RdL (nth p ((k : Int) - 1).toNat).p.v (nth p ((k : Int) - 1).toNat).pl) := by
      by_cases h0 : 0 < k
      · rw [e1 h0]; exact rd_stb (hp.here _ (nth_mem (by omega)))
      · rw [show ((k : Int) - 1).toNat = 0 by omega]; exact rd_stb (hp.here _ (nth_mem (by omega)))
    have hzk := hz _ (nth_mem hk')
    refine cw_skip (post_then (cw_seq (cw_block (cw_seq (cw_seq (cw_region (zS rfl (q_move rfl rfl) (zS rfl (q_move rfl rfl) ?_))))))))
    refine zS rfl (q_indexN rfl rfl rfl (stA (by assumption)) (by intro hc; omega)) ?_
    refine zS rfl (q_fieldEl rfl rfl (stA (by assumption)) (by intro hc; omega)) ?_
    refine zS rfl (q_loadF rfl rfl rfl (stA (by assumption)) (by intro hc; omega) rfl) ?_
    refine sw_step rfl rfl rfl (q_call (CanCall.mk Tryz.call66) rfl (.k rfl (.nil)) (fun _ w hw => callq hw (refLetter_spec _ w))) (zS rfl (q_not rfl rfl) (zS rfl (q_move rfl rfl) (zS rfl (q_move rfl rfl) (zS rfl (q_move rfl rfl) ?_))))
    refine zS rfl (q_indexN rfl rfl rfl (stA (by assumption)) (by intro hc; omega)) ?_
    refine zS rfl (q_fieldEl rfl rfl (stA (by assumption)) (by intro hc; omega)) ?_
    refine zS rfl (q_loadF rfl rfl rfl (stA (by assumption)) (by intro hc; omega) rfl) ?_
    refine sw_step rfl rfl rfl (q_call (CanCall.mk Tryz.call23) rfl (.k rfl (.k rfl (.nil))) (fun _ w hw => callq hw (refPhones_spec _ _ _ w (by exact stb_arg hw (by assumption)) (by assumption)))) ?_
    refine zS rfl (q_not rfl rfl) (zS rfl (q_or2 rfl rfl rfl) (zS rfl (q_move rfl rfl) (zS rfl (q_move rfl rfl) (zS rfl (q_move rfl rfl) ?_))))
    refine zS rfl (q_indexN rfl rfl rfl (stA (by assumption)) (by intro hc; omega)) ?_
    refine zS rfl (q_fieldEl rfl rfl (stA (by assumption)) (by intro hc; omega)) ?_
    refine zS rfl (q_loadF rfl rfl rfl (stA (by assumption)) (by intro hc; omega) rfl) ?_
    refine zS rfl (q_lss rfl rfl rfl) (zS rfl (q_or2 rfl rfl rfl) (zS rfl (q_move rfl rfl) (zS rfl (q_move rfl rfl) (zS rfl (q_move rfl rfl) ?_))))
    refine zS rfl (q_indexN rfl rfl rfl (stA (by assumption)) (by intro hc; omega)) ?_
    refine zS rfl (q_fieldEl rfl rfl (stA (by assumption)) (by intro hc; omega)) ?_
    refine zS rfl (q_loadF rfl rfl rfl (stA (by assumption)) (by intro hc; omega) rfl) ?_
    refine zS rfl (q_gtr rfl rfl rfl) (zS rfl (q_or2 rfl rfl rfl) (sw_nil (post_then ?_)))
    refine cw_cond rfl (fun h2 => ?_) (fun h2 => ?_)
    · have hf : prsOk p = false := hno fun hh => by
        have f1 := hh.ok
        unfold prOk at f1
        simp only [Bool.and_eq_true, decide_eq_true_eq] at f1
        simp [f1] at h2
        omega
      refine cw_seq (cw_region (zS rfl (q_assign rfl rfl) (sw_nil (post_then (cw_ret (post_then_r (post_blk_r (post_then_r (post_then_r (post_blk_r (post_then_r (post_ret1 rfl (resOk_tmp rfl) ?_))))))))))))
      exact fun w' hw => ⟨by rw [hf], (Cl.sel (by exact .nil _)) _ hw⟩
    · have h3 : prOk (nth p k) = true := by
        simp at h2
        unfold prOk
        simp only [Bool.and_eq_true, decide_eq_true_eq]
        exact ⟨⟨⟨h2.1.1.1, h2.1.1.2⟩, by omega⟩, by omega⟩
      refine cw_skip (post_then (cw_seq ?_))
      refine cw_region_q mixed_Tryz (by kernel_rfl) ?_
      refine zq rfl (q_move rfl rfl) (zq rfl (q_gtr rfl rfl rfl) (zq rfl (q_move rfl rfl) (zq rfl (q_move rfl rfl) (zq rfl (q_move rfl rfl) ?_))))
      refine zq rfl (q_indexN rfl rfl rfl (stA (by assumption)) (by intro hc; omega)) ?_
      refine zq rfl (q_fieldEl rfl rfl (stA (by assumption)) (by intro hc; omega)) ?_
      refine zq rfl (q_loadF rfl rfl rfl (stA (by assumption)) (by intro hc; omega) rfl) ?_
      refine zq rfl (q_move rfl rfl) (zq rfl (q_move rfl rfl) ?_)
      refine zq rfl (q_sub rfl rfl rfl (by intro hc; omega)) ?_
      refine zq rfl (q_index rfl rfl rfl (stA (by assumption)) (by intro hc; (simp only [AllT.iff, List.all_cons, List.all_nil, id, Bool.and_eq_true, Bool.not_eq_true', decide_eq_true_eq, decide_eq_false_iff_not, and_true] at hc; omega))) ?_
      refine zq rfl (q_fieldEl rfl rfl (stA (by assumption)) (by intro hc; omega)) ?_
      refine zq rfl (q_loadF rfl rfl rfl (stA (by assumption)) (by intro hc; omega) rfl) ?_
      refine zq rfl (q_lss rfl rfl rfl) (zq rfl (q_move rfl rfl) (zq rfl (q_move rfl rfl) (zq rfl (q_move rfl rfl) ?_)))
      refine zq rfl (q_indexN rfl rfl rfl (stA (by assumption)) (by intro hc; omega)) ?_
      refine zq rfl (q_fieldEl rfl rfl (stA (by assumption)) (by intro hc; omega)) ?_
      refine zq rfl (q_loadF rfl rfl rfl (stA (by assumption)) (by intro hc; omega) rfl) ?_
      refine zq rfl (q_move rfl rfl) (zq rfl (q_move rfl rfl) ?_)
      refine zq rfl (q_sub rfl rfl rfl (by intro hc; omega)) ?_
      refine zq rfl (q_index rfl rfl rfl (stA (by assumption)) (by intro hc; (simp only [AllT.iff, List.all_cons, List.all_nil, id, Bool.and_eq_true, Bool.not_eq_true', decide_eq_true_eq, decide_eq_false_iff_not, and_true] at hc; omega))) ?_
      refine zq rfl (q_fieldEl rfl rfl (stA (by assumption)) (by intro hc; omega)) ?_
      refine zq rfl (q_loadF rfl rfl rfl (stA (by assumption)) (by intro hc; omega) rfl) ?_
      refine zq rfl (q_eql rfl rfl rfl) (zq rfl (q_move rfl rfl) (zq rfl (q_move rfl rfl) (zq rfl (q_move rfl rfl) ?_)))
      refine zq rfl (q_sub rfl rfl rfl (by intro hc; omega)) ?_
      refine zq rfl (q_index rfl rfl rfl (stA (by assumption)) (by intro hc; (simp only [AllT.iff, List.all_cons, List.all_nil, id, Bool.and_eq_true, Bool.not_eq_true', decide_eq_true_eq, decide_eq_false_iff_not, and_true] at hc; omega))) ?_
      refine zq rfl (q_fieldEl rfl rfl (stA (by assumption)) (by intro hc; omega)) ?_
      refine zq rfl (q_loadF rfl rfl rfl (stA (by assumption)) (by intro hc; omega) rfl) ?_
      refine zq rfl (q_move rfl rfl) (zq rfl (q_move rfl rfl) ?_)
      refine zq rfl (q_indexN rfl rfl rfl (stA (by assumption)) (by intro hc; omega)) ?_
      refine zq rfl (q_fieldEl rfl rfl (stA (by assumption)) (by intro hc; omega)) ?_
      refine zq rfl (q_loadF rfl rfl rfl (stA (by assumption)) (by intro hc; omega) rfl) ?_
      refine qw_step rfl rfl rfl (q_call (CanCall.mk Tryz.call38) rfl (.k rfl (.k rfl (.nil))) (fun _ w hw => callq hw (order_spec _ _ _ _ w (by exact stb_arg hw (by assumption)) (by exact stb_arg hw (by assumption))))) ?_
      refine zq rfl (q_geq rfl rfl rfl) (zq rfl (q_and2 rfl rfl rfl) (zq rfl (q_or2 rfl rfl rfl) (zq rfl (q_and2 rfl rfl rfl) (qw_end (post_then ?_)))))
      refine cw_cond rfl (fun h4 => ?_) (fun h4 => ?_)
      · have hf : prsOk p = false := hno fun hh => by
          by_cases hk0 : 0 < k
          · have f2 := hh.lt hk0
            rw [e1 hk0] at h4
            simp [hk0] at h4
            omega
          · have hk1 : k = 0 := by omega
            subst hk1
            simp at h4
        refine cw_seq (cw_region (zS rfl (q_assign rfl rfl) (sw_nil (post_then (cw_ret (post_blk_r (post_then_r (post_then_r (post_blk_r (post_then_r (post_ret1 rfl (resOk_tmp rfl) ?_)))))))))))
        exact fun w' hw => ⟨by rw [hf], (Cl.sel (by exact .nil _)) _ hw⟩
      · have h9 : PrAt p k := by
          refine ⟨h3, fun hk0 => ?_⟩
          rw [e1 hk0] at h4
          simp [hk0] at h4
          by_cases h5 : (nth p (k - 1)).c = (nth p k).c
          · right
            have := h4.2 h5.symm
            exact ⟨h5, by omega⟩
          · left; omega
        refine cw_skip (post_blk (post_then (cw_region (zS rfl (q_move rfl rfl) ?_))))
        refine zS rfl (q_add rfl rfl rfl (by intro hc; omega)) ?_
        refine zS rfl (q_assign rfl rfl) (sw_nil ?_)
        exact post_next (k + 1) (by exact .cons rfl (.cons rfl .nil)) (Cl.sel (by exact .nil _)) ⟨by omega, fun i hi => by
          rcases Nat.lt_or_ge i k with h6 | h6
          · exact hbe i h6
          · have : i = k := by omega
            subst this; exact h9⟩ (by omega)
  · have hk' : k = p.length := by simp at h; omega
    subst hk'
    have hf : prsOk p = true := prs_iff.2 hbe
    refine cw_exit (post_then_x (post_then_x (post_blk_eq (post_then (cw_seq (cw_region (zS rfl (q_assign rfl rfl) (sw_nil (post_then (cw_ret (post_ret1 rfl (resOk_tmp rfl) ?_)))))))))))
    exact fun w' hw => ⟨by rw [hf], (Cl.sel (by exact .nil _)) _ hw⟩
def lexOk (l : List Sp) : Bool := riseB spC l && l.all spOk
structure SpAt (l : List Sp) (k : Nat) : Prop where
  ok : spOk (nth l k) = true
  lt : 0 < k → sLt (nth l (k - 1)).word (nth l k).word = true
theorem lex_iff {l : List Sp} : lexOk l = true ↔ ∀ k, k < l.length → SpAt l k := by
  unfold lexOk
  simp only [Bool.and_eq_true, List.all_eq_true]
  constructor
  · intro ⟨h1, h2⟩ k hk
    exact ⟨h2 _ (nth_mem hk), fun h0 => cmpS_neg.1 (riseB_yes.1 h1 k (by omega) hk)⟩
  · intro h
    refine ⟨riseB_yes.2 fun k h1 h2 => cmpS_neg.2 ((h k h2).lt (by omega)), fun L hL => ?_⟩
    obtain ⟨k, hk, rfl⟩ := List.getElem_of_mem hL
    rw [← nth_get hk]
    exact (h k hk).ok
theorem refLexicon_spec (sv : Value) (l : List Sp) (hz : ∀ u ∈ l, u.word.size ≤ 1000 ∧ ∀ b ∈ u.pl, b.size ≤ 9223372036854775807) (w : World) (hT : Stb w [] Tab) (hs : Stb w [] (RdL sv l)) (hp : Stb w [] fun w' => ∀ u ∈ l, SpIn u w') : Calls Tryz.prog 51 #[sv] w fun e w' => e = .returned (.bool (lexOk l)) ∧ Cl w [] [] w' := by
  have hL := rd_len hs.here
  refine calls_cw (vs := [_]) Tryz.func51 rfl Tryz.ntmps51 rfl (Cl.start0 w) (cw_seq (cw_region (zS rfl (q_assign rfl rfl) (sw_nil (post_then (cw_seq (cw_seq (cw_region (zS rfl (q_assign rfl rfl) (sw_nil (post_then (cw_block ?_))))))))))))
  refine cw_loop (S := Nat) (fun k => [(0, [], sv), (3, [], .int .i64 k)]) (fun _ => Cl w [] []) (fun k => k ≤ l.length ∧ ∀ j, j < k → SpAt l j) (fun k => l.length - k) 0 ⟨by omega, fun j hj => by omega⟩ (by exact .cons rfl (.cons rfl .nil)) (Cl.sel (by exact .nil _)) ?_
  rintro k ⟨hk, hbe⟩
  refine cw_seq (cw_seq (cw_region (zS rfl (q_move rfl rfl) (zS rfl (q_move rfl rfl) ?_))))
  refine zS rfl (q_len rfl (.k rfl (.nil)) (stA (by assumption))) ?_
  refine zS rfl (q_lss rfl rfl rfl) (sw_nil (post_then ?_))
  refine cw_cond rfl (fun h => ?_) (fun h => ?_)
  · have hk' : k < l.length := by simp at h; omega
    have hno : ¬ SpAt l k → lexOk l = false := fun hn => by
      cases hx : lexOk l with
      | false => rfl
      | true => exact absurd (lex_iff.1 hx k hk') hn
    have e1 : 0 < k → ((k : Int) - 1).toNat = k - 1 := fun h0 => by omega
    have hx := rd_stb (hp.here _ (nth_mem hk'))
    obtain ⟨hzw, hzk⟩ := hz _ (nth_mem hk')
    refine cw_skip (post_then (cw_seq (cw_block (cw_seq (cw_region (zS rfl (q_move rfl rfl) (zS rfl (q_move rfl rfl) ?_)))))))
    refine zS rfl (q_indexN rfl rfl rfl (stA (by assumption)) (by intro hc; omega)) ?_
    refine zS rfl (q_fieldEl rfl rfl (stA (by assumption)) (by intro hc; omega)) ?_
    refine zS rfl (q_loadF rfl rfl rfl (stA (by assumption)) (by intro hc; omega) rfl) ?_
    refine sw_x rfl rfl rfl (e_call (CanCall.mk Tryz.call21) rfl (.k rfl (.nil)) (fun w hw => refLetters_spec _ w (by omega) (stb_arg hw (by assumption)))) (fun x18 => ?_)
    refine sw_imp (fun hx18 => ?_)
    refine zS rfl (q_move rfl rfl) (zS rfl (q_extract rfl rfl rfl) (zS rfl (q_extract rfl rfl rfl) (zS rfl (q_assign rfl rfl) (zS rfl (q_assign rfl rfl) (sw_nil (post_then (cw_seq ?_)))))))
    refine cw_region_q mixed_Tryz (by kernel_rfl) ?_
    refine zq rfl (q_move rfl rfl) (zq rfl (q_not rfl rfl) (zq rfl (q_move rfl rfl) (zq rfl (q_move rfl rfl) (zq rfl (q_move rfl rfl) ?_))))
    refine zq rfl (q_indexN rfl rfl rfl (stA (by assumption)) (by intro hc; omega)) ?_
    refine zq rfl (q_fieldEl rfl rfl (stA (by assumption)) (by intro hc; omega)) ?_
    refine zq rfl (q_loadF rfl rfl rfl (stA (by assumption)) (by intro hc; omega) rfl) ?_
    refine qw_step rfl rfl rfl (q_call (CanCall.mk Tryz.call23) rfl (.k rfl (.k rfl (.nil))) (fun _ w hw => callq hw (refPhones_spec _ _ _ w (by exact stb_arg hw (by assumption)) (by assumption)))) ?_
    refine zq rfl (q_not rfl rfl) (zq rfl (q_or2 rfl rfl rfl) (zq rfl (q_move rfl rfl) (zq rfl (q_move rfl rfl) (zq rfl (q_gtr rfl rfl rfl) (zq rfl (q_move rfl rfl) (zq rfl (q_move rfl rfl) (zq rfl (q_move rfl rfl) ?_)))))))
    refine zq rfl (q_indexN rfl rfl rfl (stA (by assumption)) (by intro hc; omega)) ?_
    refine zq rfl (q_fieldEl rfl rfl (stA (by assumption)) (by intro hc; omega)) ?_
    refine zq rfl (q_loadF rfl rfl rfl (stA (by assumption)) (by intro hc; omega) rfl) ?_
    refine zq rfl (q_move rfl rfl) (zq rfl (q_move rfl rfl) ?_)
    refine zq rfl (q_sub rfl rfl rfl (by intro hc; omega)) ?_
    refine zq rfl (q_index rfl rfl rfl (stA (by assumption)) (by intro hc; (simp only [AllT.iff, List.all_cons, List.all_nil, id, Bool.and_eq_true, Bool.not_eq_true', decide_eq_true_eq, decide_eq_false_iff_not, and_true] at hc; omega))) ?_
    refine zq rfl (q_fieldEl rfl rfl (stA (by assumption)) (by intro hc; omega)) ?_
    refine zq rfl (q_loadF rfl rfl rfl (stA (by assumption)) (by intro hc; omega) rfl) ?_
    refine zq rfl (q_leqStr rfl rfl rfl Tryz.underlying9) (zq rfl (q_and2 rfl rfl rfl) (zq rfl (q_or2 rfl rfl rfl) (qw_end (post_then ?_))))
    refine cw_cond rfl (fun h2 => ?_) (fun h2 => ?_)
    · have hf : lexOk l = false := hno fun hh => by
        have f1 := hh.ok
        unfold spOk at f1
        simp only [Bool.and_eq_true] at f1
        by_cases hk0 : 0 < k
        · have f2 := hh.lt hk0
          rw [e1 hk0] at h2
          have f6 := lt_asym f2
          simp [f1, f6, hk0] at h2
        · have hk1 : k = 0 := by omega
          subst hk1
          simp [f1] at h2
      refine cw_seq (cw_region (zS rfl (q_assign rfl rfl) (sw_nil (post_then (cw_ret (post_blk_r (post_then_r (post_then_r (post_blk_r (post_then_r (post_ret1 rfl (resOk_tmp rfl) ?_)))))))))))
      exact fun w' hw => ⟨by rw [hf], (Cl.sel (by exact .nil _)) _ hw⟩
    · have h9 : SpAt l k := by
        by_cases hk0 : 0 < k
        · rw [e1 hk0] at h2
          simp [hk0] at h2
          exact ⟨by unfold spOk; rw [h2.1.1, h2.1.2]; rfl, fun _ => lt_of h2.2⟩
        · have hk1 : k = 0 := by omega
          subst hk1
          simp at h2
          exact ⟨by unfold spOk; rw [h2.1, h2.2]; rfl, fun _ => by omega⟩
      refine cw_skip (post_blk (post_then (cw_region (zS rfl (q_move rfl rfl) ?_))))
      refine zS rfl (q_add rfl rfl rfl (by intro hc; omega)) ?_
      refine zS rfl (q_assign rfl rfl) (sw_nil ?_)
      exact post_next (k + 1) (by exact .cons rfl (.cons rfl .nil)) (Cl.sel (by exact .nil _)) ⟨by omega, fun i hi => by
        rcases Nat.lt_or_ge i k with h6 | h6
        · exact hbe i h6
        · have : i = k := by omega
          subst this; exact h9⟩ (by omega)
  · have hk' : k = l.length := by simp at h; omega
    subst hk'
    have hf : lexOk l = true := lex_iff.2 hbe
    refine cw_exit (post_then_x (post_then_x (post_blk_eq (post_then (cw_seq (cw_region (zS rfl (q_assign rfl rfl) (sw_nil (post_then (cw_ret (post_ret1 rfl (resOk_tmp rfl) ?_)))))))))))
    exact fun w' hw => ⟨by rw [hf], (Cl.sel (by exact .nil _)) _ hw⟩
end Go.Proofs.YtkmbliojafefdaaGreatDoor

set_option autoImplicit false
set_option maxRecDepth 100000
namespace Go.Proofs.YtkmbliojafefdaaGreatDoor
open Go.Sx
open Enc (enc val)
theorem near_spec (x : XR) (d : Int) (hx : 0 ≤ x.at_ ∧ x.at_ ≤ 1000000) (hd : -1000 ≤ d ∧ d ≤ 1000) (w : World) (hw : Stb w [] (RdL x.w.v x.wl)) : Calls Tryz.prog 78 #[val x, .int .i64 d] w fun e w' => e = .returned (.int .i32 (lookC x.wl (x.at_ + d))) ∧ Cl w [] [] w' := by
  have hL := rd_len hw.here
  refine calls_cw (vs := [_, _]) Tryz.func78 rfl Tryz.ntmps78 rfl (Cl.start0 w) (cw_seq (cw_region ?_))
  refine sw_x rfl rfl rfl (e_box rfl rfl rfl) (fun b2 => ?_)
  refine zS rfl (q_assign rfl rfl) (sw_nil (post_then (cw_seq (cw_seq (cw_region (zS rfl (q_fieldAddr rfl rfl) ?_))))))
  refine zS rfl (q_loadC rfl rfl (by exact .head _) rfl) ?_
  refine zS rfl (q_move rfl rfl) ?_
  refine zS rfl (q_add rfl rfl rfl (by intro hc; omega)) ?_
  refine zS rfl (q_lss rfl rfl rfl) (zS rfl (q_move rfl rfl) (zS rfl (q_fieldAddr rfl rfl) ?_))
  refine zS rfl (q_loadC rfl rfl (by exact .head _) rfl) ?_
  refine zS rfl (q_move rfl rfl) ?_
  refine zS rfl (q_add rfl rfl rfl (by intro hc; omega)) ?_
  refine zS rfl (q_fieldAddr rfl rfl) ?_
  refine zS rfl (q_loadC rfl rfl (by exact .head _) rfl) ?_
  refine zS rfl (q_len rfl (.k rfl (.nil)) (stA (by assumption))) ?_
  refine zS rfl (q_geq rfl rfl rfl) (zS rfl (q_or2 rfl rfl rfl) (sw_nil (post_then ?_)))
  refine cw_cond rfl (fun h => ?_) (fun h => ?_)
  · have e1 : lookC x.wl (x.at_ + d) = 0 := by unfold lookC; rw [if_pos (by simp at h; omega)]
    refine cw_seq (cw_region (zS rfl (q_assign rfl rfl) (sw_nil (post_then (cw_ret (post_then_r (post_ret1 rfl (resOk_tmp rfl) ?_)))))))
    exact fun w' hw => ⟨by rw [e1], (Cl.sel (by exact .nil _)) _ hw⟩
  · have h1 : 0 ≤ x.at_ + d ∧ x.at_ + d < x.wl.length := by simp at h; omega
    have e1 : lookC x.wl (x.at_ + d) = (nth x.wl (x.at_ + d).toNat).v := by unfold lookC; rw [if_neg (by omega)]
    refine cw_skip (post_then (cw_seq (cw_region (zS rfl (q_fieldAddr rfl rfl) ?_))))
    refine zS rfl (q_loadC rfl rfl (by exact .head _) rfl) ?_
    refine zS rfl (q_fieldAddr rfl rfl) ?_
    refine zS rfl (q_loadC rfl rfl (by exact .head _) rfl) ?_
    refine zS rfl (q_move rfl rfl) ?_
    refine zS rfl (q_add rfl rfl rfl (by intro hc; omega)) ?_
    refine zS rfl (q_index rfl rfl rfl (stA (by assumption)) (by intro hc; omega)) ?_
    refine zS rfl (q_loadF rfl rfl rfl (stA (by assumption)) (by intro hc; omega) rfl) ?_
    refine zS rfl (q_assign rfl rfl) (sw_nil (post_then (cw_ret (post_ret1 rfl (resOk_tmp rfl) ?_))))
    exact fun w' hw => ⟨by first | (rw [e1]; rfl) | rw [e1], (Cl.sel (by exact .nil _)) _ hw⟩
theorem holdsR_spec (sv : Value) (t : List Cond) (x : XR) (hx : 0 ≤ x.at_ ∧ x.at_ ≤ 1000000) (ht : ∀ c ∈ t, CondB c) (w : World) (hs : Stb w [] (RdL sv t)) (hw0 : Stb w [] (RdL x.w.v x.wl)) : Calls Tryz.prog 35 #[sv, val x] w fun e w' => e = .returned (.bool (holdsC x.wl x.at_ t)) ∧ Cl w [] [] w' := by
  have hL := rd_len hs.here
  refine calls_cw (vs := [_, _]) Tryz.func35 rfl Tryz.ntmps35 rfl (Cl.start0 w) (cw_seq (cw_region ?_))
  refine sw_x rfl rfl rfl (e_box rfl rfl rfl) (fun b3 => ?_)
  refine zS rfl (q_assign rfl rfl) (sw_nil (post_then (cw_seq (cw_seq (cw_region (zS rfl (q_assign rfl rfl) (sw_nil (post_then (cw_block ?_)))))))))
  refine cw_loop (S := Nat) (fun k => [(0, [], sv), (3, [], .pointer (some ⟨b3, 0, none⟩)), (5, [], .int .i64 k)]) (fun _ => Cl w [] [blk b3 (enc x) 58]) (fun k => k ≤ t.length ∧ ∀ j, j < k → decide (lookC x.wl (x.at_ + (nth t j).at_) = (nth t j).c) = true) (fun k => t.length - k) 0 ⟨by omega, fun j hj => by omega⟩ (by exact .cons rfl (.cons rfl (.cons rfl .nil))) (fun _ h => h) ?_
  rintro k ⟨hk, hbe⟩
  refine cw_seq (cw_seq (cw_region (zS rfl (q_move rfl rfl) (zS rfl (q_move rfl rfl) ?_))))
  refine zS rfl (q_len rfl (.k rfl (.nil)) (stA (by assumption))) ?_
  refine zS rfl (q_lss rfl rfl rfl) (sw_nil (post_then ?_))
  refine cw_cond rfl (fun h => ?_) (fun h => ?_)
  · have hk' : k < t.length := by simp at h; omega
    have hc : -1000 ≤ (nth t k).at_ ∧ (nth t k).at_ ≤ 1000 := ht _ (nth_mem hk')
    refine cw_skip (post_then (cw_seq (cw_block (cw_seq (cw_region_a (Cl w [] [blk b3 (enc x) 58]) [] mixed_Tryz ?_)))))
    refine zk 0 (Cl.sel (by exact .take 0 rfl (.nil _))) rfl (q_loadA rfl rfl (by exact .head _) rfl) ?_
    refine zp 1 rfl (q_move rfl rfl) ?_
    refine zp 2 rfl (q_move rfl rfl) ?_
    refine zk 3 (Cl.sel (by exact .take 0 rfl (.nil _))) rfl (q_indexN rfl rfl rfl (stA (by assumption)) (by intro hc; omega)) ?_
    refine zk 4 (Cl.sel (by exact .take 0 rfl (.nil _))) rfl (q_fieldEl rfl rfl (stA (by assumption)) (by intro hc; omega)) ?_
    refine zk 5 (Cl.sel (by exact .take 0 rfl (.nil _))) rfl (q_loadF rfl rfl rfl (stA (by assumption)) (by intro hc; omega) rfl) ?_
    refine zp 7 rfl (q_move rfl rfl) ?_
    refine zp 8 rfl (q_move rfl rfl) ?_
    refine zk 9 (Cl.sel (by exact .take 0 rfl (.nil _))) rfl (q_indexN rfl rfl rfl (stA (by assumption)) (by intro hc; omega)) ?_
    refine zk 10 (Cl.sel (by exact .take 0 rfl (.nil _))) rfl (q_fieldEl rfl rfl (stA (by assumption)) (by intro hc; omega)) ?_
    refine zk 11 (Cl.sel (by exact .take 0 rfl (.nil _))) rfl (q_loadF rfl rfl rfl (stA (by assumption)) (by intro hc; omega) rfl) ?_
    refine aw_q 6 (by kernel_rfl) rfl rfl rfl rfl (q_call (CanCall.mk Tryz.call78) rfl (.k rfl (.k rfl (.nil))) (fun _ w1 hw => callq hw (near_spec x (nth t k).at_ hx hc w1 (stb_arg hw hw0)))) (by intro hb; exact (Cl.sel (by exact .take 0 rfl (.nil _)))) ?_
    refine zp 12 rfl (q_neq rfl rfl rfl) ?_
    refine aw_end (by kernel_rfl) ?_
    refine post_then ?_
    refine cw_cond rfl (fun h2 => ?_) (fun h2 => ?_)
    · have e1 : holdsC x.wl x.at_ t = false := by unfold holdsC; exact all_no hk' (by simpa using h2)
      refine cw_seq (cw_region (zS rfl (q_assign rfl rfl) (sw_nil (post_then (cw_ret (post_blk_r (post_then_r (post_then_r (post_blk_r (post_then_r (post_ret1 rfl (resOk_tmp rfl) ?_)))))))))))
      exact fun w' hw => ⟨by rw [e1], (Cl.sel (by exact .nil _)) _ hw⟩
    · have e1 : decide (lookC x.wl (x.at_ + (nth t k).at_) = (nth t k).c) = true := by simpa using h2
      refine cw_skip (post_blk (post_then (cw_region (zS rfl (q_move rfl rfl) ?_))))
      refine zS rfl (q_add rfl rfl rfl (by intro hc; omega)) ?_
      refine zS rfl (q_assign rfl rfl) (sw_nil ?_)
      exact post_next (k + 1) (by exact .cons rfl (.cons rfl (.cons rfl .nil))) (fun _ h => h) ⟨by omega, fun j hj => by
        rcases Nat.lt_or_ge j k with h6 | h6
        · exact hbe j h6
        · have : j = k := by omega
          subst this; exact e1⟩ (by omega)
  · have hk' : k = t.length := by simp at h; omega
    subst hk'
    have e1 : holdsC x.wl x.at_ t = true := by unfold holdsC; exact all_yes hbe
    refine cw_exit (post_then_x (post_then_x (post_blk_eq (post_then (cw_seq (cw_region (zS rfl (q_assign rfl rfl) (sw_nil (post_then (cw_ret (post_ret1 rfl (resOk_tmp rfl) ?_)))))))))))
    exact fun w' hw => ⟨by rw [e1], (Cl.sel (by exact .nil _)) _ hw⟩
end Go.Proofs.YtkmbliojafefdaaGreatDoor

set_option autoImplicit false
set_option maxRecDepth 100000
namespace Go.Proofs.YtkmbliojafefdaaGreatDoor
open Go.Sx
open Enc (enc val)
def XR.x (e : XR) : XL := ⟨e.w, e.at_, e.p, e.wl, e.pl⟩
def RxIn (e : XR) (w : World) : Prop := RdL e.w.v e.wl w ∧ RdL e.p.v e.pl w
structure RxOk (e : XR) : Prop where
  small : e.pl.length ≤ 1000
  at0 : 0 ≤ e.at_ ∧ e.at_ ≤ 1000
  in_ : e.at_ < e.wl.length
end Go.Proofs.YtkmbliojafefdaaGreatDoor

set_option autoImplicit false
set_option maxRecDepth 100000
namespace Go.Proofs.YtkmbliojafefdaaGreatDoor
open Go.Sx
open Enc (enc val)
end Go.Proofs.YtkmbliojafefdaaGreatDoor

set_option autoImplicit false
set_option maxRecDepth 100000
namespace Go.Proofs.YtkmbliojafefdaaGreatDoor
open Go.Sx
open Enc (enc val)
theorem candB_in {e : XL} {a : Int} {t : TT} (h1 : t.a1 = a) (h2 : t.c1 = lookC e.wl (e.at_ + a)) (h3 : t.a2 ≠ 0) (h4 : t.c2 = lookC e.wl (e.at_ + t.a2)) : ∀ {n : Nat} {b : Int}, b ≤ t.a2 → t.a2 < b + n → t ∈ candB e a b n
  | 0, b, g1, g2 => by omega
  | n + 1, b, g1, g2 => by
    unfold candB
    by_cases hb : b = 0
    · rw [if_pos hb]
      exact candB_in h1 h2 h3 h4 (by omega) (by omega)
    · rw [if_neg hb]
      by_cases e1 : t.a2 = b
      · obtain ⟨a1, c1, a2, c2⟩ := t
        simp only at h1 h2 h4 e1
        subst h1; subst e1
        rw [h2, h4]; exact .head _
      · exact .tail _ (candB_in h1 h2 h3 h4 (by omega) (by omega))
theorem candL_in {e : XL} {r : Int} {t : TT} (h : CandOk e r t) : ∀ {n : Nat} {a : Int}, a + n = r + 1 → a ≤ t.a1 → t ∈ candL e r a n
  | 0, a, g1, g2 => by have := h.b1; omega
  | n + 1, a, g1, g2 => by
    have hb := h.b1
    unfold candL
    by_cases ha : a = 0
    · rw [if_pos ha]
      exact candL_in h (by omega) (by omega)
    · rw [if_neg ha]
      by_cases e1 : t.a1 = a
      · rcases h.sh with ⟨u1, u2⟩ | ⟨u1, u2, u3, u4⟩
        · have hc := h.c1
          obtain ⟨a1, c1, a2, c2⟩ := t
          simp only at e1 u1 u2 hc
          subst e1; subst u1; subst u2
          rw [hc]; exact .head _
        · exact .tail _ (List.mem_append_left _ (candB_in e1 (by rw [h.c1, e1]) u1 u4 (by omega) (by omega)))
      · exact .tail _ (List.mem_append_right _ (candL_in h (by omega) (by omega)))
theorem cands_in {e : XL} {r : Int} {t : TT} (hr : 1 ≤ r) (h : CandOk e r t) : t ∈ cands e r := candL_in h (by omega) h.b1.1
theorem held_iff {e e' : XL} {r : Int} {t : TT} (hr : 1 ≤ r) (h : t ∈ cands e r) : t ∈ cands e' r ↔ holdsC e'.wl e'.at_ t.list = true := by
  have hk := cands_ok hr h
  refine ⟨fun h' => (cands_ok hr h').holds, fun h' => cands_in hr ?_⟩
  unfold holdsC TT.list at h'
  rcases hk.sh with ⟨u1, u2⟩ | ⟨u1, u2, u3, u4⟩
  · rw [if_pos u1] at h'
    simp at h'
    exact ⟨hk.b1, h'.symm, .inl ⟨u1, u2⟩⟩
  · rw [if_neg u1] at h'
    simp at h'
    exact ⟨hk.b1, h'.1.symm, .inr ⟨u1, u2, u3, h'.2.symm⟩⟩
def holdL (l : List XL) (t : TT) : List XL := l.filter fun e => holdsC e.wl e.at_ t.list
def tlyR (l : List XL) (t : TT) : Tly := ⟨t, (mostC (holdL l t)).s, (holdL l t).length, (mostC (holdL l t)).m, (mostC (holdL l t)).b⟩
theorem tlyR_eq {l : List XL} {r : Int} {e : XL} {t : TT} (hr : 1 ≤ r) (h : t ∈ cands e r) : tlyOf l r t = tlyR l t := by
  have : heldC l r t = holdL l t := by
    unfold heldC holdL
    apply List.filter_congr
    intro e' _
    have := held_iff (e' := e') hr h
    by_cases h2 : t ∈ cands e' r
    · simp [h2, this.1 h2]
    · have h3 : holdsC e'.wl e'.at_ t.list = false := by
        cases h4 : holdsC e'.wl e'.at_ t.list with
        | false => rfl
        | true => exact absurd (this.2 h4) h2
      simp [h2, h3]
  unfold tlyOf tlyR
  rw [this]
end Go.Proofs.YtkmbliojafefdaaGreatDoor

set_option autoImplicit false
set_option maxRecDepth 100000
set_option maxHeartbeats 1000000
namespace Go.Proofs.YtkmbliojafefdaaGreatDoor
open Go.Sx
open Enc (enc val)
structure ChSt (S : Option Tly) (q : Chc) (n m : Int) : Prop where
  nn : 0 ≤ n ∧ n ≤ 1000000
  mm : 0 ≤ m ∧ m ≤ 1000000
  bd : ∀ c ∈ q.tl, CondB c
  some : ∀ v, S = some v → q.tl = v.t.list ∧ q.pl = v.pl ∧ n = v.n ∧ m = v.m
end Go.Proofs.YtkmbliojafefdaaGreatDoor

set_option autoImplicit false
set_option maxRecDepth 100000
set_option maxHeartbeats 1000000
namespace Go.Proofs.YtkmbliojafefdaaGreatDoor
open Go.Sx
open Enc (enc val)
end Go.Proofs.YtkmbliojafefdaaGreatDoor

set_option autoImplicit false
set_option maxRecDepth 100000
set_option maxHeartbeats 1000000
namespace Go.Proofs.YtkmbliojafefdaaGreatDoor
open Go.Sx
open Enc (enc val)
def evR (l : List XR) : List (Rn × XP) := l.map fun e => (nth e.wl e.at_.toNat, plX e.x)
theorem own_xs (l : List XR) (c : Rn) : ((l.filter fun e => decide (nth e.wl e.at_.toNat = c)).map XR.x).map plX = xsC (evR l) c := by
  unfold xsC evR
  rw [List.filter_map, List.map_map, List.map_map]
  rfl
theorem evR_len (l : List XR) : (evR l).length = l.length := by simp [evR]
theorem rn_eq {a b : Rn} : a = b ↔ a.v = b.v := ⟨fun h => by rw [h], fun h => by cases a; cases b; simp at h; rw [h]⟩
end Go.Proofs.YtkmbliojafefdaaGreatDoor

set_option autoImplicit false
set_option maxRecDepth 100000
namespace Go.Proofs.YtkmbliojafefdaaGreatDoor
open Go.Sx
open Enc (enc val)
def heldT (l : List XL) (t : List Cond) : List XL := l.filter fun e => holdsC e.wl e.at_ t
def nextT (l : List XL) (t : List Cond) : List XL := l.filter fun e => !holdsC e.wl e.at_ t
structure SupR (o : Lrn) (lf : List XL) (u : List Cond × List ByteArray) : Prop where
  least : o.least ≤ ((heldT lf u.1).length : Int)
  some : 1 ≤ cnt (heldT lf u.1) u.2
  most : ∀ e ∈ heldT lf u.1, cnt (heldT lf u.1) e.pl ≤ cnt (heldT lf u.1) u.2
  tl : ∀ c ∈ u.1, -1000 ≤ c.at_ ∧ c.at_ ≤ 1000
def Sup (o : Lrn) : List XL → List (List Cond × List ByteArray) → Prop
  | _, [] => True
  | lf, u :: R => SupR o lf u ∧ Sup o (nextT lf u.1) R
theorem cnt_pos {l : List XL} {e : XL} (h : e ∈ l) : 1 ≤ cnt l e.pl := by
  unfold cnt
  exact List.countP_pos_iff.2 ⟨e, h, by simp⟩
theorem most_max {l : List XL} (h0 : l ≠ []) : (mostC l).m = cnt l (mostC l).b ∧ ∀ e ∈ l, (cnt l e.pl : Int) ≤ (mostC l).m := by
  have key : ∀ (q P : List XL) (s : MS), (∀ e ∈ q, e ∈ l) → (∀ e ∈ P, (cnt l e.pl : Int) ≤ s.m) → (P = [] ∧ s.m = 0 ∨ s.m = cnt l s.b) → (∀ e ∈ P ++ q, (cnt l e.pl : Int) ≤ (q.foldl (mostStep l) s).m) ∧ (P ++ q = [] ∧ (q.foldl (mostStep l) s).m = 0 ∨ (q.foldl (mostStep l) s).m = cnt l (q.foldl (mostStep l) s).b) := by
    intro q
    induction q with
    | nil => intro P s _ h1 h2; rw [List.append_nil]; exact ⟨h1, h2⟩
    | cons x q ih =>
      intro P s hq h1 h2
      rw [List.foldl_cons]
      have e1 : P ++ x :: q = (P ++ [x]) ++ q := by simp
      rw [e1]
      have hx := cnt_pos (hq x (.head _))
      unfold mostStep
      split
      · rename_i hc
        refine ih (P ++ [x]) _ (fun e he => hq e (.tail _ he)) (fun e he => ?_) (.inr rfl)
        dsimp only
        rcases List.mem_append.1 he with he | he
        · have := h1 e he; omega
        · simp at he; subst he; omega
      · rename_i hc
        have h3 : (cnt l x.pl : Int) ≤ s.m := by omega
        refine ih (P ++ [x]) s (fun e he => hq e (.tail _ he)) (fun e he => ?_) (.inr ?_)
        · rcases List.mem_append.1 he with he | he
          · exact h1 e he
          · simp at he; subst he; exact h3
        · rcases h2 with ⟨_, h2⟩ | h2
          · omega
          · exact h2
  obtain ⟨h1, h2⟩ := key l [] ⟨⟨none, 0, 0⟩, [], 0⟩ (fun e h => h) (fun e he => by simp at he) (.inl ⟨rfl, rfl⟩)
  rw [List.nil_append] at h1 h2
  refine ⟨?_, h1⟩
  rcases h2 with ⟨h2, _⟩ | h2
  · exact absurd h2 h0
  · exact h2
theorem best_sup {lf : List XL} {o : Lrn} {u : Tly} (ho : LrnOk o) (h : bestC lf o.reach o.least = some u) : SupR o lf (u.t.list, u.pl) := by
  obtain ⟨e, he, t, ht, rfl, hn⟩ := best_is h
  rw [tlyR_eq ho.reach.1 ht] at hn ⊢
  have hl := ho.least
  have hb := ((cands_ok ho.reach.1 ht).bd ho.reach)
  have h1 : o.least ≤ ((heldT lf t.list).length : Int) := hn
  have h2 : heldT lf t.list ≠ [] := fun g => by rw [g] at h1; simp at h1; omega
  obtain ⟨h3, h4⟩ := most_max h2
  have h5 : (tlyR lf t).pl = (mostC (heldT lf t.list)).b := rfl
  obtain ⟨x, hx⟩ := List.exists_mem_of_ne_nil _ h2
  refine ⟨h1, ?_, fun e he => ?_, list_bd hb⟩
  · show 1 ≤ cnt (heldT lf t.list) (tlyR lf t).pl
    have := cnt_pos hx
    have := h4 x hx
    rw [h5]; omega
  · show cnt (heldT lf t.list) e.pl ≤ cnt (heldT lf t.list) (tlyR lf t).pl
    have := h4 e he
    rw [h5]; omega
theorem listF_sup {o : Lrn} (ho : LrnOk o) : ∀ (n : Nat) (lf : List XL) (out : List (List Cond × List ByteArray)), (out.length : Int) ≤ o.most → ∃ R, (listF o n lf out).2 = out ++ R ∧ Sup o lf R ∧ ((out ++ R).length : Int) ≤ o.most
  | 0, lf, out, h => ⟨[], by rw [List.append_nil]; rfl, trivial, by simpa using h⟩
  | n + 1, lf, out, h => by
    unfold listF
    split
    · rename_i hc
      split
      · exact ⟨[], by simp, trivial, by simpa using h⟩
      · cases hb : bestC lf o.reach o.least with
        | none => exact ⟨[], by simp, trivial, by simpa using h⟩
        | some u =>
          obtain ⟨R, h1, h2, h3⟩ := listF_sup ho n (nextT lf u.t.list) (out ++ [(u.t.list, u.pl)]) (by simp only [List.length_append, List.length_cons, List.length_nil]; omega)
          refine ⟨(u.t.list, u.pl) :: R, ?_, ⟨best_sup ho hb, h2⟩, by simpa using h3⟩
          have : out ++ (u.t.list, u.pl) :: R = out ++ [(u.t.list, u.pl)] ++ R := by simp
          rw [this]
          exact h1
    · exact ⟨[], by simp, trivial, by simpa using h⟩
theorem listC_sup {o : Lrn} (ho : LrnOk o) (l : List XL) : ∃ R b, listC l o = R ++ [([], b)] ∧ Sup o l R ∧ (R.length : Int) ≤ o.most := by
  have hm := ho.most
  obtain ⟨R, h1, h2, h3⟩ := listF_sup ho (l.length + 1) l [] (by simp; omega)
  rw [List.nil_append] at h1 h3
  refine ⟨R, (mostC (if (listF o (l.length + 1) l []).1.length = 0 then l else (listF o (l.length + 1) l []).1)).b, ?_, h2, h3⟩
  unfold listC lastC
  rw [h1]
theorem xs_sum (A : List Rn) (hA : A.Nodup) : ∀ (q : List (Rn × XP)), (∀ x ∈ q, x.1 ∈ A) → (A.map fun c => (xsC q c).length).sum = q.length := by
  intro q
  induction q with
  | nil =>
    intro _
    have : (A.map fun c => (xsC ([] : List (Rn × XP)) c).length) = A.map fun _ => 0 := List.map_congr_left fun c _ => by simp [xsC]
    rw [this]
    clear hA this
    induction A with
    | nil => rfl
    | cons a A ih => simpa using ih
  | cons x q ih =>
    intro h
    have ih := ih fun y hy => h y (.tail _ hy)
    have hx := h x (.head _)
    have e1 : ∀ c, (xsC (x :: q) c).length = (if x.1 = c then 1 else 0) + (xsC q c).length := fun c => by
      unfold xsC
      by_cases g : x.1 = c <;> simp [g]; omega
    have e2 : ∀ B : List Rn, (B.map fun c => (xsC (x :: q) c).length).sum = B.count x.1 + (B.map fun c => (xsC q c).length).sum := by
      intro B
      induction B with
      | nil => simp
      | cons b B ihB =>
        rw [List.map_cons, List.sum_cons, ihB, e1, List.map_cons, List.sum_cons, List.count_cons]
        by_cases g : x.1 = b
        · subst g; simp; omega
        · have : ¬ b = x.1 := fun e => g e.symm
          simp [g, this]; omega
    rw [e2, ih, hA.count, if_pos hx, List.length_cons]
    omega
theorem abc_sum (q : List (Rn × XP)) : ((sortR (abcC q)).map fun c => (xsC q c).length).sum = q.length := by
  refine xs_sum _ ((sortR_perm _).nodup_iff.2 (abc_nodup q)) q fun x hx => ?_
  rw [(sortR_perm _).mem_iff, abc_mem]
  intro h
  have : x.2 ∈ xsC q x.1 := by
    unfold xsC
    exact List.mem_map.2 ⟨x, List.mem_filter.2 ⟨hx, by simp⟩, rfl⟩
  rw [h] at this
  simp at this
end Go.Proofs.YtkmbliojafefdaaGreatDoor

set_option autoImplicit false
set_option maxRecDepth 100000
namespace Go.Proofs.YtkmbliojafefdaaGreatDoor
open Go.Sx
open Enc (enc val)
structure CdAt (t : List Cond) (m : Nat) : Prop where
  ok : condOk (nth t m) = true
  lt : 0 < m → (nth t (m - 1)).at_ < (nth t m).at_
structure ChAt (rl : List Chc) (j : Nat) : Prop where
  ph : phonesOk (nth rl j).pl 3 = true
  two : (nth rl j).tl.length ≤ 2
  emp : (nth rl j).tl.length = 0 ↔ j + 1 = rl.length
  cs : ∀ m, m < (nth rl j).tl.length → CdAt (nth rl j).tl m
structure LeAt (bl : List Let) (k : Nat) : Prop where
  c : possC (nth bl k).c = true
  lt : 0 < k → (nth bl (k - 1)).c < (nth bl k).c
  l1 : 1 ≤ (nth bl k).rl.length
  l2 : (nth bl k).rl.length ≤ 1000
  rs : ∀ j, j < (nth bl k).rl.length → ChAt (nth bl k).rl j
end Go.Proofs.YtkmbliojafefdaaGreatDoor

set_option autoImplicit false
set_option maxRecDepth 100000
namespace Go.Proofs.YtkmbliojafefdaaGreatDoor
open Go.Sx
open Enc (enc val)
structure EvOk (x : Rn × XP) : Prop where
  c : possC x.1.v = true
  ws : ∀ c ∈ x.2.1, possC c.v = true
  ph : phonesOk x.2.2.2 3 = true
structure XlOk (e : XL) : Prop where
  ws : ∀ c ∈ e.wl, possC c.v = true
  ph : phonesOk e.pl 3 = true
structure RuOk (u : List Cond × List ByteArray) : Prop where
  ts : testsOk u.1 = true
  l1 : 1 ≤ u.1.length
  l2 : u.1.length ≤ 2
  ph : phonesOk u.2 3 = true
def teachP (q : List (Rn × XP)) (o : Lrn) : List (Int × List (List Cond × List ByteArray)) := (sortR (abcC q)).map fun c => (c.v, listC ((xsC q c).map toXL) o)
def evU (p : List Pr) (u : Sp) : List (Rn × XP) := if alOk p u.word u.pl then evOf (u.word, alP p u.word u.pl) else []
theorem ent_ev (p : List Pr) (l : List Sp) : (entC p l).flatMap evOf = l.flatMap (evU p) := by
  unfold entC
  induction l with
  | nil => rfl
  | cons u l ih =>
    rw [List.flatMap_cons, List.filter_cons]
    unfold evU at *
    by_cases h : alOk p u.word u.pl = true
    · rw [if_pos h, if_pos h, List.map_cons, List.flatMap_cons, ih]
    · rw [if_neg h, if_neg h, ih]; rfl
theorem evOf_len2 (u : ByteArray × List (List ByteArray)) : (evOf u).length = (runes u.1).length := by unfold evOf; simp
theorem evU_len (p : List Pr) (u : Sp) : (evU p u).length ≤ (runes u.word).length := by
  unfold evU
  split
  · rw [evOf_len2]; exact Nat.le_refl _
  · simp
theorem evs_len {p : List Pr} {l : List Sp} {n : Nat} (h : ∀ u ∈ l, (runes u.word).length ≤ n) : ((entC p l).flatMap evOf).length ≤ l.length * n := by
  rw [ent_ev]
  induction l with
  | nil => simp
  | cons u l ih =>
    rw [List.flatMap_cons, List.length_append, List.length_cons, Nat.add_mul]
    have h1 := h u (.head _)
    have h2 := evU_len p u
    have h3 := ih fun u hu => h u (.tail _ hu)
    omega
theorem lexE_zero2 {l : List Sp} (h : lexE l = 0) : l.length ≤ 3000 ∧ ∀ u ∈ l, wordOk u.word = true ∧ phonesOk u.pl 120 = true := by
  unfold lexE at h
  split at h
  · cases h
  · split at h
    · rename_i h1 h2
      simp only [Bool.and_eq_true, List.all_eq_true] at h2
      refine ⟨by omega, fun u hu => ?_⟩
      have := h2.2 u hu
      unfold spOk at this
      simpa using this
    · cases h
end Go.Proofs.YtkmbliojafefdaaGreatDoor

set_option autoImplicit false
set_option maxRecDepth 100000
namespace Go.Proofs.YtkmbliojafefdaaGreatDoor
open Go.Sx
open Enc (enc val)
theorem offers_snoc (p : List Pr) (x : Pr) (c : Int) : offers (p ++ [x]) c = offers p c ++ if x.c = c then [x] else [] := by
  unfold offers
  rw [List.filter_append]
  congr 1
  by_cases h : x.c = c <;> simp [h]
theorem offers_le (p : List Pr) (c : Int) : (offers p c).length ≤ p.length := List.length_filter_le _ _
theorem pieces_spec (sv : Value) (p : List Pr) (c : Int) (hl : p.length ≤ 100000) (w : World) (hs : Stb w [] (RdL sv p)) : Calls Tryz.prog 67 #[sv, .int .i32 c] w fun e w' => ∃ r : SlV, e = .returned r.v ∧ True ∧ Cl w [] [ownL 68 r.v (offers p c)] w' := by
  have hL := rd_len hs.here
  refine calls_cw (vs := [_, _]) Tryz.func67 rfl Tryz.ntmps67 rfl (Cl.start0 w) (cw_seq (cw_region (zS rfl (q_assign rfl rfl) (sw_nil (post_then (cw_seq (cw_region (zS rfl (q_assign rfl rfl) (sw_nil (post_then (cw_seq (cw_seq (cw_region (zS rfl (q_assign rfl rfl) (sw_nil (post_then (cw_block ?_)))))))))))))))))
  refine cw_loop (S := Nat × SlV) (fun y => [(0, [], sv), (1, [], .int .i32 c), (5, [], y.2.v), (6, [], .int .i64 y.1)]) (fun y => Cl w [] [ownL 68 y.2.v (offers (p.take y.1) c)]) (fun y => y.1 ≤ p.length) (fun y => p.length - y.1) (0, ⟨none, 0, 0⟩) (by simp) (by exact .cons rfl (.cons rfl (.cons rfl (.cons rfl .nil)))) (fun w' h => Cl.addNil 68 ((Cl.sel (by exact .nil _)) _ h)) ?_
  rintro ⟨k, so⟩ hk
  dsimp only at hk ⊢
  have hob := offers_le (p.take k) c
  rw [List.length_take] at hob
  refine cw_seq (cw_seq (cw_region (zS rfl (q_move rfl rfl) (zS rfl (q_move rfl rfl) ?_))))
  refine zS rfl (q_len rfl (.k rfl (.nil)) (stA (by assumption))) ?_
  refine zS rfl (q_lss rfl rfl rfl) (sw_nil (post_then ?_))
  refine cw_cond rfl (fun h => ?_) (fun h => ?_)
  · have hk' : k < p.length := by simp at h; omega
    have hst : offers (p.take (k + 1)) c = offers (p.take k) c ++ if (nth p k).c = c then [nth p k] else [] := by rw [List.take_succ_eq_append_getElem hk', ← nth_get hk', offers_snoc]
    refine cw_skip (post_then (cw_seq (cw_block (cw_seq (cw_region (zS rfl (q_move rfl rfl) (zS rfl (q_move rfl rfl) ?_)))))))
    refine zS rfl (q_indexN rfl rfl rfl (stA (by assumption)) (by intro hc; omega)) ?_
    refine zS rfl (q_fieldEl rfl rfl (stA (by assumption)) (by intro hc; omega)) ?_
    refine zS rfl (q_loadF rfl rfl rfl (stA (by assumption)) (by intro hc; omega) rfl) ?_
    refine zS rfl (q_move rfl rfl) (zS rfl (q_eql rfl rfl rfl) (sw_nil (post_then ?_)))
    refine cw_cond rfl (fun h2 => ?_) (fun h2 => ?_)
    · have h3 : (nth p k).c = c := by simpa using h2
      rw [if_pos h3] at hst
      refine cw_region (zS rfl (q_move rfl rfl) (zS rfl (q_move rfl rfl) (zS rfl (q_move rfl rfl) ?_)))
      refine zS rfl (q_indexN rfl rfl rfl (stA (by assumption)) (by intro hc; omega)) ?_
      refine zS rfl (q_loadEl rfl rfl rfl (stA (by assumption)) (by intro hc; omega)) ?_
      refine sw_x rfl rfl rfl (e_buildL (α := Pr) (l := [nth p k]) rfl (.k rfl (.nil)) rfl rfl rfl rfl) (fun s25 => ?_)
      refine sw_x rfl rfl rfl (e_append (i := 1) rfl (.k rfl (.k rfl (.nil))) rfl rfl (rdO (by exact .head _)) (by first | omega | (simp only [List.length_set, List.length_append, List.length_cons, List.length_nil, List.length_replicate, List.length_take, List.length_drop, List.length_map]; omega)) rfl) (fun s26 => ?_)
      refine zS rfl (q_assign rfl rfl) (sw_nil (post_blk (post_then (cw_region (zS rfl (q_move rfl rfl) ?_)))))
      refine zS rfl (q_add rfl rfl rfl (by intro hc; omega)) ?_
      refine zS rfl (q_assign rfl rfl) (sw_nil ?_)
      exact post_next (k + 1, s26) (by exact .cons rfl (.cons rfl (.cons rfl (.cons rfl .nil)))) (fun w' h => by simp only; rw [hst]; exact (Cl.sel (by exact .take 1 rfl (.nil _))) _ h) (by simp only; omega) (by simp only; omega)
    · have h3 : ¬ (nth p k).c = c := by simpa using h2
      rw [if_neg h3, List.append_nil] at hst
      refine cw_skip (post_blk (post_then (cw_region (zS rfl (q_move rfl rfl) ?_))))
      refine zS rfl (q_add rfl rfl rfl (by intro hc; omega)) ?_
      refine zS rfl (q_assign rfl rfl) (sw_nil ?_)
      exact post_next (k + 1, so) (by exact .cons rfl (.cons rfl (.cons rfl (.cons rfl .nil)))) (fun w' h => by simp only; rw [hst]; exact (Cl.sel (by exact .take 0 rfl (.nil _))) _ h) (by simp only; omega) (by simp only; omega)
  · have hk' : k = p.length := by simp at h; omega
    subst hk'
    rw [List.take_length]
    refine cw_exit (post_then_x (post_then_x (post_blk_eq (post_then (cw_seq (cw_region (zS rfl (q_move rfl rfl) (zS rfl (q_assign rfl rfl) (sw_nil (post_then (cw_ret (post_ret1 rfl (resOk_tmp rfl) ?_))))))))))))
    exact fun w' hw => ⟨so, rfl, trivial, hw⟩
theorem begins_spec (sa : SlV) (sb : Value) (a b : List ByteArray) (w : World) (ha : Stb w [] (RdL sa.v a)) (hb : Stb w [] (RdL sb b)) : Calls Tryz.prog 68 #[sa.v, sb] w fun e w' => e = .returned (.bool (pre b a)) ∧ Cl w [] [] w' := by
  have z1 := rd_len ha.here
  have z2 := rd_len hb.here
  have f2 : b.length ≤ a.length → Stb w [] (RdL (sa.sub 1 0 (b.length : Int).toNat).v ((a.take b.length).drop 0)) := fun h => stb_sub ha (Nat.zero_le _) h
  refine calls_cw (vs := [_, _]) Tryz.func68 rfl Tryz.ntmps68 rfl (Cl.start0 w) (cw_seq (cw_region (zS rfl (q_assign rfl rfl) (sw_nil (post_then (cw_seq (cw_region (zS rfl (q_move rfl rfl) ?_))))))))
  refine zS rfl (q_len rfl (.k rfl (.nil)) (stA (by assumption))) ?_
  refine zS rfl (q_move rfl rfl) ?_
  refine zS rfl (q_len rfl (.k rfl (.nil)) (stA (by assumption))) ?_
  refine zS rfl (q_geq rfl rfl rfl) (zS rfl (q_move rfl rfl) (zS rfl (q_move rfl rfl) (zS rfl (q_move rfl rfl) ?_)))
  refine zS rfl (q_len rfl (.k rfl (.nil)) (stA (by assumption))) ?_
  refine zS rfl (q_sliceH rfl rfl rfl (stA (by assumption)) (fun hcc => by simp [AllT] at hcc; omega)) ?_
  refine zS rfl (q_move rfl rfl) ?_
  refine sw_step rfl rfl rfl (q_call (CanCall.mk Tryz.call38) rfl (.k rfl (.k rfl (.nil))) (fun hcc w1 hw => callq hw (order_spec _ _ ((a.take b.length).drop 0) b w1 (stb_arg hw (f2 (by simp [AllT] at hcc; omega))) (stb_arg hw hb)))) ?_
  refine zS rfl (q_eql rfl rfl rfl) (zS rfl (q_and2 rfl rfl rfl) (zS rfl (q_assign rfl rfl) (sw_nil (post_then (cw_ret (post_ret1 rfl (resOk_tmp rfl) ?_))))))
  refine fun w' hw => ⟨?_, (Cl.sel (by exact .nil _)) _ hw⟩
  congr 2
  unfold pre
  rw [List.drop_zero, show decide ((b.length : Int) ≤ (a.length : Int)) = decide (b.length ≤ a.length) from decide_eq_decide.2 ⟨fun h => by omega, fun h => by omega⟩]
  congr 1
  rw [Bool.eq_iff_iff]; simp [ordL_eq]
theorem begins_at (sl : SlV) (sb : Value) (l x : List ByteArray) (k : Nat) (hk : k ≤ l.length) (w : World) (hl : Stb w [] (RdL sl.v l)) (hx : Stb w [] (RdL sb x)) : Calls Tryz.prog 68 #[(sl.sub 1 k l.length).v, sb] w fun e w' => e = .returned (.bool (decide (k + x.length ≤ l.length) && decide ((l.take (k + x.length)).drop k = x))) ∧ Cl w [] [] w' := by
  have h1 : Stb w [] (RdL (sl.sub 1 k l.length).v (l.drop k)) := by
    have := stb_sub hl hk (Nat.le_refl l.length)
    rwa [List.take_length] at this
  rw [← pre_at hk]
  exact begins_spec _ sb _ _ w h1 hx
end Go.Proofs.YtkmbliojafefdaaGreatDoor

set_option autoImplicit false
set_option maxRecDepth 100000
namespace Go.Proofs.YtkmbliojafefdaaGreatDoor
open Go.Sx
open Enc (enc val)
theorem nth_out {l : List Int} {i : Nat} (h : l.length ≤ i) : nth l i = 0 := by
  simp only [nth, List.getD, List.getElem?_eq_none h]; rfl
theorem sets_same {l : List Int} {i : Nat} {v : Int} (h : nth l i = v) (hi : i < l.length) : l.set i v = l := by
  rw [← h, nth_get hi]; exact List.set_getElem_self hi
theorem perm_rot {α : Type} {a b : α} {R : List α} : (a :: b :: R).Perm (b :: (R ++ [a])) := (List.Perm.swap b a R).trans (.cons b (List.perm_append_comm (l₁ := [a]) (l₂ := R)))
theorem perm_in1 {α : Type} {a b : α} {R T : List α} (h : (a :: R).Perm T) : (a :: b :: R).Perm (b :: T) := (List.Perm.swap b a R).trans (.cons b h)
theorem perm_in2 {α : Type} {a b c : α} {R T : List α} (h : (a :: b :: R).Perm T) : (a :: b :: c :: R).Perm (c :: T) :=
  ((List.Perm.swap c b R).cons a).trans ((List.Perm.swap c a (b :: R)).trans (.cons c h))
theorem step_no {f : Pr → Int} {b : Int} {x : Pr} (h : ¬ (0 ≤ f x ∧ (b < 0 ∨ f x < b))) : stepC f b x = b := by unfold stepC; rw [if_neg h]
theorem step_yes {f : Pr → Int} {b : Int} {x : Pr} (h : 0 ≤ f x ∧ (b < 0 ∨ f x < b)) : stepC f b x = f x := by unfold stepC; rw [if_pos h]
set_option maxHeartbeats 4000000 in
theorem refAlign_spec2 (sp sw sl : SlV) (p : List Pr) (ws : List Rn) (l : List ByteArray) (hn : ws.length ≤ 80) (hm : l.length ≤ 800) (hpn : p.length ≤ 100000) (hcost : CostOk p) (hpl : ∀ x ∈ p, x.pl.length ≤ 1000) (w : World) (hp : Stb w [] (RdL sp.v p)) (hpi : Stb w [] fun w' => ∀ u ∈ p, PrIn u w') (hw0 : Stb w [] (RdL sw.v ws)) (hl : Stb w [] (RdL sl.v l)) :
    Calls Tryz.prog 24 #[sp.v, sw.v, sl.v] w fun e w' => ∃ r : SlV × List SlV, e = .returned (.tuple #[r.1.v, .int .i64 (leastC p ws l)]) ∧ True ∧ Cl w [] [frz (fun w => RdL r.1.v r.2 w ∧ RdR r.2 (if 0 ≤ leastC p ws l then pathC p ws l else []) w)] w' := by
  have hLp := rd_len hp.here
  have hLw := rd_len hw0.here
  have hLl := rd_len hl.here
  obtain ⟨n, hne⟩ : ∃ n, ws.length = n := ⟨_, rfl⟩
  obtain ⟨m, hme⟩ : ∃ m, l.length = m := ⟨_, rfl⟩
  rw [hne] at hn
  rw [hme] at hm
  obtain ⟨D, hD⟩ : ∃ D : Nat → Nat → Int, ∀ i k, D i k = leastC p (ws.drop i) (l.drop k) := ⟨_, fun _ _ => rfl⟩
  have hDb : ∀ i k, -1 ≤ D i k ∧ D i k ≤ 80000 := fun i k => by
    have := least_bd hcost (ws.drop i) (l.drop k)
    rw [hD]
    rw [List.length_drop, hne] at this
    omega
  have hDn : ∀ k, k ≤ m → D n k = if k = m then 0 else -1 := fun k hk => by
    rw [hD, ← hne, List.drop_length]
    unfold leastC
    by_cases e : k = m
    · rw [if_pos e, if_pos (by rw [e, ← hme, List.drop_length])]
    · rw [if_neg e, if_neg (by rw [List.drop_eq_nil_iff]; omega)]
  have hDs : ∀ i k, i < n → D i k = (offers p (nth ws i).v).foldl (stepC (tryC (leastC p (ws.drop (i + 1))) (l.drop k))) (-1) := fun i k hi => by rw [hD, least_at (by omega)]
  have hTr : ∀ i k x, k ≤ m → tryC (leastC p (ws.drop (i + 1))) (l.drop k) x = if (decide (k + x.pl.length ≤ m) && decide ((l.take (k + x.pl.length)).drop k = x.pl)) = true ∧ 0 ≤ D (i + 1) (k + x.pl.length) then x.cost + D (i + 1) (k + x.pl.length) else -1 := fun i k x hk => by
    unfold tryC
    rw [pre_at (by omega), List.drop_drop, hme, hD]
  have hbg : ∀ (k : Nat) (x : Pr) (w1 : World), k ≤ m → Stb w1 [] (RdL sl.v l) → Stb w1 [] (RdL x.p.v x.pl) → Calls Tryz.prog 68 #[(sl.sub 1 k m).v, x.p.v] w1 fun e w' => e = .returned (.bool (decide (k + x.pl.length ≤ m) && decide ((l.take (k + x.pl.length)).drop k = x.pl))) ∧ Cl w1 [] [] w' := fun k x w1 hk h1 h2 => by
    subst hme
    exact begins_at sl _ l x.pl k hk w1 h1 h2
  refine calls_cw (vs := [_, _, _]) Tryz.func24 rfl Tryz.ntmps24 rfl (Cl.start0 w) (cw_seq (cw_region (zS rfl (q_assign rfl rfl) (zS rfl (q_assign rfl rfl) (sw_nil (post_then (cw_seq (cw_region (zS rfl (q_move rfl rfl) ?_)))))))))
  refine zS rfl (q_len rfl (.k rfl (.nil)) (stA (by assumption))) ?_
  refine zS rfl (q_add rfl rfl rfl (by intro hc; omega)) ?_
  rw [hne]
  refine sw_x rfl rfl rfl (e_make (α := SlV) (zero := ⟨none, 0, 0⟩) rfl rfl rfl rfl rfl (by omega) (by omega) (by decide)) (fun s25 => ?_)
  have e0 : ((n : Int) + 1).toNat = n + 1 := by omega
  rw [e0]
  refine zS rfl (q_assign rfl rfl) (sw_nil (post_then (cw_seq (cw_seq (cw_region (zS rfl (q_assign rfl rfl) (sw_nil (post_then (cw_block ?_)))))))))
  refine cw_loop (S := List SlV) (fun V => [(0, [], sp.v), (1, [], sw.v), (2, [], sl.v), (8, [], s25.v), (9, [], .int .i64 V.length)]) (fun V => Cl w [] (ownL 116 s25.v (V ++ List.replicate (n + 1 - V.length) ⟨none, 0, 0⟩) :: rowsF 3 V (fun _ => List.replicate (m + 1) (-1 : Int)))) (fun V => V.length ≤ n + 1) (fun V => n + 1 - V.length) [] (Nat.zero_le _) (by exact .cons rfl (.cons rfl (.cons rfl (.cons rfl (.cons rfl .nil))))) (fun w' h => h) ?_
  intro V hV
  refine cw_seq (cw_seq (cw_region (zS rfl (q_move rfl rfl) (zS rfl (q_move rfl rfl) ?_))))
  refine zS rfl (q_len rfl (.k rfl (.nil)) (stA (by assumption))) ?_
  refine zS rfl (q_leq rfl rfl rfl) (sw_nil (post_then ?_))
  refine cw_cond rfl (fun h => ?_) (fun h => ?_)
  · have hV' : V.length < n + 1 := by simp only [decide_eq_true_eq] at h; omega
    have hcl : (V ++ List.replicate (n + 1 - V.length) (⟨none, 0, 0⟩ : SlV)).length = n + 1 := by simp; omega
    refine cw_skip (post_then (cw_seq (cw_block (cw_seq (cw_region (zS rfl (q_move rfl rfl) (zS rfl (q_move rfl rfl) (zS rfl (q_move rfl rfl) ?_))))))))
    refine zS rfl (q_len rfl (.k rfl (.nil)) (stA (by assumption))) ?_
    refine zS rfl (q_add rfl rfl rfl (by intro hc; omega)) ?_
    rw [hme]
    refine sw_x rfl rfl rfl (e_make (α := Int) (zero := 0) rfl rfl rfl rfl rfl (by omega) (by omega) (by decide)) (fun s37 => ?_)
    have e1 : ((m : Int) + 1).toNat = m + 1 := by omega
    rw [e1]
    refine zS rfl (q_indexN rfl rfl rfl (rdO (by exact .tail _ (.head _))) (by intro hc; omega)) ?_
    refine sw_eff0 rfl rfl (e_storeEl1 (i := 1) rfl rfl rfl rfl rfl (by omega)) ?_
    refine sw_nil (post_then (cw_seq (cw_region (zS rfl (q_assign rfl rfl) (sw_nil (post_then (cw_block ?_)))))))
    have hcv : (V ++ List.replicate (n + 1 - V.length) (⟨none, 0, 0⟩ : SlV)).set V.length s37 = (V ++ [s37]) ++ List.replicate (n + 1 - (V ++ [s37]).length) ⟨none, 0, 0⟩ := by
      rw [List.set_append_right _ _ (Nat.le_refl _), Nat.sub_self, show n + 1 - V.length = (n + 1 - (V ++ [s37]).length) + 1 by simp; omega, List.replicate_succ, List.set_cons_zero]
      simp
    have hrow : nth ((V ++ List.replicate (n + 1 - V.length) (⟨none, 0, 0⟩ : SlV)).set V.length s37) V.length = s37 := by rw [nth_setP _ _ _ _ (by omega), if_pos rfl]
    have hcl2 : ((V ++ List.replicate (n + 1 - V.length) (⟨none, 0, 0⟩ : SlV)).set V.length s37).length = n + 1 := by rw [List.length_set, hcl]
    generalize (V ++ List.replicate (n + 1 - V.length) (⟨none, 0, 0⟩ : SlV)).set V.length s37 = cv at hcv hrow hcl2 ⊢
    refine cw_loop (S := Nat × List Int) (fun y => [(0, [], sp.v), (1, [], sw.v), (2, [], sl.v), (8, [], s25.v), (9, [], .int .i64 V.length), (10, [], .int .i64 y.1)]) (fun y => Cl w [] (ownL 3 (nth cv V.length).v y.2 :: ownL 116 s25.v cv :: rowsF 3 V (fun _ => List.replicate (m + 1) (-1 : Int)))) (fun y => y.1 ≤ m + 1 ∧ y.2.length = m + 1 ∧ ∀ j, j < y.1 → nth y.2 j = -1) (fun y => m + 1 - y.1) (0, List.replicate (m + 1) 0) ⟨Nat.zero_le _, by simp, fun j hj => by omega⟩ (by exact .cons rfl (.cons rfl (.cons rfl (.cons rfl (.cons rfl (.cons rfl .nil)))))) (fun w' h => by rw [hrow]; exact h) ?_
    rintro ⟨k, r⟩ ⟨hk, hll, hlt⟩
    dsimp only at hk hll hlt ⊢
    refine cw_seq (cw_seq (cw_region (zS rfl (q_move rfl rfl) (zS rfl (q_move rfl rfl) ?_))))
    refine zS rfl (q_len rfl (.k rfl (.nil)) (stA (by assumption))) ?_
    refine zS rfl (q_leq rfl rfl rfl) (sw_nil (post_then ?_))
    refine cw_cond rfl (fun h3 => ?_) (fun h3 => ?_)
    · have hk' : k < m + 1 := by simp only [decide_eq_true_eq] at h3; omega
      refine cw_skip (post_then (cw_seq (cw_block (cw_region (zS rfl (q_move rfl rfl) (zS rfl (q_move rfl rfl) ?_))))))
      refine zS rfl (q_indexN rfl rfl rfl (rdO (by exact .tail _ (.head _))) (by intro hc; omega)) ?_
      refine zS rfl (q_loadEl rfl rfl rfl (rdO (by exact .tail _ (.head _))) (by intro hc; omega)) ?_
      refine zS rfl (q_move rfl rfl) ?_
      refine zS rfl (q_indexN rfl rfl rfl (rdO (by exact .head _)) (by intro hc; omega)) ?_
      refine sw_eff0 rfl rfl (e_storeEl1 (i := 0) rfl rfl rfl rfl rfl (by omega)) ?_
      refine sw_nil (post_blk (post_then (cw_region (zS rfl (q_move rfl rfl) ?_))))
      refine zS rfl (q_add rfl rfl rfl (by intro hc; omega)) ?_
      refine zS rfl (q_assign rfl rfl) (sw_nil ?_)
      refine post_next (k + 1, r.set k (-1)) (by exact .cons rfl (.cons rfl (.cons rfl (.cons rfl (.cons rfl (.cons rfl .nil)))))) (fun _ h => h) ⟨by simp only; omega, by simp [hll], fun j hj => ?_⟩ (by simp only; omega)
      simp only at hj ⊢
      rw [nth_setP _ _ _ _ (by omega)]
      by_cases e : j = k
      · rw [if_pos e]
      · rw [if_neg e]; exact hlt j (by omega)
    · have hk' : k = m + 1 := by simp only [decide_eq_false_iff_not] at h3; omega
      have hr : r = List.replicate (m + 1) (-1) := by
        apply List.ext_getElem (by simp [hll])
        intro j a b
        have := hlt j (by omega)
        rw [nth_get a] at this
        simp [this]
      refine cw_exit (post_then_x (post_then_x (post_blk_eq (post_blk (post_then (cw_region (zS rfl (q_move rfl rfl) ?_)))))))
      refine zS rfl (q_add rfl rfl rfl (by intro hc; omega)) ?_
      refine zS rfl (q_assign rfl rfl) (sw_nil ?_)
      refine post_next (V ++ [s37]) ?_ (fun w3 hw3 => ?_) (by simp; omega) (by simp; omega)
      · exact Le.cons rfl (Le.cons rfl (Le.cons rfl (Le.cons rfl (Le.cons' rfl (by congr 1; simp) Le.nil))))
      · rw [hrow, hcv, hr] at hw3
        rw [rowsF_snoc]
        exact hw3.perm perm_rot
  · have hV' : V.length = n + 1 := by simp only [decide_eq_false_iff_not] at h; omega
    rw [hV', Nat.sub_self, List.replicate_zero, List.append_nil]
    refine cw_c (C' := Cl w [] (ownL 3 (nth V ws.length).v (List.replicate (m + 1) (-1 : Int)) :: ownL 116 s25.v V :: rowsO 3 V (fun _ => List.replicate (m + 1) (-1 : Int)) n)) (fun w' hw => by rw [hne]; exact hw.perm ((rowsF_out (by omega)).cons _ |>.trans (.swap _ _ _))) ?_
    refine cw_exit (post_then_x (post_then_x (post_blk_eq (post_then (cw_seq (cw_region (zS rfl (q_move rfl rfl) (zS rfl (q_move rfl rfl) ?_))))))))
    refine zS rfl (q_len rfl (.k rfl (.nil)) (stA (by assumption))) ?_
    refine zS rfl (q_indexN rfl rfl rfl (rdO (by exact .tail _ (.head _))) (by intro hc; omega)) ?_
    refine zS rfl (q_loadEl rfl rfl rfl (rdO (by exact .tail _ (.head _))) (by intro hc; omega)) ?_
    refine zS rfl (q_move rfl rfl) ?_
    refine zS rfl (q_len rfl (.k rfl (.nil)) (stA (by assumption))) ?_
    refine zS rfl (q_indexN rfl rfl rfl (rdO (by exact .head _)) (by intro hc; (simp only [List.length_set, List.length_append, List.length_cons, List.length_nil, List.length_replicate, List.length_take, List.length_drop, List.length_map]; omega))) ?_
    refine sw_eff0 rfl rfl (e_storeEl1 (i := 0) rfl rfl rfl rfl rfl (by (simp only [List.length_set, List.length_append, List.length_cons, List.length_nil, List.length_replicate, List.length_take, List.length_drop, List.length_map]; omega))) ?_
    refine sw_nil (post_then (cw_seq (cw_seq (cw_region (zS rfl (q_move rfl rfl) ?_)))))
    refine zS rfl (q_len rfl (.k rfl (.nil)) (stA (by assumption))) ?_
    refine zS rfl (q_sub rfl rfl rfl (by intro hc; omega)) ?_
    refine zS rfl (q_assign rfl rfl) (sw_nil (post_then (cw_block ?_)))
    refine cw_loop (S := Nat × (Nat → List Int)) (fun y => [(0, [], sp.v), (1, [], sw.v), (2, [], sl.v), (8, [], s25.v), (11, [], .int .i64 ((n : Int) - y.1 - 1))]) (fun y => Cl w [] (ownL 116 s25.v V :: rowsF 3 V y.2)) (fun y => y.1 ≤ n ∧ ∀ j, j ≤ n → (y.2 j).length = m + 1 ∧ ∀ k, k ≤ m → nth (y.2 j) k = if n - y.1 ≤ j then D j k else -1) (fun y => n - y.1) (0, fun j => if j = n then (List.replicate (m + 1) (-1 : Int)).set m 0 else List.replicate (m + 1) (-1 : Int)) ⟨Nat.zero_le _, fun j hj => ?_⟩ ?_ (fun w' hw => ?_) ?_
    · dsimp only
      by_cases e : j = n
      · rw [if_pos e]
        refine ⟨by simp, fun k hk => ?_⟩
        rw [nth_setP _ _ _ _ (by simp), e, show (if n - 0 ≤ n then D n k else -1) = D n k from if_pos (by omega), hDn k hk]
        by_cases e2 : k = m
        · simp [e2]
        · rw [if_neg e2, if_neg e2, nth_get (by simp; omega)]; simp
      · rw [if_neg e]
        refine ⟨by simp, fun k hk => ?_⟩
        rw [if_neg (by omega), nth_get (by simp; omega)]; simp
    · exact Le.cons rfl (Le.cons rfl (Le.cons rfl (Le.cons rfl (Le.cons' rfl (by congr 1; simp only; omega) Le.nil))))
    · rw [hne, hme] at hw
      exact hw.perm (perm_in1 (rowsF_in (by omega) (fun k _ hk => by dsimp only; rw [if_neg hk]) (by dsimp only; rw [if_pos rfl])))
    rintro ⟨q, F⟩ ⟨hq, hF⟩
    dsimp only at hq hF ⊢
    refine cw_seq (cw_seq (cw_region (zS rfl (q_move rfl rfl) (zS rfl (q_geq rfl rfl rfl) (sw_nil (post_then ?_))))))
    refine cw_cond rfl (fun h3 => ?_) (fun h3 => ?_)
    · obtain ⟨r, hre⟩ : ∃ r, n - (q + 1) = r := ⟨_, rfl⟩
      have hq' : q < n := by simp only [decide_eq_true_eq] at h3; omega
      have hrn : r < n := by omega
      have er : ((n : Int) - q - 1) = (r : Int) := by omega
      rw [er]
      obtain ⟨hl1, hr1⟩ := hF (r + 1) (by omega)
      obtain ⟨hl0, hr0⟩ := hF r (by omega)
      have hF1 : ∀ k, k ≤ m → nth (F (r + 1)) k = D (r + 1) k := fun k hk => by rw [hr1 k hk, if_pos (by omega)]
      obtain ⟨cc, hcc⟩ : ∃ cc, (nth ws r).v = cc := ⟨_, rfl⟩
      have hol := offers_le p cc
      refine cw_c (C' := Cl w [] (ownL 3 (nth V r).v (F r) :: ownL 3 (nth V (r + 1)).v (F (r + 1)) :: ownL 116 s25.v V :: rowsO2 3 V F r (r + 1))) (fun w' hw => hw.perm (perm_in2 (rowsF_out2 (by omega) (by omega) (by omega)).symm).symm) ?_
      refine cw_skip (post_then (cw_seq (cw_block (cw_seq (cw_region (zS rfl (q_move rfl rfl) (zS rfl (q_move rfl rfl) (zS rfl (q_move rfl rfl) ?_))))))))
      refine zS rfl (q_indexN rfl rfl rfl (stA (by assumption)) (by intro hc; omega)) ?_
      refine zS rfl (q_loadEl rfl rfl rfl (stA (by assumption)) (by intro hc; omega)) ?_
      refine sw_x rfl rfl rfl (e_call (CanCall.mk Tryz.call67) rfl (.k rfl (.k rfl (.nil))) (fun w1 hw => pieces_spec sp.v p (nth ws r).v hpn w1 (stb_arg hw hp))) (fun s71 => ?_)
      refine sw_imp fun _ => ?_
      rw [hcc]
      refine zS rfl (q_assign rfl rfl) (sw_nil (post_then (cw_seq (cw_region (zS rfl (q_assign rfl rfl) (sw_nil (post_then (cw_block ?_))))))))
      refine cw_loop (S := Nat × List Int) (fun y => [(0, [], sp.v), (1, [], sw.v), (2, [], sl.v), (8, [], s25.v), (11, [], .int .i64 r), (12, [], s71.v), (13, [], .int .i64 y.1)]) (fun y => Cl w [] (ownL 68 s71.v (offers p cc) :: ownL 3 (nth V r).v y.2 :: ownL 3 (nth V (r + 1)).v (F (r + 1)) :: ownL 116 s25.v V :: rowsO2 3 V F r (r + 1))) (fun y => y.1 ≤ m + 1 ∧ y.2.length = m + 1 ∧ (∀ j, j < y.1 → nth y.2 j = D r j) ∧ ∀ j, y.1 ≤ j → j ≤ m → nth y.2 j = -1) (fun y => m + 1 - y.1) (0, F r) ⟨Nat.zero_le _, hl0, fun j hj => by omega, fun j _ hj => by rw [hr0 j hj, if_neg (by omega)]⟩ (by exact .cons rfl (.cons rfl (.cons rfl (.cons rfl (.cons rfl (.cons rfl (.cons rfl .nil))))))) (fun w' h => h) ?_
      rintro ⟨k, cur⟩ ⟨hk1, hcl, hcd, hcn⟩
      dsimp only at hk1 hcl hcd hcn ⊢
      refine cw_seq (cw_seq (cw_region (zS rfl (q_move rfl rfl) (zS rfl (q_move rfl rfl) ?_))))
      refine zS rfl (q_len rfl (.k rfl (.nil)) (stA (by assumption))) ?_
      refine zS rfl (q_leq rfl rfl rfl) (sw_nil (post_then ?_))
      refine cw_cond rfl (fun h4 => ?_) (fun h4 => ?_)
      · have hkm : k ≤ m := by simp only [decide_eq_true_eq] at h4; omega
        have hck : nth cur k = -1 := hcn k (Nat.le_refl _) hkm
        obtain ⟨fx, hfx⟩ : ∃ fx, tryC (leastC p (ws.drop (r + 1))) (l.drop k) = fx := ⟨_, rfl⟩
        have hfxe : ∀ x, fx x = if (decide (k + x.pl.length ≤ m) && decide ((l.take (k + x.pl.length)).drop k = x.pl)) = true ∧ 0 ≤ D (r + 1) (k + x.pl.length) then x.cost + D (r + 1) (k + x.pl.length) else -1 := fun x => by rw [← hfx]; exact hTr r k x hkm
        obtain ⟨vv, hvv⟩ : ∃ vv : Nat → Int, ∀ X, vv X = ((offers p cc).take X).foldl (stepC fx) (-1) := ⟨_, fun _ => rfl⟩
        have hv0 : vv 0 = -1 := by rw [hvv]; rfl
        have hvs : ∀ X, X < (offers p cc).length → vv (X + 1) = stepC fx (vv X) (nth (offers p cc) X) := fun X hX => by rw [hvv, hvv, take_fold _ _ hX]
        have hfb : ∀ x ∈ offers p cc, -1 ≤ fx x ∧ fx x ≤ 81000 := fun x hx => by
          have h1 := hcost x (offers_mem.1 hx).1
          have h2 := hDb (r + 1) (k + x.pl.length)
          rw [hfxe]
          split <;> omega
        have hvb : ∀ X, X ≤ (offers p cc).length → -1 ≤ vv X ∧ vv X ≤ 81000 := fun X hX => by
          induction X with
          | zero => rw [hv0]; omega
          | succ X ih =>
            have h1 := ih (by omega)
            have h2 := hfb _ (nth_mem (by omega : X < (offers p cc).length))
            rw [hvs X (by omega)]
            unfold stepC
            split <;> omega
        refine cw_skip (post_then (cw_seq (cw_block (cw_seq (cw_region (zS rfl (q_assign rfl rfl) (sw_nil (post_then (cw_block ?_)))))))))
        refine cw_loop (S := Nat) (fun X => [(0, [], sp.v), (1, [], sw.v), (2, [], sl.v), (8, [], s25.v), (11, [], .int .i64 r), (12, [], s71.v), (13, [], .int .i64 k), (14, [], .int .i64 X)]) (fun X => Cl w [] (ownL 68 s71.v (offers p cc) :: ownL 3 (nth V r).v (cur.set k (vv X)) :: ownL 3 (nth V (r + 1)).v (F (r + 1)) :: ownL 116 s25.v V :: rowsO2 3 V F r (r + 1))) (fun X => X ≤ (offers p cc).length) (fun X => (offers p cc).length - X) 0 (Nat.zero_le _) (by exact .cons rfl (.cons rfl (.cons rfl (.cons rfl (.cons rfl (.cons rfl (.cons rfl (.cons rfl .nil)))))))) (fun w' h => by rw [hv0, sets_same hck (by omega)]; exact h) ?_
        intro X hX
        have hcsl : (cur.set k (vv X)).length = m + 1 := by rw [List.length_set, hcl]
        have hcsk : nth (cur.set k (vv X)) k = vv X := by rw [nth_setP _ _ _ _ (by omega), if_pos rfl]
        have hvbX := hvb X hX
        refine cw_seq (cw_seq (cw_region (zS rfl (q_move rfl rfl) (zS rfl (q_move rfl rfl) ?_))))
        refine zS rfl (q_len rfl (.k rfl (.nil)) (rdO (by exact .head _))) ?_
        refine zS rfl (q_lss rfl rfl rfl) (sw_nil (post_then ?_))
        refine cw_cond rfl (fun h5 => ?_) (fun h5 => ?_)
        · have hX' : X < (offers p cc).length := by simp only [decide_eq_true_eq] at h5; omega
          have hxm : (nth (offers p cc) X) ∈ p := (offers_mem.1 (nth_mem hX')).1
          have hxs : Stb w [] (RdL (nth (offers p cc) X).p.v (nth (offers p cc) X).pl) := stb_mem hpi hxm
          have hxc := hcost (nth (offers p cc) X) hxm
          have hxl := hpl (nth (offers p cc) X) hxm
          have hfxx := hfxe (nth (offers p cc) X)
          have hst := hvs X hX'
          have hxD := hDb (r + 1) (k + (nth (offers p cc) X).pl.length)
          have hb1 : -1 ≤ nth (F (r + 1)) (k + (nth (offers p cc) X).pl.length) ∧ nth (F (r + 1)) (k + (nth (offers p cc) X).pl.length) ≤ 80000 := by
            by_cases h6 : k + (nth (offers p cc) X).pl.length ≤ m
            · rw [hF1 _ h6]; exact hxD
            · rw [nth_out (by omega)]; omega
          refine cw_skip (post_then (cw_seq (cw_block (cw_seq (cw_seq ?_)))))
          refine cw_region_q mixed_Tryz (by kernel_rfl) ?_
          refine zq rfl (q_move rfl rfl) (zq rfl (q_move rfl rfl) ?_)
          refine zq rfl (q_sliceL rfl rfl rfl (stA (by assumption)) (by intro hc; omega)) ?_
          refine zq rfl (q_move rfl rfl) (zq rfl (q_move rfl rfl) ?_)
          refine zq rfl (q_indexN rfl rfl rfl (rdO (by exact .head _)) (by intro hc; omega)) ?_
          refine zq rfl (q_fieldEl rfl rfl (rdO (by exact .head _)) (by intro hc; omega)) ?_
          refine zq rfl (q_loadF rfl rfl rfl (rdO (by exact .head _)) (by intro hc; omega) rfl) ?_
          rw [hme]
          refine qw_step rfl rfl rfl (q_call (CanCall.mk Tryz.call68) rfl (.k rfl (.k rfl (.nil))) (fun _ w1 hw => callq hw (hbg k (nth (offers p cc) X) w1 hkm (stb_arg hw hl) (stb_arg hw hxs)))) (zq rfl (q_not rfl rfl) (zq rfl (q_move rfl rfl) (zq rfl (q_move rfl rfl) (zq rfl (q_move rfl rfl) ?_))))
          refine zq rfl (q_add rfl rfl rfl (by intro hc; omega)) ?_
          refine zq rfl (q_indexN rfl rfl rfl (rdO (by exact .tail _ (.tail _ (.tail _ (.head _))))) (by intro hc; (simp only [List.length_set, List.length_append, List.length_cons, List.length_nil, List.length_replicate, List.length_take, List.length_drop, List.length_map]; omega))) ?_
          refine zq rfl (q_loadEl rfl rfl rfl (rdO (by exact .tail _ (.tail _ (.tail _ (.head _))))) (by intro hc; (simp only [List.length_set, List.length_append, List.length_cons, List.length_nil, List.length_replicate, List.length_take, List.length_drop, List.length_map]; omega))) ?_
          refine zq rfl (q_move rfl rfl) (zq rfl (q_move rfl rfl) (zq rfl (q_move rfl rfl) ?_))
          refine zq rfl (q_indexN rfl rfl rfl (rdO (by exact .head _)) (by intro hc; omega)) ?_
          refine zq rfl (q_fieldEl rfl rfl (rdO (by exact .head _)) (by intro hc; omega)) ?_
          refine zq rfl (q_loadF rfl rfl rfl (rdO (by exact .head _)) (by intro hc; omega) rfl) ?_
          refine zq rfl (q_len rfl (.k rfl (.nil)) (stA (by assumption))) ?_
          refine zq rfl (q_add rfl rfl rfl (by intro hc; omega)) ?_
          refine zq rfl (q_indexN rfl rfl rfl (rdO (by exact .tail _ (.tail _ (.head _)))) (by intro hc; (simp only [AllT.iff, List.all_cons, List.all_nil, id, Bool.and_eq_true, Bool.not_eq_true', Bool.not_eq_false', decide_eq_true_eq, decide_eq_false_iff_not, and_true] at hc; omega))) ?_
          refine zq rfl (q_loadEl rfl rfl rfl (rdO (by exact .tail _ (.tail _ (.head _)))) (by intro hc; (simp only [AllT.iff, List.all_cons, List.all_nil, id, Bool.and_eq_true, Bool.not_eq_true', Bool.not_eq_false', decide_eq_true_eq, decide_eq_false_iff_not, and_true] at hc; omega))) ?_
          refine zq rfl (q_lss rfl rfl rfl) (zq rfl (q_or2 rfl rfl rfl) (qw_end (post_then ?_)))
          refine cw_cond rfl (fun h6 => ?_) (fun h6 => ?_)
          · have hno : fx (nth (offers p cc) X) = -1 := by
              rw [hfxx, if_neg]
              rintro ⟨a1, a2⟩
              simp only [Bool.and_eq_true, decide_eq_true_eq] at a1
              have := hF1 (k + (nth (offers p cc) X).pl.length) a1.1
              simp [a1.1, a1.2] at h6
              omega
            have hst2 : vv (X + 1) = vv X := by rw [hst]; exact step_no (by omega)
            refine cw_exit (post_then_x (post_blk_eq (post_then (cw_region (zS rfl (q_move rfl rfl) ?_)))))
            refine zS rfl (q_add rfl rfl rfl (by intro hc; omega)) ?_
            refine zS rfl (q_assign rfl rfl) (sw_nil ?_)
            exact post_next (X + 1) (by exact .cons rfl (.cons rfl (.cons rfl (.cons rfl (.cons rfl (.cons rfl (.cons rfl (.cons rfl .nil)))))))) (fun w' h => by rw [hst2]; exact h) (by omega) (by omega)
          · have hyes : k + (nth (offers p cc) X).pl.length ≤ m ∧ 0 ≤ D (r + 1) (k + (nth (offers p cc) X).pl.length) ∧ fx (nth (offers p cc) X) = (nth (offers p cc) X).cost + D (r + 1) (k + (nth (offers p cc) X).pl.length) := by
              simp only [Bool.or_eq_false_iff, Bool.not_eq_false', decide_eq_false_iff_not] at h6
              obtain ⟨a1, a2⟩ := h6
              have a3 := a1
              simp only [Bool.and_eq_true, decide_eq_true_eq] at a3
              have := hF1 (k + (nth (offers p cc) X).pl.length) a3.1
              have a4 : 0 ≤ D (r + 1) (k + (nth (offers p cc) X).pl.length) := by rw [← this]; exact Int.not_lt.1 a2
              exact ⟨a3.1, a4, by rw [hfxx, if_pos ⟨a1, a4⟩]⟩
            obtain ⟨hkx, hD0, hfe⟩ := hyes
            have hFx := hF1 _ hkx
            have e3 : ((k : Int) + ((nth (offers p cc) X).pl.length : Int)).toNat = k + (nth (offers p cc) X).pl.length := by omega
            refine cw_skip (post_then (cw_seq ?_))
            refine cw_region_q mixed_Tryz (by kernel_rfl) ?_
            refine zq rfl (q_move rfl rfl) (zq rfl (q_move rfl rfl) ?_)
            refine zq rfl (q_indexN rfl rfl rfl (rdO (by exact .head _)) (by intro hc; omega)) ?_
            refine zq rfl (q_fieldEl rfl rfl (rdO (by exact .head _)) (by intro hc; omega)) ?_
            refine zq rfl (q_loadF rfl rfl rfl (rdO (by exact .head _)) (by intro hc; omega) rfl) ?_
            refine zq rfl (q_move rfl rfl) (zq rfl (q_move rfl rfl) ?_)
            refine zq rfl (q_add rfl rfl rfl (by intro hc; omega)) ?_
            refine zq rfl (q_indexN rfl rfl rfl (rdO (by exact .tail _ (.tail _ (.tail _ (.head _))))) (by intro hc; (simp only [List.length_set, List.length_append, List.length_cons, List.length_nil, List.length_replicate, List.length_take, List.length_drop, List.length_map]; omega))) ?_
            refine zq rfl (q_loadEl rfl rfl rfl (rdO (by exact .tail _ (.tail _ (.tail _ (.head _))))) (by intro hc; (simp only [List.length_set, List.length_append, List.length_cons, List.length_nil, List.length_replicate, List.length_take, List.length_drop, List.length_map]; omega))) ?_
            refine zq rfl (q_move rfl rfl) (zq rfl (q_move rfl rfl) (zq rfl (q_move rfl rfl) ?_))
            refine zq rfl (q_indexN rfl rfl rfl (rdO (by exact .head _)) (by intro hc; omega)) ?_
            refine zq rfl (q_fieldEl rfl rfl (rdO (by exact .head _)) (by intro hc; omega)) ?_
            refine zq rfl (q_loadF rfl rfl rfl (rdO (by exact .head _)) (by intro hc; omega) rfl) ?_
            refine zq rfl (q_len rfl (.k rfl (.nil)) (stA (by assumption))) ?_
            refine zq rfl (q_add rfl rfl rfl (by intro hc; omega)) ?_
            refine zq rfl (q_indexN rfl rfl rfl (rdO (by exact .tail _ (.tail _ (.head _)))) (by intro hc; omega)) ?_
            refine zq rfl (q_loadEl rfl rfl rfl (rdO (by exact .tail _ (.tail _ (.head _)))) (by intro hc; omega)) ?_
            refine zq rfl (q_add rfl rfl rfl (by intro hc; omega)) ?_
            refine zq rfl (q_assign rfl rfl) (qw_end (post_then (cw_seq (cw_region (zS rfl (q_move rfl rfl) (zS rfl (q_move rfl rfl) ?_))))))
            refine zS rfl (q_indexN rfl rfl rfl (rdO (by exact .tail _ (.tail _ (.tail _ (.head _))))) (by intro hc; omega)) ?_
            refine zS rfl (q_loadEl rfl rfl rfl (rdO (by exact .tail _ (.tail _ (.tail _ (.head _))))) (by intro hc; omega)) ?_
            refine zS rfl (q_move rfl rfl) ?_
            refine zS rfl (q_indexN rfl rfl rfl (rdO (by exact .tail _ (.head _))) (by intro hc; omega)) ?_
            refine zS rfl (q_loadEl rfl rfl rfl (rdO (by exact .tail _ (.head _))) (by intro hc; omega)) ?_
            refine zS rfl (q_lss rfl rfl rfl) (zS rfl (q_move rfl rfl) (zS rfl (q_move rfl rfl) (zS rfl (q_move rfl rfl) (zS rfl (q_move rfl rfl) ?_))))
            refine zS rfl (q_indexN rfl rfl rfl (rdO (by exact .tail _ (.tail _ (.tail _ (.head _))))) (by intro hc; omega)) ?_
            refine zS rfl (q_loadEl rfl rfl rfl (rdO (by exact .tail _ (.tail _ (.tail _ (.head _))))) (by intro hc; omega)) ?_
            refine zS rfl (q_move rfl rfl) ?_
            refine zS rfl (q_indexN rfl rfl rfl (rdO (by exact .tail _ (.head _))) (by intro hc; omega)) ?_
            refine zS rfl (q_loadEl rfl rfl rfl (rdO (by exact .tail _ (.head _))) (by intro hc; omega)) ?_
            refine zS rfl (q_lss rfl rfl rfl) (zS rfl (q_or2 rfl rfl rfl) (sw_nil (post_then ?_)))
            refine cw_cond rfl (fun h7 => ?_) (fun h7 => ?_)
            · have hst2 : vv (X + 1) = (nth (offers p cc) X).cost + nth (F (r + 1)) (k + (nth (offers p cc) X).pl.length) := by
                rw [hFx, ← hfe, hst]
                refine step_yes ⟨by omega, ?_⟩
                simp only [Bool.or_eq_true, decide_eq_true_eq, Int.toNat_natCast, e3, hFx, hcsk, ← hfe] at h7
                omega
              refine cw_region (zS rfl (q_move rfl rfl) (zS rfl (q_move rfl rfl) ?_))
              refine zS rfl (q_indexN rfl rfl rfl (rdO (by exact .tail _ (.tail _ (.tail _ (.head _))))) (by intro hc; omega)) ?_
              refine zS rfl (q_loadEl rfl rfl rfl (rdO (by exact .tail _ (.tail _ (.tail _ (.head _))))) (by intro hc; omega)) ?_
              refine zS rfl (q_move rfl rfl) (zS rfl (q_move rfl rfl) ?_)
              refine zS rfl (q_indexN rfl rfl rfl (rdO (by exact .tail _ (.head _))) (by intro hc; omega)) ?_
              refine sw_eff0 rfl rfl (e_storeEl1 (i := 1) rfl rfl rfl rfl rfl (by omega)) ?_
              refine sw_nil (post_blk (post_then (cw_region (zS rfl (q_move rfl rfl) ?_))))
              refine zS rfl (q_add rfl rfl rfl (by intro hc; omega)) ?_
              refine zS rfl (q_assign rfl rfl) (sw_nil ?_)
              refine post_next (X + 1) (by exact .cons rfl (.cons rfl (.cons rfl (.cons rfl (.cons rfl (.cons rfl (.cons rfl (.cons rfl .nil)))))))) (fun w' h => ?_) (by omega) (by omega)
              rw [hst2]
              simp only [Int.toNat_natCast, e3, List.set_set] at h
              exact h
            · have hst2 : vv (X + 1) = vv X := by
                rw [hst]
                refine step_no ?_
                simp only [Bool.or_eq_false_iff, decide_eq_false_iff_not, Int.toNat_natCast, e3, hFx, hcsk, ← hfe] at h7
                omega
              refine cw_skip (post_blk (post_then (cw_region (zS rfl (q_move rfl rfl) ?_))))
              refine zS rfl (q_add rfl rfl rfl (by intro hc; omega)) ?_
              refine zS rfl (q_assign rfl rfl) (sw_nil ?_)
              exact post_next (X + 1) (by exact .cons rfl (.cons rfl (.cons rfl (.cons rfl (.cons rfl (.cons rfl (.cons rfl (.cons rfl .nil)))))))) (fun w' h => by rw [hst2]; exact h) (by omega) (by omega)
        · have hX' : X = (offers p cc).length := by simp only [decide_eq_false_iff_not] at h5; omega
          have hvD : vv X = D r k := by rw [hvv, hX', List.take_length, hDs r k hrn, hcc, hfx]
          refine cw_exit (post_then_x (post_then_x (post_blk_eq (post_blk (post_then (cw_region (zS rfl (q_move rfl rfl) ?_)))))))
          refine zS rfl (q_add rfl rfl rfl (by intro hc; omega)) ?_
          refine zS rfl (q_assign rfl rfl) (sw_nil ?_)
          refine post_next (k + 1, cur.set k (vv X)) (by exact .cons rfl (.cons rfl (.cons rfl (.cons rfl (.cons rfl (.cons rfl (.cons rfl .nil))))))) (fun _ h => h) ⟨by simp only; omega, hcsl, fun j hj => ?_, fun j hj hj2 => ?_⟩ (by simp only; omega)
          · simp only at hj ⊢
            rw [nth_setP _ _ _ _ (by omega)]
            by_cases e : j = k
            · rw [if_pos e, e, hvD]
            · rw [if_neg e]; exact hcd j (by omega)
          · simp only at hj hj2 ⊢
            rw [nth_setP _ _ _ _ (by omega), if_neg (by omega)]; exact hcn j (by omega) hj2
      · have hkm : k = m + 1 := by simp only [decide_eq_false_iff_not] at h4; omega
        refine cw_exit (post_then_x (post_then_x (post_blk_eq (post_blk (post_then (cw_region (zS rfl (q_move rfl rfl) ?_)))))))
        refine zS rfl (q_sub rfl rfl rfl (by intro hc; omega)) ?_
        refine zS rfl (q_assign rfl rfl) (sw_nil ?_)
        refine post_next (q + 1, fun j => if j = r then cur else F j) ?_ (fun w3 hw3 => ?_) ⟨by simp only; omega, fun j hj => ?_⟩ (by simp only; omega)
        · exact Le.cons rfl (Le.cons rfl (Le.cons rfl (Le.cons rfl (Le.cons' rfl (by congr 1; simp only; omega) Le.nil))))
        · exact hw3.tail.perm (perm_in2 (rowsF_in2 (by omega) (by omega) (by omega) (fun k _ hk => by dsimp only; rw [if_neg hk]) (by dsimp only; rw [if_pos rfl])))
        · simp only
          by_cases e : j = r
          · rw [if_pos e]
            refine ⟨hcl, fun k hk => ?_⟩
            rw [if_pos (by omega), hcd k (by omega), e]
          · rw [if_neg e]
            obtain ⟨a, b⟩ := hF j hj
            refine ⟨a, fun k hk => ?_⟩
            rw [b k hk]
            by_cases e2 : n - q ≤ j
            · rw [if_pos e2, if_pos (by omega)]
            · rw [if_neg e2, if_neg (by omega)]
    · have hqm : q = n := by simp only [decide_eq_false_iff_not] at h3; omega
      have hFd : ∀ j, j ≤ n → ∀ k, k ≤ m → nth (F j) k = D j k := fun j hj k hk => by rw [(hF j hj).2 k hk, if_pos (by omega)]
      have hFl : ∀ j, j ≤ n → (F j).length = m + 1 := fun j hj => (hF j hj).1
      have h00 := hFd 0 (Nat.zero_le _) 0 (Nat.zero_le _)
      have hl0 := hFl 0 (Nat.zero_le _)
      have hD00 : D 0 0 = leastC p ws l := by rw [hD]; rfl
      have hD00b := hDb 0 0
      refine cw_c (C' := Cl w [] (ownL 3 (nth V 0).v (F 0) :: ownL 116 s25.v V :: rowsO 3 V F 0)) (fun w' hw => hw.perm (perm_in1 (rowsF_out (by omega)).symm).symm) ?_
      refine cw_exit (post_then_x (post_then_x (post_blk_eq (post_then (cw_seq (cw_seq (cw_region (zS rfl (q_move rfl rfl) ?_))))))))
      refine zS rfl (q_indexN rfl rfl rfl (rdO (by exact .tail _ (.head _))) (by intro hc; (simp only [List.length_set, List.length_append, List.length_cons, List.length_nil, List.length_replicate, List.length_take, List.length_drop, List.length_map]; omega))) ?_
      refine zS rfl (q_loadEl rfl rfl rfl (rdO (by exact .tail _ (.head _))) (by intro hc; (simp only [List.length_set, List.length_append, List.length_cons, List.length_nil, List.length_replicate, List.length_take, List.length_drop, List.length_map]; omega))) ?_
      refine zS rfl (q_indexN rfl rfl rfl (rdO (by exact .head _)) (by intro hc; (simp only [List.length_set, List.length_append, List.length_cons, List.length_nil, List.length_replicate, List.length_take, List.length_drop, List.length_map]; omega))) ?_
      refine zS rfl (q_loadEl rfl rfl rfl (rdO (by exact .head _)) (by intro hc; (simp only [List.length_set, List.length_append, List.length_cons, List.length_nil, List.length_replicate, List.length_take, List.length_drop, List.length_map]; omega))) ?_
      refine zS rfl (q_lss rfl rfl rfl) (sw_nil (post_then ?_))
      refine cw_cond rfl (fun h5 => ?_) (fun h5 => ?_)
      · have h6 : leastC p ws l = -1 := by
          rw [← hD00]
          simp only [decide_eq_true_eq] at h5
          have : nth (F 0) 0 < 0 := h5
          omega
        refine cw_seq (cw_region (zS rfl (q_assign rfl rfl) (zS rfl (q_assign rfl rfl) (sw_nil (post_then (cw_ret (post_then_r (post_ret2 rfl (resOk_tmp rfl) (resOk_tmp rfl) ?_))))))))
        exact fun w' hw => ⟨(⟨none, 0, 0⟩, []), by rw [h6]; rfl, trivial, by rw [if_neg (by omega)]; exact Cl.frz (H := []) ((Cl.sel (by exact .nil _)) w' hw : Cl w [] [] w') fun w _ _ => ⟨rd_nil0 w, rfl, fun i hi => by simp at hi⟩⟩
      · have h6 : 0 ≤ leastC p ws l := by
          rw [← hD00]
          simp only [decide_eq_false_iff_not] at h5
          have : ¬ nth (F 0) 0 < 0 := h5
          omega
        rw [if_pos h6]
        refine cw_c (C' := Cl w [] (ownL 23 (SlV.v ⟨none, 0, 0⟩) ([] : List SlV) :: frz (RdR ([] : List SlV) ([] : List (List ByteArray))) :: ownL 116 s25.v V :: rowsF 3 V F)) (fun w' hw => ?_) ?_
        · have h7 := hw.perm (perm_in1 (rowsF_out (e := 3) (vs := V) (f := F) (i := 0) (by omega)).symm)
          have h8 : Cl w [] (frz (RdR ([] : List SlV) ([] : List (List ByteArray))) :: (ownL 116 s25.v V :: rowsF 3 V F)) w' := Cl.frz (H := []) h7 fun w' bs _ => ⟨rfl, fun i hi => by simp at hi⟩
          exact h8.addNil (α := SlV) 23
        refine cw_skip (post_then (cw_seq (cw_region (zS rfl (q_assign rfl rfl) (sw_nil (post_then (cw_seq (cw_region (zS rfl (q_assign rfl rfl) (sw_nil (post_then (cw_seq (cw_seq (cw_region (zS rfl (q_assign rfl rfl) (sw_nil (post_then (cw_block ?_))))))))))))))))))
        refine cw_loop (S := (Nat × Nat) × (SlV × List SlV × List (List ByteArray))) (fun y => [(0, [], sp.v), (1, [], sw.v), (2, [], sl.v), (8, [], s25.v), (16, [], y.2.1.v), (17, [], .int .i64 y.1.2), (18, [], .int .i64 y.1.1)]) (fun y => Cl w [] (ownL 23 y.2.1.v y.2.2.1 :: frz (RdR y.2.2.1 y.2.2.2) :: ownL 116 s25.v V :: rowsF 3 V F)) (fun y => y.1.1 ≤ n ∧ y.1.2 ≤ m ∧ y.2.2.1.length = y.1.1 ∧ 0 ≤ D y.1.1 y.1.2 ∧ pathC p ws l = y.2.2.2 ++ pathC p (ws.drop y.1.1) (l.drop y.1.2)) (fun y => n - y.1.1) ((0, 0), (⟨none, 0, 0⟩, [], [])) ⟨Nat.zero_le _, Nat.zero_le _, rfl, by rw [hD00]; exact h6, by simp⟩ (by exact .cons rfl (.cons rfl (.cons rfl (.cons rfl (.cons rfl (.cons rfl (.cons rfl .nil))))))) (fun w' h => h) ?_
        rintro ⟨⟨i, k⟩, ⟨so, vs2, ll⟩⟩ ⟨hi1, hk1, hvl, hDv, hpt⟩
        dsimp only at hi1 hk1 hvl hDv hpt ⊢
        refine cw_seq (cw_seq (cw_region (zS rfl (q_move rfl rfl) (zS rfl (q_move rfl rfl) ?_))))
        refine zS rfl (q_len rfl (.k rfl (.nil)) (stA (by assumption))) ?_
        refine zS rfl (q_lss rfl rfl rfl) (sw_nil (post_then ?_))
        refine cw_cond rfl (fun h7 => ?_) (fun h7 => ?_)
        · have hin : i < n := by simp only [decide_eq_true_eq] at h7; omega
          obtain ⟨cc, hcc⟩ : ∃ cc, (nth ws i).v = cc := ⟨_, rfl⟩
          have hol := offers_le p cc
          have hDv2 := hDv
          rw [hD, drop_at (by omega)] at hDv2
          obtain ⟨y, hy1, hy2, hy3, hy4, hy5⟩ := path_step hDv2
          rw [drop_at (by omega : i < ws.length), hy5] at hpt
          rw [← drop_at (by omega : i < ws.length), hcc] at hy1
          rw [hcc] at hy2
          obtain ⟨fx, hfx⟩ : ∃ fx, tryC (leastC p (ws.drop (i + 1))) (l.drop k) = fx := ⟨_, rfl⟩
          have hfxe : ∀ x, fx x = if (decide (k + x.pl.length ≤ m) && decide ((l.take (k + x.pl.length)).drop k = x.pl)) = true ∧ 0 ≤ D (i + 1) (k + x.pl.length) then x.cost + D (i + 1) (k + x.pl.length) else -1 := fun x => by rw [← hfx]; exact hTr i k x hk1
          rw [hfx, ← hD] at hy1
          have hF1 : ∀ k, k ≤ m → nth (F (i + 1)) k = D (i + 1) k := fun k hk => hFd (i + 1) (by omega) k hk
          have hF0 : nth (F i) k = D i k := hFd i hi1 k hk1
          have hl1 := hFl (i + 1) (by omega)
          have hl0 := hFl i hi1
          refine cw_c (C' := Cl w [] (ownL 23 so.v vs2 :: frz (RdR vs2 ll) :: ownL 3 (nth V i).v (F i) :: ownL 3 (nth V (i + 1)).v (F (i + 1)) :: ownL 116 s25.v V :: rowsO2 3 V F i (i + 1))) (fun w' hw => hw.perm (((perm_in2 (rowsF_out2 (by omega) (by omega) (by omega)).symm).cons _).cons _).symm) ?_
          refine cw_skip (post_then (cw_seq (cw_block (cw_seq (cw_region (zS rfl (q_move rfl rfl) (zS rfl (q_move rfl rfl) (zS rfl (q_move rfl rfl) ?_))))))))
          refine zS rfl (q_indexN rfl rfl rfl (stA (by assumption)) (by intro hc; omega)) ?_
          refine zS rfl (q_loadEl rfl rfl rfl (stA (by assumption)) (by intro hc; omega)) ?_
          refine sw_x rfl rfl rfl (e_call (CanCall.mk Tryz.call67) rfl (.k rfl (.k rfl (.nil))) (fun w1 hw => pieces_spec sp.v p (nth ws i).v hpn w1 (stb_arg hw hp))) (fun s176 => ?_)
          refine sw_imp fun _ => ?_
          rw [hcc]
          refine zS rfl (q_assign rfl rfl) (sw_nil (post_then (cw_seq (cw_region (zS rfl (q_assign rfl rfl) (sw_nil (post_then (cw_block ?_))))))))
          refine cw_loop (S := Nat) (fun X => [(0, [], sp.v), (1, [], sw.v), (2, [], sl.v), (8, [], s25.v), (16, [], so.v), (17, [], .int .i64 k), (18, [], .int .i64 i), (19, [], s176.v), (20, [], .int .i64 X)]) (fun _ => Cl w [] (ownL 68 s176.v (offers p cc) :: ownL 23 so.v vs2 :: frz (RdR vs2 ll) :: ownL 3 (nth V i).v (F i) :: ownL 3 (nth V (i + 1)).v (F (i + 1)) :: ownL 116 s25.v V :: rowsO2 3 V F i (i + 1))) (fun X => X ≤ (offers p cc).length ∧ ∀ X', X' < X → ¬ fx (nth (offers p cc) X') = D i k) (fun X => (offers p cc).length - X) 0 ⟨Nat.zero_le _, fun X' h => by omega⟩ (by exact .cons rfl (.cons rfl (.cons rfl (.cons rfl (.cons rfl (.cons rfl (.cons rfl (.cons rfl (.cons rfl .nil))))))))) (fun w' h => h) ?_
          rintro X ⟨hX, hno⟩
          refine cw_seq (cw_seq (cw_region (zS rfl (q_move rfl rfl) (zS rfl (q_move rfl rfl) ?_))))
          refine zS rfl (q_len rfl (.k rfl (.nil)) (rdO (by exact .head _))) ?_
          refine zS rfl (q_lss rfl rfl rfl) (sw_nil (post_then ?_))
          refine cw_cond rfl (fun h8 => ?_) (fun h8 => ?_)
          · have hX' : X < (offers p cc).length := by simp only [decide_eq_true_eq] at h8; omega
            have hxm : (nth (offers p cc) X) ∈ p := (offers_mem.1 (nth_mem hX')).1
            have hxs : Stb w [] (RdL (nth (offers p cc) X).p.v (nth (offers p cc) X).pl) := stb_mem hpi hxm
            have hxc := hcost (nth (offers p cc) X) hxm
            have hxl := hpl (nth (offers p cc) X) hxm
            have hfxx := hfxe (nth (offers p cc) X)
            have hxD := hDb (i + 1) (k + (nth (offers p cc) X).pl.length)
            refine cw_skip (post_then (cw_seq (cw_block (cw_seq ?_))))
            refine cw_region_q mixed_Tryz (by kernel_rfl) ?_
            refine zq rfl (q_move rfl rfl) (zq rfl (q_move rfl rfl) ?_)
            refine zq rfl (q_sliceL rfl rfl rfl (stA (by assumption)) (by intro hc; omega)) ?_
            refine zq rfl (q_move rfl rfl) (zq rfl (q_move rfl rfl) ?_)
            refine zq rfl (q_indexN rfl rfl rfl (rdO (by exact .head _)) (by intro hc; omega)) ?_
            refine zq rfl (q_fieldEl rfl rfl (rdO (by exact .head _)) (by intro hc; omega)) ?_
            refine zq rfl (q_loadF rfl rfl rfl (rdO (by exact .head _)) (by intro hc; omega) rfl) ?_
            rw [hme]
            refine qw_step rfl rfl rfl (q_call (CanCall.mk Tryz.call68) rfl (.k rfl (.k rfl (.nil))) (fun _ w1 hw => callq hw (hbg k (nth (offers p cc) X) w1 hk1 (stb_arg hw hl) (stb_arg hw hxs)))) (qw_end (post_then ?_))
            have e3 : ((k : Int) + ((nth (offers p cc) X).pl.length : Int)).toNat = k + (nth (offers p cc) X).pl.length := by omega
            refine cw_cond rfl (fun h9 => ?_) (fun h9 => ?_)
            · have h9' := h9
              simp only [Bool.and_eq_true, decide_eq_true_eq] at h9'
              have hFx := hF1 _ h9'.1
              refine cw_seq ?_
              refine cw_region_q mixed_Tryz (by kernel_rfl) ?_
              refine zq rfl (q_move rfl rfl) (zq rfl (q_move rfl rfl) ?_)
              refine zq rfl (q_add rfl rfl rfl (by intro hc; omega)) ?_
              refine zq rfl (q_indexN rfl rfl rfl (rdO (by exact .tail _ (.tail _ (.tail _ (.tail _ (.tail _ (.head _))))))) (by intro hc; (simp only [List.length_set, List.length_append, List.length_cons, List.length_nil, List.length_replicate, List.length_take, List.length_drop, List.length_map]; omega))) ?_
              refine zq rfl (q_loadEl rfl rfl rfl (rdO (by exact .tail _ (.tail _ (.tail _ (.tail _ (.tail _ (.head _))))))) (by intro hc; (simp only [List.length_set, List.length_append, List.length_cons, List.length_nil, List.length_replicate, List.length_take, List.length_drop, List.length_map]; omega))) ?_
              refine zq rfl (q_move rfl rfl) (zq rfl (q_move rfl rfl) (zq rfl (q_move rfl rfl) ?_))
              refine zq rfl (q_indexN rfl rfl rfl (rdO (by exact .head _)) (by intro hc; omega)) ?_
              refine zq rfl (q_fieldEl rfl rfl (rdO (by exact .head _)) (by intro hc; omega)) ?_
              refine zq rfl (q_loadF rfl rfl rfl (rdO (by exact .head _)) (by intro hc; omega) rfl) ?_
              refine zq rfl (q_len rfl (.k rfl (.nil)) (stA (by assumption))) ?_
              refine zq rfl (q_add rfl rfl rfl (by intro hc; omega)) ?_
              refine zq rfl (q_indexN rfl rfl rfl (rdO (by exact .tail _ (.tail _ (.tail _ (.tail _ (.head _)))))) (by intro hc; omega)) ?_
              refine zq rfl (q_loadEl rfl rfl rfl (rdO (by exact .tail _ (.tail _ (.tail _ (.tail _ (.head _)))))) (by intro hc; omega)) ?_
              refine zq rfl (q_assign rfl rfl) (qw_end (post_then (cw_seq ?_)))
              refine cw_region_q mixed_Tryz (by kernel_rfl) ?_
              refine zq rfl (q_move rfl rfl) (zq rfl (q_geq rfl rfl rfl) (zq rfl (q_move rfl rfl) (zq rfl (q_move rfl rfl) (zq rfl (q_move rfl rfl) ?_))))
              refine zq rfl (q_indexN rfl rfl rfl (rdO (by exact .head _)) (by intro hc; omega)) ?_
              refine zq rfl (q_fieldEl rfl rfl (rdO (by exact .head _)) (by intro hc; omega)) ?_
              refine zq rfl (q_loadF rfl rfl rfl (rdO (by exact .head _)) (by intro hc; omega) rfl) ?_
              refine zq rfl (q_move rfl rfl) ?_
              refine zq rfl (q_add rfl rfl rfl (by intro hc; omega)) ?_
              refine zq rfl (q_move rfl rfl) (zq rfl (q_move rfl rfl) ?_)
              refine zq rfl (q_indexN rfl rfl rfl (rdO (by exact .tail _ (.tail _ (.tail _ (.tail _ (.tail _ (.head _))))))) (by intro hc; omega)) ?_
              refine zq rfl (q_loadEl rfl rfl rfl (rdO (by exact .tail _ (.tail _ (.tail _ (.tail _ (.tail _ (.head _))))))) (by intro hc; omega)) ?_
              refine zq rfl (q_move rfl rfl) ?_
              refine zq rfl (q_indexN rfl rfl rfl (rdO (by exact .tail _ (.tail _ (.tail _ (.head _))))) (by intro hc; omega)) ?_
              refine zq rfl (q_loadEl rfl rfl rfl (rdO (by exact .tail _ (.tail _ (.tail _ (.head _))))) (by intro hc; omega)) ?_
              refine zq rfl (q_eql rfl rfl rfl) (zq rfl (q_and2 rfl rfl rfl) (qw_end (post_then ?_)))
              simp only [Int.toNat_natCast, e3, hFx, hF0]
              refine cw_cond rfl (fun h10 => ?_) (fun h10 => ?_)
              · have hch : fx (nth (offers p cc) X) = D i k := by
                  simp only [Bool.and_eq_true, decide_eq_true_eq] at h10
                  rw [hfxx, if_pos ⟨h9, h10.1⟩]; exact h10.2
                have hxy : nth (offers p cc) X = y := by
                  have e1 : (offers p cc).find? (fun x => decide (fx x = D i k)) = some (nth (offers p cc) X) := find_at hX' (fun z hz => by simpa using hno z hz) (by simpa using hch)
                  rw [e1] at hy1; exact Option.some.inj hy1
                rw [← hxy, List.drop_drop] at hy4
                rw [← hxy, List.drop_drop] at hpt
                refine cw_c (C' := Cl w [] (ownL 9 (SlV.v ⟨none, 0, 0⟩) ([] : List ByteArray) :: ownL 68 s176.v (offers p cc) :: ownL 23 so.v vs2 :: frz (RdR vs2 ll) :: ownL 3 (nth V i).v (F i) :: ownL 3 (nth V (i + 1)).v (F (i + 1)) :: ownL 116 s25.v V :: rowsO2 3 V F i (i + 1))) (fun w' h => h.addNil (α := ByteArray) 9) (cw_seq (cw_region (zS rfl (q_move rfl rfl) (zS rfl (q_move rfl rfl) (zS rfl (q_move rfl rfl) ?_)))))
                refine zS rfl (q_indexN rfl rfl rfl (rdO (by exact .tail _ (.head _))) (by intro hc; omega)) ?_
                refine zS rfl (q_fieldEl rfl rfl (rdO (by exact .tail _ (.head _))) (by intro hc; omega)) ?_
                refine zS rfl (q_loadF rfl rfl rfl (rdO (by exact .tail _ (.head _))) (by intro hc; omega) rfl) ?_
                refine sw_x rfl rfl rfl (e_append (α := ByteArray) (i := 0) rfl (.k rfl (.k rfl (.nil))) rfl rfl (stA (by assumption)) (by simp only [List.length_nil]; omega) rfl) (fun s232 => ?_)
                refine sw_x rfl rfl rfl (e_build1 (α := SlV) rfl rfl rfl rfl) (fun s233 => ?_)
                refine sw_x rfl rfl rfl (e_append (i := 3) rfl (.k rfl (.k rfl (.nil))) rfl rfl (rdO (by exact .head _)) (by first | omega | (simp only [List.length_set, List.length_append, List.length_cons, List.length_nil, List.length_replicate, List.length_take, List.length_drop, List.length_map]; omega)) rfl) (fun s234 => ?_)
                refine zS rfl (q_assign rfl rfl) (sw_nil (post_then (cw_seq (cw_region (zS rfl (q_move rfl rfl) (zS rfl (q_move rfl rfl) (zS rfl (q_move rfl rfl) ?_)))))))
                refine zS rfl (q_indexN rfl rfl rfl (rdO (by exact .tail _ (.tail _ (.head _)))) (by intro hc; omega)) ?_
                refine zS rfl (q_fieldEl rfl rfl (rdO (by exact .tail _ (.tail _ (.head _)))) (by intro hc; omega)) ?_
                refine zS rfl (q_loadF rfl rfl rfl (rdO (by exact .tail _ (.tail _ (.head _)))) (by intro hc; omega) rfl) ?_
                refine zS rfl (q_len rfl (.k rfl (.nil)) (stA (by assumption))) ?_
                refine zS rfl (q_add rfl rfl rfl (by intro hc; omega)) ?_
                refine zS rfl (q_assign rfl rfl) (sw_nil (post_then (cw_exit (post_blk_ne rfl (post_then_x (post_then_x (post_blk_eq (post_blk (post_then (cw_region (zS rfl (q_move rfl rfl) ?_)))))))))))
                refine zS rfl (q_add rfl rfl rfl (by intro hc; omega)) ?_
                refine zS rfl (q_assign rfl rfl) (sw_nil ?_)
                refine post_next ((i + 1, k + (nth (offers p cc) X).pl.length), (s234, vs2 ++ [s232], ll ++ [(nth (offers p cc) X).pl])) (by exact .cons rfl (.cons rfl (.cons rfl (.cons rfl (.cons rfl (.cons rfl (.cons rfl .nil))))))) (fun w' h => ?_) ⟨by simp only; omega, h9'.1, by simp; omega, by simp only; rw [hD]; exact hy4, by simp only; rw [hpt, List.append_assoc]; rfl⟩ (by simp only; omega)
                have hA : Cl w [] (ownL 9 s232.v (nth (offers p cc) X).pl :: ownL 68 s176.v (offers p cc) :: ownL 23 s234.v (vs2 ++ [s232]) :: frz (RdR vs2 ll) :: ownL 3 (nth V i).v (F i) :: ownL 3 (nth V (i + 1)).v (F (i + 1)) :: ownL 116 s25.v V :: rowsO2 3 V F i (i + 1)) w' := h.tail
                have h11 := (hA.perm (List.Perm.swap _ _ _)).tail.perm ((List.Perm.swap _ _ _).cons _)
                have h12 : Cl w [] (frz (RdR (vs2 ++ [s232]) (ll ++ [(nth (offers p cc) X).pl])) :: (ownL 23 s234.v (vs2 ++ [s232]) :: ownL 3 (nth V i).v (F i) :: ownL 3 (nth V (i + 1)).v (F (i + 1)) :: ownL 116 s25.v V :: rowsO2 3 V F i (i + 1))) w' := Cl.frz (H := [ownL 9 s232.v (nth (offers p cc) X).pl, frz (RdR vs2 ll)]) h11 fun w' bs ⟨b1, _, _, k1, b2, _, _, k2, _⟩ => rdR_snoc (frz_here k2) (ownL.rd k1)
                exact h12.perm ((List.Perm.swap _ _ _).trans (((perm_in2 (rowsF_out2 (by omega) (by omega) (by omega)).symm).cons _).cons _))
              · have hch : ¬ fx (nth (offers p cc) X) = D i k := by
                  simp only [Bool.and_eq_false_iff, decide_eq_false_iff_not] at h10
                  rw [hfxx]
                  by_cases a1 : 0 ≤ D (i + 1) (k + (nth (offers p cc) X).pl.length)
                  · rw [if_pos ⟨h9, a1⟩]
                    rcases h10 with h10 | h10
                    · exact absurd a1 h10
                    · exact h10
                  · rw [if_neg (fun h => a1 h.2)]; omega
                refine cw_skip (post_blk (post_then (cw_region (zS rfl (q_move rfl rfl) ?_))))
                refine zS rfl (q_add rfl rfl rfl (by intro hc; omega)) ?_
                refine zS rfl (q_assign rfl rfl) (sw_nil ?_)
                exact post_next (X + 1) (by exact .cons rfl (.cons rfl (.cons rfl (.cons rfl (.cons rfl (.cons rfl (.cons rfl (.cons rfl (.cons rfl .nil))))))))) (fun w' h => h) ⟨by omega, fun z hz => by
                  rcases Nat.lt_or_ge z X with b1 | b1
                  · exact hno z b1
                  · have : z = X := by omega
                    subst this; exact hch⟩ (by omega)
            · have hch : ¬ fx (nth (offers p cc) X) = D i k := by
                rw [hfxx, if_neg (fun h => by rw [h.1] at h9; cases h9)]; omega
              refine cw_skip (post_blk (post_then (cw_region (zS rfl (q_move rfl rfl) ?_))))
              refine zS rfl (q_add rfl rfl rfl (by intro hc; omega)) ?_
              refine zS rfl (q_assign rfl rfl) (sw_nil ?_)
              exact post_next (X + 1) (by exact .cons rfl (.cons rfl (.cons rfl (.cons rfl (.cons rfl (.cons rfl (.cons rfl (.cons rfl (.cons rfl .nil))))))))) (fun w' h => h) ⟨by omega, fun z hz => by
                rcases Nat.lt_or_ge z X with b1 | b1
                · exact hno z b1
                · have : z = X := by omega
                  subst this; exact hch⟩ (by omega)
          · exfalso
            have hX' : X = (offers p cc).length := by simp only [decide_eq_false_iff_not] at h8; omega
            have h6 := List.find?_some hy1
            obtain ⟨z, hz1, hz2⟩ := List.getElem_of_mem hy2
            refine hno z (by omega) ?_
            rw [nth_get hz1, hz2]
            simpa using h6
        · have hin : i = n := by simp only [decide_eq_false_iff_not] at h7; omega
          rw [hin, ← hne, List.drop_length] at hpt
          have hpt2 : pathC p ws l = ll := by rw [hpt]; simp [pathC]
          refine cw_c (C' := Cl w [] (ownL 23 so.v vs2 :: frz (RdR vs2 ll) :: ownL 3 (nth V 0).v (F 0) :: ownL 116 s25.v V :: rowsO 3 V F 0)) (fun w' hw => hw.perm (((perm_in1 (rowsF_out (by omega)).symm).cons _).cons _).symm) ?_
          refine cw_exit (post_then_x (post_then_x (post_blk_eq (post_then (cw_seq ?_)))))
          refine cw_region_q mixed_Tryz (by kernel_rfl) ?_
          refine zq rfl (q_move rfl rfl) (zq rfl (q_move rfl rfl) ?_)
          refine zq rfl (q_indexN rfl rfl rfl (rdO (by exact .tail _ (.tail _ (.tail _ (.head _))))) (by intro hc; (simp only [List.length_set, List.length_append, List.length_cons, List.length_nil, List.length_replicate, List.length_take, List.length_drop, List.length_map]; omega))) ?_
          refine zq rfl (q_loadEl rfl rfl rfl (rdO (by exact .tail _ (.tail _ (.tail _ (.head _))))) (by intro hc; (simp only [List.length_set, List.length_append, List.length_cons, List.length_nil, List.length_replicate, List.length_take, List.length_drop, List.length_map]; omega))) ?_
          refine zq rfl (q_indexN rfl rfl rfl (rdO (by exact .tail _ (.tail _ (.head _)))) (by intro hc; (simp only [List.length_set, List.length_append, List.length_cons, List.length_nil, List.length_replicate, List.length_take, List.length_drop, List.length_map]; omega))) ?_
          refine zq rfl (q_loadEl rfl rfl rfl (rdO (by exact .tail _ (.tail _ (.head _)))) (by intro hc; (simp only [List.length_set, List.length_append, List.length_cons, List.length_nil, List.length_replicate, List.length_take, List.length_drop, List.length_map]; omega))) ?_
          refine zq rfl (q_assign rfl rfl) (zq rfl (q_assign rfl rfl) (qw_end (post_then (cw_ret (post_ret2 rfl (resOk_tmp rfl) (resOk_tmp rfl) ?_)))))
          refine fun w' hw => ⟨(so, vs2), ?_, trivial, ?_⟩
          · rw [← hD00, ← h00]; rfl
          · rw [hpt2]
            have h12 : Cl w [] (frz (fun w => RdL so.v vs2 w ∧ RdR vs2 ll w) :: (ownL 3 (nth V 0).v (F 0) :: ownL 116 s25.v V :: rowsO 3 V F 0)) w' := Cl.frz (H := [ownL 23 so.v vs2, frz (RdR vs2 ll)]) hw fun w' bs ⟨b1, _, _, k1, b2, _, _, k2, _⟩ => ⟨ownL.rd k1, frz_here k2⟩
            exact Cl.sel (.take 0 rfl (.nil _)) w' h12
end Go.Proofs.YtkmbliojafefdaaGreatDoor

set_option autoImplicit false
set_option maxRecDepth 100000
namespace Go.Proofs.YtkmbliojafefdaaGreatDoor
open Go.Sx
open Enc (enc val)
def exR (sw : SlV) (vs : List SlV) (ws : List Rn) (P : List (List ByteArray)) (i : Nat) : XR := ⟨sw, i, nth vs i, ws, nth P i⟩
theorem evR_exR (sw : SlV) (vs : List SlV) (ws : List Rn) (P : List (List ByteArray)) (n : Nat) : evR ((List.range n).map (exR sw vs ws P)) = (List.range n).map (evAt ws P) := by
  unfold evR
  rw [List.map_map]
  rfl
theorem examples_spec (sp : SlV) (p : List Pr) (u : Sp) (hpn : p.length ≤ 100000) (hcost : CostOk p) (hpl : ∀ x ∈ p, x.pl.length ≤ 1000) (hwk : wordOk u.word = true) (hwn : u.word.size ≤ 60) (hm : u.pl.length ≤ 800) (w : World) (hT : Stb w [] Tab) (hp : Stb w [] (RdL sp.v p)) (hpi : Stb w [] fun w' => ∀ u ∈ p, PrIn u w') (hu : Stb w [] (SpIn u)) :
    Calls Tryz.prog 34 #[sp.v, val u] w fun e w' => ∃ y : SlV × List XR, e = .returned y.1.v ∧ (evR y.2 = evU p u ∧ ∀ e ∈ y.2, RxOk e) ∧ Cl w [] [Sx.frz fun w => RdL y.1.v y.2 w ∧ ∀ e ∈ y.2, RxIn e w] w' := by
  obtain ⟨ws, hws⟩ : ∃ ws, runes u.word = ws := ⟨_, rfl⟩
  have hwl : ws.length ≤ 60 := by rw [← hws]; have := runes_len_le u.word; omega
  have hlr := lettersR_ok hwk
  refine calls_cw (vs := [_, _]) Tryz.func34 rfl Tryz.ntmps34 rfl (Cl.start0 w) (cw_seq (cw_region ?_))
  refine sw_x rfl rfl rfl (e_box rfl rfl rfl) (fun b3 => ?_)
  refine zS rfl (q_assign rfl rfl) (sw_nil (post_then (cw_seq (cw_region (zS rfl (q_fieldAddr rfl rfl) ?_)))))
  refine zS rfl (q_loadC rfl rfl (by exact .head _) rfl) ?_
  refine sw_x rfl rfl rfl (e_call (CanCall.mk Tryz.call21) rfl (.k rfl (.nil)) (fun w1 hw => refLetters_spec u.word w1 (by omega) (stb_arg hw hT))) (fun sw => ?_)
  refine sw_imp fun _ => ?_
  rw [hlr, hws]
  refine zS rfl (q_move rfl rfl) (zS rfl (q_extract rfl rfl rfl) (zS rfl (q_extract rfl rfl rfl) (zS rfl (q_assign rfl rfl) (zS rfl (q_assign rfl rfl) (sw_nil (post_then (cw_seq (cw_region (zS rfl (q_move rfl rfl) (zS rfl (q_move rfl rfl) (zS rfl (q_fieldAddr rfl rfl) ?_)))))))))))
  refine zS rfl (q_loadC rfl rfl (by exact .tail _ (.head _)) rfl) ?_
  refine sw_x rfl rfl rfl (e_call (CanCall.mk Tryz.call24) rfl (.k rfl (.k rfl (.k rfl (.nil)))) (fun w1 hw => refAlign_spec2 sp sw u.p p ws u.pl (by omega) (by omega) hpn hcost hpl w1 (stb_arg hw hp) (stb_arg hw hpi) (by exact stb_own hw (by exact .head _)) (stb_arg hw hu))) (fun y => ?_)
  refine sw_imp fun _ => ?_
  obtain ⟨sa, vs⟩ := y
  dsimp only
  obtain ⟨P, hP⟩ : ∃ P, (if 0 ≤ leastC p ws u.pl then pathC p ws u.pl else []) = P := ⟨_, rfl⟩
  rw [hP]
  have hPn : P.length ≤ ws.length ∧ (0 < P.length → 0 ≤ leastC p ws u.pl ∧ P.length = ws.length) ∧ (∀ q ∈ P, q.length ≤ 1000) := by
    rw [← hP]
    split
    · rename_i h0
      obtain ⟨k1, k2⟩ := path_ok h0
      exact ⟨by omega, fun _ => ⟨h0, k1⟩, fun q hq => by obtain ⟨x, hx, rfl⟩ := k2 q hq; exact hpl x hx⟩
    · exact ⟨Nat.zero_le _, fun h => by simp at h, fun q hq => by simp at hq⟩
  have hPe : (List.range P.length).map (evAt ws P) = evU p u := by
    unfold evU alOk
    rw [hws]
    by_cases h0 : 0 ≤ leastC p ws u.pl
    · rw [if_pos h0] at hP
      rw [if_pos (by simpa using h0)]
      unfold evOf alP alOk
      rw [hws, if_pos (by simpa using h0), hP]
      rw [← hP, (path_ok h0).1]
    · rw [if_neg h0] at hP
      rw [if_neg (by simpa using h0), ← hP]; rfl
  obtain ⟨k1, k2, k3⟩ := hPn
  refine sw_pureP (p := vs.length = P.length) (fun w1 h1 => (rd_frz (R := fun w => RdL sa.v vs w ∧ RdR vs P w) h1 (.head _)).2.1) fun hvl => (zS rfl (q_move rfl rfl) (zS rfl (q_extract rfl rfl rfl) (zS rfl (q_extract rfl rfl rfl) (zS rfl (q_assign rfl rfl) (zS rfl (q_assign rfl rfl) (sw_nil (post_then (cw_seq (cw_region (zS rfl (q_assign rfl rfl) (sw_nil (post_then (cw_seq (cw_seq (cw_region (zS rfl (q_assign rfl rfl) (sw_nil (post_then (cw_block ?_)))))))))))))))))))
  refine cw_loop (S := Nat × SlV) (fun y => [(3, [], .pointer (some ⟨b3, 0, none⟩)), (5, [], sw.v), (7, [], sa.v), (8, [], .int .i64 (leastC p ws u.pl)), (9, [], y.2.v), (10, [], .int .i64 y.1)]) (fun y => Cl w [] [ownL 58 y.2.v ((List.range y.1).map (exR sw vs ws P)), Sx.frz (fun w => RdL sa.v vs w ∧ RdR vs P w), ownL 21 sw.v ws, blk b3 (enc u) 56]) (fun y => y.1 ≤ P.length) (fun y => P.length - y.1) (0, ⟨none, 0, 0⟩) (Nat.zero_le _) (by exact .cons rfl (.cons rfl (.cons rfl (.cons rfl (.cons rfl (.cons rfl .nil)))))) (fun w' h => Cl.addNil (α := XR) 58 ((Cl.sel (by exact .take 0 rfl (.take 0 rfl (.take 0 rfl (.nil _))))) _ h)) ?_
  rintro ⟨i, so⟩ hi
  dsimp only at hi ⊢
  have hvs : ∀ w1, Cl w [] [ownL 58 so.v ((List.range i).map (exR sw vs ws P)), Sx.frz (fun w => RdL sa.v vs w ∧ RdR vs P w), ownL 21 sw.v ws, blk b3 (enc u) 56] w1 → RdL sa.v vs w1 := fun w1 h => (rd_frz (R := fun w => RdL sa.v vs w ∧ RdR vs P w) h (by exact .tail _ (.head _))).1
  refine cw_seq (cw_seq (cw_region (zS rfl (q_move rfl rfl) (zS rfl (q_move rfl rfl) ?_))))
  refine zS rfl (q_len rfl (.k rfl (.nil)) (by assumption)) ?_
  refine zS rfl (q_lss rfl rfl rfl) (zS rfl (q_move rfl rfl) (zS rfl (q_move rfl rfl) (zS rfl (q_geq rfl rfl rfl) (zS rfl (q_and2 rfl rfl rfl) (sw_nil (post_then ?_))))))
  refine cw_cond rfl (fun h => ?_) (fun h => ?_)
  · have hi' : i < P.length := by simp at h; omega
    have hck := k2 (by omega)
    refine cw_skip (post_then (cw_seq (cw_block (cw_region (zS rfl (q_move rfl rfl) (zS rfl (q_move rfl rfl) (zS rfl (q_move rfl rfl) (zS rfl (q_move rfl rfl) (zS rfl (q_move rfl rfl) ?_)))))))))
    refine zS rfl (q_indexN rfl rfl rfl (by assumption) (by intro hc; omega)) ?_
    refine zS rfl (q_loadEl rfl rfl rfl (by assumption) (by intro hc; omega)) ?_
    refine zS rfl (q_build rfl (.k rfl (.k rfl (.k rfl (.nil)))) rfl) ?_
    refine sw_x rfl rfl rfl (e_buildL (α := XR) (l := [exR sw vs ws P i]) rfl (.k rfl (.nil)) rfl rfl rfl rfl) (fun s43 => ?_)
    refine sw_x rfl rfl rfl (e_append (α := XR) (i := 1) rfl (.k rfl (.k rfl (.nil))) rfl rfl (rdO (by exact .head _)) (by simp; omega) rfl) (fun s44 => ?_)
    refine zS rfl (q_assign rfl rfl) (sw_nil (post_blk (post_then (cw_region (zS rfl (q_move rfl rfl) ?_)))))
    refine zS rfl (q_add rfl rfl rfl (by intro hc; omega)) ?_
    refine zS rfl (q_assign rfl rfl) (sw_nil ?_)
    refine post_next (i + 1, s44) (by exact .cons rfl (.cons rfl (.cons rfl (.cons rfl (.cons rfl (.cons rfl .nil)))))) (fun w' h => ?_) (by simp only; omega) (by simp only; omega)
    dsimp only
    rw [List.range_succ, List.map_append]
    exact (Cl.sel (by exact .take 1 rfl (.take 1 rfl (.take 1 rfl (.take 1 rfl (.nil _)))))) _ h
  · have hi' : i = P.length := by
      simp at h
      rcases Nat.eq_or_lt_of_le hi with e | e
      · exact e
      · have := (k2 (by omega)).1; omega
    subst hi'
    refine cw_exit (post_then_x (post_then_x (post_blk_eq (post_then (cw_seq (cw_region (zS rfl (q_move rfl rfl) (zS rfl (q_assign rfl rfl) (sw_nil (post_then (cw_ret (post_ret1 rfl (resOk_tmp rfl) ?_))))))))))))
    refine fun w' h => ⟨(so, (List.range P.length).map (exR sw vs ws P)), rfl, ⟨by rw [evR_exR, hPe], fun e he => ?_⟩, ?_⟩
    · obtain ⟨i, hi, rfl⟩ := List.mem_map.1 he
      rw [List.mem_range] at hi
      exact ⟨k3 _ (nth_mem hi), ⟨by show (0 : Int) ≤ (i : Int); omega, by show (i : Int) ≤ 1000; omega⟩, by show (i : Int) < ws.length; omega⟩
    · have h1 : Cl w [] ([ownL 58 so.v ((List.range P.length).map (exR sw vs ws P)), Sx.frz (fun w => RdL sa.v vs w ∧ RdR vs P w), ownL 21 sw.v ws] ++ []) w' := (Cl.sel (by exact .take 0 rfl (.take 0 rfl (.take 0 rfl (.nil _))))) _ h
      exact Cl.frz h1 fun w bs ⟨_, _, _, j1, _, _, _, j2, _, _, _, j3, _⟩ => ⟨ownL.rd j1, fun e he => by
        obtain ⟨i, hi, rfl⟩ := List.mem_map.1 he
        rw [List.mem_range] at hi
        exact ⟨ownL.rd j3, (frz_here j2).2.2 i hi⟩⟩
end Go.Proofs.YtkmbliojafefdaaGreatDoor

set_option autoImplicit false
set_option maxRecDepth 100000
namespace Go.Proofs.YtkmbliojafefdaaGreatDoor
open Go.Sx
open Enc (enc val)
theorem map_eq_iff {α β : Type} [Inhabited α] (f : α → β) {a b : List α} : a.map f = b.map f ↔ a.length = b.length ∧ ∀ k, k < a.length → f (nth a k) = f (nth b k) := by
  constructor
  · intro h
    have hl : a.length = b.length := by simpa using congrArg List.length h
    refine ⟨hl, fun k hk => ?_⟩
    have h1 := congrArg (fun z => z[k]?) h
    simp only [List.getElem?_map, List.getElem?_eq_getElem hk, List.getElem?_eq_getElem (show k < b.length by omega), Option.map_some, Option.some.injEq] at h1
    rw [nth_get hk, nth_get (by omega)]; exact h1
  · intro ⟨hl, h⟩
    refine List.ext_getElem (by simpa using hl) fun k h1 h2 => ?_
    have := h k (by simpa using h1)
    rw [nth_get (by simpa using h1), nth_get (by simpa using h2)] at this
    simpa using this
def rlP (rl : List Chc) : List (List Cond × List ByteArray) := rl.map fun u => (u.tl, u.pl)
end Go.Proofs.YtkmbliojafefdaaGreatDoor

set_option autoImplicit false
set_option maxRecDepth 100000
namespace Go.Proofs.YtkmbliojafefdaaGreatDoor
open Go.Sx
open Enc (enc val)
end Go.Proofs.YtkmbliojafefdaaGreatDoor

set_option autoImplicit false
set_option maxRecDepth 100000
namespace Go.Proofs.YtkmbliojafefdaaGreatDoor
open Go.Sx
open Enc (enc val)
def brP (u : Sp) : Bool := decide (u.word.size ≤ 12) && decide (u.pl.length ≤ 20)
def brf (l : List Sp) : Bool := (l.take 21).all brP
theorem nth_take {α : Type} [Inhabited α] {l : List α} {n k : Nat} (h : k < n) : nth (l.take n) k = nth l k := by
  by_cases h1 : k < l.length
  · rw [nth_get h1, nth_get (by rw [List.length_take]; omega), List.getElem_take]
  · have e : ∀ m : List α, m.length ≤ k → nth m k = default := fun m hm => by
      unfold nth
      simp [List.getElem?_eq_none hm]
    rw [e _ (by rw [List.length_take]; omega), e _ (by omega)]
theorem brief_spec (sv : Value) (l : List Sp) (hz : ∀ u ∈ l, u.word.size ≤ 9223372036854775807) (w : World) (hs : Stb w [] (RdL sv l)) (hp : Stb w [] fun w' => ∀ u ∈ l, SpIn u w') : Calls Tryz.prog 28 #[sv] w fun e w' => e = .returned (.bool (brf l)) ∧ Cl w [] [] w' := by
  have hL := rd_len hs.here
  refine calls_cw (vs := [_]) Tryz.func28 rfl Tryz.ntmps28 rfl (Cl.start0 w) (cw_seq (cw_region (zS rfl (q_assign rfl rfl) (sw_nil (post_then (cw_seq (cw_seq (cw_region (zS rfl (q_assign rfl rfl) (sw_nil (post_then (cw_block ?_))))))))))))
  refine cw_loop (S := Nat) (fun k => [(0, [], sv), (3, [], .int .i64 k)]) (fun _ => Cl w [] []) (fun k => k ≤ l.length ∧ k ≤ 21 ∧ ∀ i, i < k → brP (nth l i) = true) (fun k => l.length - k) 0 ⟨by omega, by omega, fun j hj => by omega⟩ (by exact .cons rfl (.cons rfl .nil)) (Cl.sel (by exact .nil _)) ?_
  rintro k ⟨hk, hk21, hbe⟩
  refine cw_seq (cw_seq (cw_region (zS rfl (q_move rfl rfl) (zS rfl (q_move rfl rfl) ?_))))
  refine zS rfl (q_len rfl (.k rfl (.nil)) (stA (by assumption))) ?_
  refine zS rfl (q_lss rfl rfl rfl) (zS rfl (q_move rfl rfl) (zS rfl (q_move rfl rfl) (zS rfl (q_leq rfl rfl rfl) (zS rfl (q_and2 rfl rfl rfl) (sw_nil (post_then ?_))))))
  refine cw_cond rfl (fun h2 => ?_) (fun h2 => ?_)
  · have hk' : k < l.length ∧ k < 21 := by simp at h2; omega
    have hx := rd_stb (hp.here _ (nth_mem hk'.1))
    have hzk := hz _ (nth_mem hk'.1)
    refine cw_skip (post_then (cw_seq (cw_block (cw_seq (cw_region (zS rfl (q_move rfl rfl) (zS rfl (q_move rfl rfl) ?_)))))))
    refine zS rfl (q_indexN rfl rfl rfl (stA (by assumption)) (by intro hc; omega)) ?_
    refine zS rfl (q_fieldEl rfl rfl (stA (by assumption)) (by intro hc; omega)) ?_
    refine zS rfl (q_loadF rfl rfl rfl (stA (by assumption)) (by intro hc; omega) rfl) ?_
    refine zS rfl (q_lenS rfl (.k rfl (.nil)) Tryz.underlying9) (zS rfl (q_gtr rfl rfl rfl) (zS rfl (q_move rfl rfl) (zS rfl (q_move rfl rfl) (zS rfl (q_move rfl rfl) ?_))))
    refine zS rfl (q_indexN rfl rfl rfl (stA (by assumption)) (by intro hc; omega)) ?_
    refine zS rfl (q_fieldEl rfl rfl (stA (by assumption)) (by intro hc; omega)) ?_
    refine zS rfl (q_loadF rfl rfl rfl (stA (by assumption)) (by intro hc; omega) rfl) ?_
    refine zS rfl (q_len rfl (.k rfl (.nil)) (stA (by assumption))) ?_
    refine zS rfl (q_gtr rfl rfl rfl) (zS rfl (q_or2 rfl rfl rfl) (sw_nil (post_then ?_)))
    refine cw_cond rfl (fun h3 => ?_) (fun h3 => ?_)
    · have e0 : brP (nth l k) = false := by
        unfold brP
        simp at h3 ⊢; omega
      have e1 : brf l = false := by
        unfold brf
        exact all_no (k := k) (by rw [List.length_take]; omega) (by rw [nth_take hk'.2]; exact e0)
      refine cw_seq (cw_region (zS rfl (q_assign rfl rfl) (sw_nil (post_then (cw_ret (post_blk_r (post_then_r (post_then_r (post_blk_r (post_then_r (post_ret1 rfl (resOk_tmp rfl) ?_)))))))))))
      exact fun w' hw => ⟨by rw [e1], (Cl.sel (by exact .nil _)) _ hw⟩
    · have e1 : brP (nth l k) = true := by
        unfold brP
        simp at h3 ⊢; omega
      refine cw_skip (post_blk (post_then (cw_region (zS rfl (q_move rfl rfl) ?_))))
      refine zS rfl (q_add rfl rfl rfl (by intro hc; omega)) ?_
      refine zS rfl (q_assign rfl rfl) (sw_nil ?_)
      exact post_next (k + 1) (by exact .cons rfl (.cons rfl .nil)) (Cl.sel (by exact .nil _)) ⟨by omega, by omega, fun i hi => by
        rcases Nat.lt_or_ge i k with h6 | h6
        · exact hbe i h6
        · have : i = k := by omega
          subst this; exact e1⟩ (by omega)
  · have hk' : k = l.length ∨ k = 21 := by simp at h2; omega
    have e1 : brf l = true := by
      unfold brf
      refine all_yes fun i hi => ?_
      rw [List.length_take] at hi
      rw [nth_take (by omega)]
      exact hbe i (by omega)
    refine cw_exit (post_then_x (post_then_x (post_blk_eq (post_then (cw_seq (cw_region (zS rfl (q_assign rfl rfl) (sw_nil (post_then (cw_ret (post_ret1 rfl (resOk_tmp rfl) ?_)))))))))))
    exact fun w' hw => ⟨by rw [e1], (Cl.sel (by exact .nil _)) _ hw⟩
theorem optE_val (l : List Sp) (p : List Pr) (o : Lrn) : optE l p o = if 3000 < l.length ∨ 1000 < p.length then 4 else if lexOk l && prsOk p && lrnB o then 0 else 2 := by
  have e1 : lexE l = if 3000 < l.length then 4 else if lexOk l then 0 else 2 := by unfold lexE lexOk; rfl
  have e2 : prsE p = if 1000 < p.length then 4 else if prsOk p then 0 else 2 := by unfold prsE prsOk; rfl
  unfold optE
  rw [e1, e2]
  by_cases h1 : 3000 < l.length <;> by_cases h2 : 1000 < p.length <;> cases h3 : lexOk l <;> cases h4 : prsOk p <;> cases h5 : lrnB o <;> simp [h1, h2] <;> decide
theorem shape_spec (sl sp : SlV) (l : List Sp) (p : List Pr) (o : Lrn) (hz : ∀ u ∈ l, u.word.size ≤ 1000 ∧ ∀ b ∈ u.pl, b.size ≤ 9223372036854775807) (hzp : ∀ u ∈ p, ∀ b ∈ u.pl, b.size ≤ 9223372036854775807) (w : World) (hT : Stb w [] Tab) (hs : Stb w [] (RdL sl.v l)) (hsi : Stb w [] fun w' => ∀ u ∈ l, SpIn u w') (hp : Stb w [] (RdL sp.v p)) (hpi : Stb w [] fun w' => ∀ u ∈ p, PrIn u w') :
    Calls Tryz.prog 30 #[sl.v, sp.v, val o] w fun e w' => e = .returned (.int .i64 (optE l p o)) ∧ Cl w [] [] w' := by
  have hL1 := rd_len hs.here
  have hL2 := rd_len hp.here
  refine calls_cw (vs := [_, _, _]) Tryz.func30 rfl Tryz.ntmps30 rfl (Cl.start0 w) (cw_seq (cw_region ?_))
  refine sw_x rfl rfl rfl (e_box rfl rfl rfl) (fun b5 => ?_)
  refine zS rfl (q_assign rfl rfl) (sw_nil (post_then (cw_seq (cw_seq (cw_region (zS rfl (q_move rfl rfl) ?_))))))
  refine zS rfl (q_len rfl (.k rfl (.nil)) (stA (by assumption))) ?_
  refine zS rfl (q_gtr rfl rfl rfl) (zS rfl (q_move rfl rfl) (zS rfl (q_move rfl rfl) ?_))
  refine zS rfl (q_len rfl (.k rfl (.nil)) (stA (by assumption))) ?_
  refine zS rfl (q_gtr rfl rfl rfl) (zS rfl (q_or2 rfl rfl rfl) (sw_nil (post_then ?_)))
  refine cw_cond rfl (fun h => ?_) (fun h => ?_)
  · have e1 : optE l p o = 4 := by rw [optE_val, if_pos (by simp at h; omega)]
    refine cw_seq (cw_region (zS rfl (q_assign rfl rfl) (sw_nil (post_then (cw_ret (post_then_r (post_ret1 rfl (resOk_tmp rfl) ?_)))))))
    exact fun w' hw => ⟨by rw [e1], (Cl.sel (by exact .nil _)) _ hw⟩
  · have e0 : optE l p o = if lexOk l && prsOk p && lrnB o then 0 else 2 := by rw [optE_val, if_neg (by simp at h; omega)]
    refine cw_skip (post_then (cw_seq (cw_seq (cw_region (zS rfl (q_move rfl rfl) (sw_step rfl rfl rfl (q_call (CanCall.mk Tryz.call51) rfl (.k rfl (.nil)) (fun _ w hw => callq hw (refLexicon_spec _ l hz w (stb_arg hw hT) (stb_arg hw hs) (stb_arg hw hsi)))) (zS rfl (q_not rfl rfl) (zS rfl (q_move rfl rfl) (zS rfl (q_move rfl rfl) (sw_step rfl rfl rfl (q_call (CanCall.mk Tryz.call22) rfl (.k rfl (.nil)) (fun _ w hw => callq hw (refPairs_spec _ p hzp w (stb_arg hw hp) (stb_arg hw hpi)))) (zS rfl (q_not rfl rfl) (zS rfl (q_or2 rfl rfl rfl) (zS rfl (q_move rfl rfl) (zS rfl (q_fieldAddr rfl rfl) ?_))))))))))))))
    refine zS rfl (q_loadC rfl rfl (by exact .head _) rfl) ?_
    refine zS rfl (q_lss rfl rfl rfl) (zS rfl (q_or2 rfl rfl rfl) (zS rfl (q_move rfl rfl) (zS rfl (q_fieldAddr rfl rfl) ?_)))
    refine zS rfl (q_loadC rfl rfl (by exact .head _) rfl) ?_
    refine zS rfl (q_gtr rfl rfl rfl) (zS rfl (q_or2 rfl rfl rfl) (zS rfl (q_move rfl rfl) (zS rfl (q_fieldAddr rfl rfl) ?_)))
    refine zS rfl (q_loadC rfl rfl (by exact .head _) rfl) ?_
    refine zS rfl (q_lss rfl rfl rfl) (zS rfl (q_or2 rfl rfl rfl) (zS rfl (q_move rfl rfl) (zS rfl (q_fieldAddr rfl rfl) ?_)))
    refine zS rfl (q_loadC rfl rfl (by exact .head _) rfl) ?_
    refine zS rfl (q_gtr rfl rfl rfl) (zS rfl (q_or2 rfl rfl rfl) (zS rfl (q_move rfl rfl) (zS rfl (q_fieldAddr rfl rfl) ?_)))
    refine zS rfl (q_loadC rfl rfl (by exact .head _) rfl) ?_
    refine zS rfl (q_lss rfl rfl rfl) (zS rfl (q_or2 rfl rfl rfl) (zS rfl (q_move rfl rfl) (zS rfl (q_fieldAddr rfl rfl) ?_)))
    refine zS rfl (q_loadC rfl rfl (by exact .head _) rfl) ?_
    refine zS rfl (q_gtr rfl rfl rfl) (zS rfl (q_or2 rfl rfl rfl) (sw_nil (post_then ?_)))
    refine cw_cond rfl (fun h2 => ?_) (fun h2 => ?_)
    · have e1 : optE l p o = 2 := by
        rw [e0, if_neg]
        unfold lrnB
        intro h3
        simp only [Bool.and_eq_true, decide_eq_true_eq] at h3
        simp [h3.1.1, h3.1.2] at h2
        omega
      refine cw_seq (cw_region (zS rfl (q_assign rfl rfl) (sw_nil (post_then (cw_ret (post_then_r (post_ret1 rfl (resOk_tmp rfl) ?_)))))))
      exact fun w' hw => ⟨by rw [e1], (Cl.sel (by exact .nil _)) _ hw⟩
    · have e1 : optE l p o = 0 := by
        rw [e0, if_pos]
        unfold lrnB
        simp only [Bool.and_eq_true, decide_eq_true_eq]
        simp at h2
        exact ⟨⟨h2.1.1.1.1.1.1.1, h2.1.1.1.1.1.1.2⟩, by omega⟩
      refine cw_skip (post_then (cw_seq (cw_region (zS rfl (q_assign rfl rfl) (sw_nil (post_then (cw_ret (post_ret1 rfl (resOk_tmp rfl) ?_))))))))
      exact fun w' hw => ⟨by rw [e1], (Cl.sel (by exact .nil _)) _ hw⟩
theorem brf_z {l : List Sp} (hl : l.length ≤ 20) (h : brf l = true) : ∀ u ∈ l, u.word.size ≤ 12 ∧ u.pl.length ≤ 20 := fun u hu => by
  unfold brf at h
  rw [List.take_of_length_le (by omega), List.all_eq_true] at h
  have := h u hu
  unfold brP at this
  simpa using this
theorem abc_few {l : List Sp} {p : List Pr} {n : Nat} (hl : l.length ≤ n) (h : ∀ u ∈ l, u.word.size ≤ 12) : ((entC p l).flatMap evOf).length ≤ n * 12 ∧ (abcC ((entC p l).flatMap evOf)).length ≤ n * 12 := by
  have h1 := evs_len (p := p) (l := l) (n := 12) fun u hu => by have := h u hu; have := runes_len_le u.word; omega
  have h2 := abc_le ((entC p l).flatMap evOf)
  have h3 : l.length * 12 ≤ n * 12 := Nat.mul_le_mul_right 12 hl
  omega
theorem lawLex_len {l : List Sp} {most : Int} (h : lawLex l most = true) : (l.length : Int) ≤ most ∨ 3000 < l.length := by
  unfold lawLex at h
  simp only [Bool.and_eq_true, Bool.not_eq_true', Bool.or_eq_false_iff, Bool.and_eq_false_iff, decide_eq_false_iff_not] at h
  omega
theorem optE_long {l : List Sp} {p : List Pr} {o : Lrn} (h : optE l p o = 0) : l.length ≤ 3000 ∧ p.length ≤ 1000 := by
  rw [optE_val] at h
  split at h
  · cases h
  · omega
end Go.Proofs.YtkmbliojafefdaaGreatDoor
