import Derived.Test.YtkmbliojafefdaaGreatDoorWB6
import Derived.Test.YtkmbliojafefdaaGreatDoorRows
import Derived.LaidMore
import Derived.Lay
import Derived.Stop.Joined
import Derived.Test.YtkmbliojafefdaaGreatDoorVFaithful1

set_option autoImplicit false
set_option linter.unusedSimpArgs false
set_option linter.unusedVariables false
set_option maxRecDepth 100000
namespace Go.Proofs.YtkmbliojafefdaaGreatDoor
open Go.Sx
open Enc (enc val)
theorem lt_asym {x y : ByteArray} (h : sLt y x = true) : sLt x y = false ∧ ¬ x = y := by
  refine ⟨?_, fun e => ?_⟩
  · cases h2 : sLt x y with
    | false => rfl
    | true => have := sLt_trans h h2; rw [sLt_irr] at this; cases this
  · subst e; rw [sLt_irr] at h; cases h
theorem lt_of {x y : ByteArray} (h : sLt x y = false ∧ ¬ x = y) : sLt y x = true := by
  rcases sLt_tri x y with h1 | h1 | h1
  · rw [h1] at h; cases h.1
  · exact absurd h1 h.2
  · exact h1
end Go.Proofs.YtkmbliojafefdaaGreatDoor

set_option autoImplicit false
set_option maxRecDepth 100000
namespace Go.Proofs.YtkmbliojafefdaaGreatDoor
open Go.Sx
open Enc (enc val)
theorem all_no {α : Type} [Inhabited α] {p : α → Bool} {l : List α} {k : Nat} (hk : k < l.length) (h : p (nth l k) = false) : l.all p = false := by
  rw [List.all_eq_false]; exact ⟨_, nth_mem hk, by simp [h]⟩
theorem all_yes {α : Type} [Inhabited α] {p : α → Bool} {l : List α} (h : ∀ k, k < l.length → p (nth l k) = true) : l.all p = true := by
  rw [List.all_eq_true]
  intro x hx
  obtain ⟨k, hk, rfl⟩ := List.getElem_of_mem hx
  have := h k hk
  rwa [nth_get hk] at this
end Go.Proofs.YtkmbliojafefdaaGreatDoor

set_option autoImplicit false
set_option maxRecDepth 100000
namespace Go.Proofs.YtkmbliojafefdaaGreatDoor
open Go.Sx
open Enc (enc val)
def lawPrs (p : List Pr) : Bool := !(decide (30 < p.length) && decide (p.length ≤ 1000) || decide (1100 < p.length)) && p.all fun u => lawPh u.pl 5
theorem lawPairs_spec (sv : Value) (p : List Pr) (w : World) (hs : Stb w [] (RdL sv p)) (hp : Stb w [] fun w' => ∀ u ∈ p, PrIn u w') : Calls Tryz.prog 17 #[sv] w fun e w' => e = .returned (.bool (lawPrs p)) ∧ Cl w [] [] w' := by
  have hL := rd_len hs.here
  refine calls_cw (vs := [_]) Tryz.func17 rfl Tryz.ntmps17 rfl (Cl.start0 w) (cw_seq (cw_region (zS rfl (q_assign rfl rfl) (sw_nil (post_then (cw_seq (cw_seq (cw_region (zS rfl (q_move rfl rfl) ?_)))))))))
  refine zS rfl (q_len rfl (.k rfl (.nil)) (stA (by assumption))) ?_
  refine zS rfl (q_gtr rfl rfl rfl) (zS rfl (q_move rfl rfl) (zS rfl (q_move rfl rfl) ?_))
  refine zS rfl (q_len rfl (.k rfl (.nil)) (stA (by assumption))) ?_
  refine zS rfl (q_leq rfl rfl rfl) (zS rfl (q_and2 rfl rfl rfl) (zS rfl (q_move rfl rfl) (zS rfl (q_move rfl rfl) ?_)))
  refine zS rfl (q_len rfl (.k rfl (.nil)) (stA (by assumption))) ?_
  refine zS rfl (q_gtr rfl rfl rfl) (zS rfl (q_or2 rfl rfl rfl) (sw_nil (post_then ?_)))
  refine cw_cond rfl (fun h => ?_) (fun h => ?_)
  · have e1 : lawPrs p = false := by
      unfold lawPrs
      simp at h
      rcases h with h | h
      · rw [decide_eq_true (by omega : 30 < p.length), decide_eq_true (by omega : p.length ≤ 1000)]; simp
      · rw [decide_eq_true (by omega : 1100 < p.length)]; simp
    refine cw_seq (cw_region (zS rfl (q_assign rfl rfl) (sw_nil (post_then (cw_ret (post_then_r (post_ret1 rfl (resOk_tmp rfl) ?_)))))))
    exact fun w' hw => ⟨by rw [e1], (Cl.sel (by exact .nil _)) _ hw⟩
  · have e0 : (!(decide (30 < p.length) && decide (p.length ≤ 1000) || decide (1100 < p.length))) = true := by
      simp at h
      simp; omega
    refine cw_skip (post_then (cw_seq (cw_seq (cw_region (zS rfl (q_assign rfl rfl) (sw_nil (post_then (cw_block ?_))))))))
    refine cw_loop (S := Nat) (fun k => [(0, [], sv), (3, [], .int .i64 k)]) (fun _ => Cl w [] []) (fun k => k ≤ p.length ∧ ∀ i, i < k → lawPh (nth p i).pl 5 = true) (fun k => p.length - k) 0 ⟨by omega, fun j hj => by omega⟩ (by exact .cons rfl (.cons rfl .nil)) (Cl.sel (by exact .nil _)) ?_
    rintro k ⟨hk, hbe⟩
    refine cw_seq (cw_seq (cw_region (zS rfl (q_move rfl rfl) (zS rfl (q_move rfl rfl) ?_))))
    refine zS rfl (q_len rfl (.k rfl (.nil)) (stA (by assumption))) ?_
    refine zS rfl (q_lss rfl rfl rfl) (sw_nil (post_then ?_))
    refine cw_cond rfl (fun h2 => ?_) (fun h2 => ?_)
    · have hk' : k < p.length := by simp at h2; omega
      have hx := rd_stb (hp.here _ (nth_mem hk'))
      refine cw_skip (post_then (cw_seq (cw_block (cw_seq (cw_region (zS rfl (q_move rfl rfl) (zS rfl (q_move rfl rfl) ?_)))))))
      refine zS rfl (q_indexN rfl rfl rfl (stA (by assumption)) (by intro hc; omega)) ?_
      refine zS rfl (q_fieldEl rfl rfl (stA (by assumption)) (by intro hc; omega)) ?_
      refine zS rfl (q_loadF rfl rfl rfl (stA (by assumption)) (by intro hc; omega) rfl) ?_
      refine sw_step rfl rfl rfl (q_call (CanCall.mk Tryz.call18) rfl (.k rfl (.k rfl (.nil))) (fun _ w hw => callq hw (lawPhones_spec _ _ _ (by omega) w (by exact stb_arg hw (by assumption))))) ?_
      refine zS rfl (q_not rfl rfl) (sw_nil (post_then ?_))
      refine cw_cond rfl (fun h3 => ?_) (fun h3 => ?_)
      · have e1 : lawPrs p = false := by
          unfold lawPrs
          rw [all_no hk' (by simpa using h3)]
          simp
        refine cw_seq (cw_region (zS rfl (q_assign rfl rfl) (sw_nil (post_then (cw_ret (post_blk_r (post_then_r (post_then_r (post_blk_r (post_then_r (post_ret1 rfl (resOk_tmp rfl) ?_)))))))))))
        exact fun w' hw => ⟨by rw [e1], (Cl.sel (by exact .nil _)) _ hw⟩
      · have e1 : lawPh (nth p k).pl 5 = true := by simpa using h3
        refine cw_skip (post_blk (post_then (cw_region (zS rfl (q_move rfl rfl) ?_))))
        refine zS rfl (q_add rfl rfl rfl (by intro hc; omega)) ?_
        refine zS rfl (q_assign rfl rfl) (sw_nil ?_)
        exact post_next (k + 1) (by exact .cons rfl (.cons rfl .nil)) (Cl.sel (by exact .nil _)) ⟨by omega, fun i hi => by
          rcases Nat.lt_or_ge i k with h6 | h6
          · exact hbe i h6
          · have : i = k := by omega
            subst this; exact e1⟩ (by omega)
    · have hk' : k = p.length := by simp at h2; omega
      subst hk'
      have e1 : lawPrs p = true := by unfold lawPrs; rw [all_yes hbe, e0]; rfl
      refine cw_exit (post_then_x (post_then_x (post_blk_eq (post_then (cw_seq (cw_region (zS rfl (q_assign rfl rfl) (sw_nil (post_then (cw_ret (post_ret1 rfl (resOk_tmp rfl) ?_)))))))))))
      exact fun w' hw => ⟨by rw [e1], (Cl.sel (by exact .nil _)) _ hw⟩
theorem lawPrs_z {p : List Pr} (h : lawPrs p = true) : ∀ u ∈ p, u.pl.length ≤ 5 ∧ ∀ b ∈ u.pl, b.size ≤ 12 := fun u hu => by
  unfold lawPrs lawPh at h
  simp only [Bool.and_eq_true, List.all_eq_true, decide_eq_true_eq] at h
  have := h.2 u hu
  exact ⟨by omega, this.2⟩
def lawLex (l : List Sp) (most : Int) : Bool := !(decide (most < l.length) && decide (l.length ≤ 3000) || decide (3500 < l.length)) && l.all fun u => decide (u.word.size ≤ 60) && lawPh u.pl 130
theorem lawLex_spec (sv : Value) (l : List Sp) (most : Int) (hz : ∀ u ∈ l, u.word.size ≤ 9223372036854775807) (w : World) (hs : Stb w [] (RdL sv l)) (hp : Stb w [] fun w' => ∀ u ∈ l, SpIn u w') : Calls Tryz.prog 27 #[sv, .int .i64 most] w fun e w' => e = .returned (.bool (lawLex l most)) ∧ Cl w [] [] w' := by
  have hL := rd_len hs.here
  refine calls_cw (vs := [_, _]) Tryz.func27 rfl Tryz.ntmps27 rfl (Cl.start0 w) (cw_seq (cw_region (zS rfl (q_assign rfl rfl) (sw_nil (post_then (cw_seq (cw_seq (cw_region (zS rfl (q_move rfl rfl) ?_)))))))))
  refine zS rfl (q_len rfl (.k rfl (.nil)) (stA (by assumption))) ?_
  refine zS rfl (q_move rfl rfl) (zS rfl (q_gtr rfl rfl rfl) (zS rfl (q_move rfl rfl) (zS rfl (q_move rfl rfl) ?_)))
  refine zS rfl (q_len rfl (.k rfl (.nil)) (stA (by assumption))) ?_
  refine zS rfl (q_leq rfl rfl rfl) (zS rfl (q_and2 rfl rfl rfl) (zS rfl (q_move rfl rfl) (zS rfl (q_move rfl rfl) ?_)))
  refine zS rfl (q_len rfl (.k rfl (.nil)) (stA (by assumption))) ?_
  refine zS rfl (q_gtr rfl rfl rfl) (zS rfl (q_or2 rfl rfl rfl) (sw_nil (post_then ?_)))
  refine cw_cond rfl (fun h => ?_) (fun h => ?_)
  · have e1 : lawLex l most = false := by
      unfold lawLex
      simp at h
      rcases h with h | h
      · rw [decide_eq_true (by omega : most < l.length), decide_eq_true (by omega : l.length ≤ 3000)]; simp
      · rw [decide_eq_true (by omega : 3500 < l.length)]; simp
    refine cw_seq (cw_region (zS rfl (q_assign rfl rfl) (sw_nil (post_then (cw_ret (post_then_r (post_ret1 rfl (resOk_tmp rfl) ?_)))))))
    exact fun w' hw => ⟨by rw [e1], (Cl.sel (by exact .nil _)) _ hw⟩
  · have e0 : (!(decide (most < l.length) && decide (l.length ≤ 3000) || decide (3500 < l.length))) = true := by
      simp at h
      simp; omega
    refine cw_skip (post_then (cw_seq (cw_seq (cw_region (zS rfl (q_assign rfl rfl) (sw_nil (post_then (cw_block ?_))))))))
    refine cw_loop (S := Nat) (fun k => [(0, [], sv), (5, [], .int .i64 k)]) (fun _ => Cl w [] []) (fun k => k ≤ l.length ∧ ∀ i, i < k → (decide ((nth l i).word.size ≤ 60) && lawPh (nth l i).pl 130) = true) (fun k => l.length - k) 0 ⟨by omega, fun j hj => by omega⟩ (by exact .cons rfl (.cons rfl .nil)) (Cl.sel (by exact .nil _)) ?_
    rintro k ⟨hk, hbe⟩
    refine cw_seq (cw_seq (cw_region (zS rfl (q_move rfl rfl) (zS rfl (q_move rfl rfl) ?_))))
    refine zS rfl (q_len rfl (.k rfl (.nil)) (stA (by assumption))) ?_
    refine zS rfl (q_lss rfl rfl rfl) (sw_nil (post_then ?_))
    refine cw_cond rfl (fun h2 => ?_) (fun h2 => ?_)
    · have hk' : k < l.length := by simp at h2; omega
      have hx := rd_stb (hp.here _ (nth_mem hk'))
      have hzk := hz _ (nth_mem hk')
      refine cw_skip (post_then (cw_seq (cw_block (cw_seq (cw_region (zS rfl (q_move rfl rfl) (zS rfl (q_move rfl rfl) ?_)))))))
      refine zS rfl (q_indexN rfl rfl rfl (stA (by assumption)) (by intro hc; omega)) ?_
      refine zS rfl (q_fieldEl rfl rfl (stA (by assumption)) (by intro hc; omega)) ?_
      refine zS rfl (q_loadF rfl rfl rfl (stA (by assumption)) (by intro hc; omega) rfl) ?_
      refine zS rfl (q_lenS rfl (.k rfl (.nil)) Tryz.underlying9) (zS rfl (q_gtr rfl rfl rfl) (zS rfl (q_move rfl rfl) (zS rfl (q_move rfl rfl) (zS rfl (q_move rfl rfl) ?_))))
      refine zS rfl (q_indexN rfl rfl rfl (stA (by assumption)) (by intro hc; omega)) ?_
      refine zS rfl (q_fieldEl rfl rfl (stA (by assumption)) (by intro hc; omega)) ?_
      refine zS rfl (q_loadF rfl rfl rfl (stA (by assumption)) (by intro hc; omega) rfl) ?_
      refine sw_step rfl rfl rfl (q_call (CanCall.mk Tryz.call18) rfl (.k rfl (.k rfl (.nil))) (fun _ w hw => callq hw (lawPhones_spec _ _ _ (by omega) w (by exact stb_arg hw (by assumption))))) ?_
      refine zS rfl (q_not rfl rfl) (zS rfl (q_or2 rfl rfl rfl) (sw_nil (post_then ?_)))
      refine cw_cond rfl (fun h3 => ?_) (fun h3 => ?_)
      · have e1 : lawLex l most = false := by
          unfold lawLex
          rw [all_no hk' (by
            cases q1 : lawPh (nth l k).pl 130 <;> simp [q1] at h3 ⊢; omega)]
          simp
        refine cw_seq (cw_region (zS rfl (q_assign rfl rfl) (sw_nil (post_then (cw_ret (post_blk_r (post_then_r (post_then_r (post_blk_r (post_then_r (post_ret1 rfl (resOk_tmp rfl) ?_)))))))))))
        exact fun w' hw => ⟨by rw [e1], (Cl.sel (by exact .nil _)) _ hw⟩
      · have e1 : (decide ((nth l k).word.size ≤ 60) && lawPh (nth l k).pl 130) = true := by
          cases q1 : lawPh (nth l k).pl 130 <;> simp [q1] at h3 ⊢; omega
        refine cw_skip (post_blk (post_then (cw_region (zS rfl (q_move rfl rfl) ?_))))
        refine zS rfl (q_add rfl rfl rfl (by intro hc; omega)) ?_
        refine zS rfl (q_assign rfl rfl) (sw_nil ?_)
        exact post_next (k + 1) (by exact .cons rfl (.cons rfl .nil)) (Cl.sel (by exact .nil _)) ⟨by omega, fun i hi => by
          rcases Nat.lt_or_ge i k with h6 | h6
          · exact hbe i h6
          · have : i = k := by omega
            subst this; exact e1⟩ (by omega)
    · have hk' : k = l.length := by simp at h2; omega
      subst hk'
      have e1 : lawLex l most = true := by unfold lawLex; rw [all_yes hbe, e0]; rfl
      refine cw_exit (post_then_x (post_then_x (post_blk_eq (post_then (cw_seq (cw_region (zS rfl (q_assign rfl rfl) (sw_nil (post_then (cw_ret (post_ret1 rfl (resOk_tmp rfl) ?_)))))))))))
      exact fun w' hw => ⟨by rw [e1], (Cl.sel (by exact .nil _)) _ hw⟩
theorem lawLex_z {l : List Sp} {most : Int} (h : lawLex l most = true) : ∀ u ∈ l, u.word.size ≤ 60 ∧ u.pl.length ≤ 130 ∧ ∀ b ∈ u.pl, b.size ≤ 12 := fun u hu => by
  unfold lawLex lawPh at h
  simp only [Bool.and_eq_true, List.all_eq_true, decide_eq_true_eq] at h
  have := h.2 u hu
  exact ⟨this.1, by omega, this.2.2⟩
def prsOk (p : List Pr) : Bool := riseB prC p && p.all prOk
structure PrAt (p : List Pr) (k : Nat) : Prop where
  ok : prOk (nth p k) = true
  lt : 0 < k → (nth p (k - 1)).c < (nth p k).c ∨ (nth p (k - 1)).c = (nth p k).c ∧ ordL (nth p (k - 1)).pl (nth p k).pl < 0
theorem prC_neg {a b : Pr} : prC a b < 0 ↔ a.c < b.c ∨ a.c = b.c ∧ ordL a.pl b.pl < 0 := by
  unfold prC orL
  by_cases h : sgn (a.c - b.c) = 0
  · rw [if_pos h]
    rw [sgn_zero] at h
    unfold orL
    split
    · rw [show orL [] = 0 from rfl]; constructor <;> omega
    · constructor <;> omega
  · rw [if_neg h]
    rw [sgn_neg]
    rw [sgn_zero] at h
    constructor <;> omega
theorem prs_iff {p : List Pr} : prsOk p = true ↔ ∀ k, k < p.length → PrAt p k := by
  unfold prsOk
  simp only [Bool.and_eq_true, List.all_eq_true]
  constructor
  · intro ⟨h1, h2⟩ k hk
    exact ⟨h2 _ (nth_mem hk), fun h0 => prC_neg.1 (riseB_yes.1 h1 k (by omega) hk)⟩
  · intro h
    refine ⟨riseB_yes.2 fun k h1 h2 => prC_neg.2 ((h k h2).lt (by omega)), fun L hL => ?_⟩
    obtain ⟨k, hk, rfl⟩ := List.getElem_of_mem hL
    rw [← nth_get hk]
    exact (h k hk).ok
theorem refPairs_spec (sv : Value) (p : List Pr) (hz : ∀ u ∈ p, ∀ b ∈ u.pl, b.size ≤ 9223372036854775807) (w : World) (hs : Stb w [] (RdL sv p)) (hp : Stb w [] fun w' => ∀ u ∈ p, PrIn u w') : Calls Tryz.prog 22 #[sv] w fun e w' => e = .returned (.bool (prsOk p)) ∧ Cl w [] [] w' := by
  have hL := rd_len hs.here
  refine calls_cw (vs := [_]) Tryz.func22 rfl Tryz.ntmps22 rfl (Cl.start0 w) (cw_seq (cw_region (zS rfl (q_assign rfl rfl) (sw_nil (post_then (cw_seq (cw_seq (cw_region (zS rfl (q_assign rfl rfl) (sw_nil (post_then (cw_block ?_))))))))))))
  refine cw_loop (S := Nat) (fun k => [(0, [], sv), (3, [], .int .i64 k)]) (fun _ => Cl w [] []) (fun k => k ≤ p.length ∧ ∀ j, j < k → PrAt p j) (fun k => p.length - k) 0 ⟨by omega, fun j hj => by omega⟩ (by exact .cons rfl (.cons rfl .nil)) (Cl.sel (by exact .nil _)) ?_
  rintro k ⟨hk, hbe⟩
  refine cw_seq (cw_seq (cw_region (zS rfl (q_move rfl rfl) (zS rfl (q_move rfl rfl) ?_))))
  refine zS rfl (q_len rfl (.k rfl (.nil)) (stA (by assumption))) ?_
  refine zS rfl (q_lss rfl rfl rfl) (sw_nil (post_then ?_))
  refine cw_cond rfl (fun h => ?_) (fun h => ?_)
  · have hk' : k < p.length := by simp at h; omega
    have hno : ¬ PrAt p k → prsOk p = false := fun hn => by
      cases hx : prsOk p with
      | false => rfl
      | true => exact absurd (prs_iff.1 hx k hk') hn
    have e1 : 0 < k → ((k : Int) - 1).toNat = k - 1 := fun h0 => by omega
    have hx := rd_stb (hp.here _ (nth_mem hk'))
    have hx2 : Stb w [] (RdL (nth p ((k : Int) - 1).toNat).p.v (nth p ((k : Int) - 1).toNat).pl) := by
      by_cases h0 : 0 < k
      · rw [e1 h0]; exact rd_stb (hp.here _ (nth_mem (by omega)))
      · rw [show ((k : Int) - 1).toNat = 0 by omega]; exact rd_stb (hp.here _ (nth_mem (by omega)))
    have hzk := hz _ (nth_mem hk')
    refine cw_skip (post_then (cw_seq (cw_block (cw_seq (cw_seq (cw_region (zS rfl (q_move rfl rfl) (zS rfl (q_move rfl rfl) ?_))))))))
    refine zS rfl (q_indexN rfl rfl rfl (stA (by assumption)) (by intro hc; omega)) ?_
    refine zS rfl (q_fieldEl rfl rfl (stA (by assumption)) (by intro hc; omega)) ?_
    refine zS rfl (q_loadF rfl rfl rfl (stA (by assumption)) (by intro hc; omega) rfl) ?_
    refine sw_step rfl rfl rfl (q_call (CanCall.mk Tryz.call66) rfl (.k rfl (.nil)) (fun _ w hw => callq hw (refLetter_spec _ w))) (zS rfl (q_not rfl rfl) (zS rfl (q_move rfl rfl) (zS rfl (q_move rfl rfl) (zS rfl (q_move rfl rfl) ?_))))
    refine zS rfl (q_indexN rfl rfl rfl (stA (by assumption)) (by intro hc; omega)) ?_
    refine zS rfl (q_fieldEl rfl rfl (stA (by assumption)) (by intro hc; omega)) ?_
    refine zS rfl (q_loadF rfl rfl rfl (stA (by assumption)) (by intro hc; omega) rfl) ?_
    refine sw_step rfl rfl rfl (q_call (CanCall.mk Tryz.call23) rfl (.k rfl (.k rfl (.nil))) (fun _ w hw => callq hw (refPhones_spec _ _ _ w (by exact stb_arg hw (by assumption)) (by assumption)))) ?_
    refine zS rfl (q_not rfl rfl) (zS rfl (q_or2 rfl rfl rfl) (zS rfl (q_move rfl rfl) (zS rfl (q_move rfl rfl) (zS rfl (q_move rfl rfl) ?_))))
    refine zS rfl (q_indexN rfl rfl rfl (stA (by assumption)) (by intro hc; omega)) ?_
    refine zS rfl (q_fieldEl rfl rfl (stA (by assumption)) (by intro hc; omega)) ?_
    refine zS rfl (q_loadF rfl rfl rfl (stA (by assumption)) (by intro hc; omega) rfl) ?_
    refine zS rfl (q_lss rfl rfl rfl) (zS rfl (q_or2 rfl rfl rfl) (zS rfl (q_move rfl rfl) (zS rfl (q_move rfl rfl) (zS rfl (q_move rfl rfl) ?_))))
    refine zS rfl (q_indexN rfl rfl rfl (stA (by assumption)) (by intro hc; omega)) ?_
    refine zS rfl (q_fieldEl rfl rfl (stA (by assumption)) (by intro hc; omega)) ?_
    refine zS rfl (q_loadF rfl rfl rfl (stA (by assumption)) (by intro hc; omega) rfl) ?_
    refine zS rfl (q_gtr rfl rfl rfl) (zS rfl (q_or2 rfl rfl rfl) (sw_nil (post_then ?_)))
    refine cw_cond rfl (fun h2 => ?_) (fun h2 => ?_)
    · have hf : prsOk p = false := hno fun hh => by
        have f1 := hh.ok
        unfold prOk at f1
        simp only [Bool.and_eq_true, decide_eq_true_eq] at f1
        simp [f1] at h2
        omega
      refine cw_seq (cw_region (zS rfl (q_assign rfl rfl) (sw_nil (post_then (cw_ret (post_then_r (post_blk_r (post_then_r (post_then_r (post_blk_r (post_then_r (post_ret1 rfl (resOk_tmp rfl) ?_))))))))))))
      exact fun w' hw => ⟨by rw [hf], (Cl.sel (by exact .nil _)) _ hw⟩
    · have h3 : prOk (nth p k) = true := by
        simp at h2
        unfold prOk
        simp only [Bool.and_eq_true, decide_eq_true_eq]
        exact ⟨⟨⟨h2.1.1.1, h2.1.1.2⟩, by omega⟩, by omega⟩
      refine cw_skip (post_then (cw_seq ?_))
      refine cw_region_q mixed_Tryz (by kernel_rfl) ?_
      refine zq rfl (q_move rfl rfl) (zq rfl (q_gtr rfl rfl rfl) (zq rfl (q_move rfl rfl) (zq rfl (q_move rfl rfl) (zq rfl (q_move rfl rfl) ?_))))
      refine zq rfl (q_indexN rfl rfl rfl (stA (by assumption)) (by intro hc; omega)) ?_
      refine zq rfl (q_fieldEl rfl rfl (stA (by assumption)) (by intro hc; omega)) ?_
      refine zq rfl (q_loadF rfl rfl rfl (stA (by assumption)) (by intro hc; omega) rfl) ?_
      refine zq rfl (q_move rfl rfl) (zq rfl (q_move rfl rfl) ?_)
      refine zq rfl (q_sub rfl rfl rfl (by intro hc; omega)) ?_
      refine zq rfl (q_index rfl rfl rfl (stA (by assumption)) (by intro hc; (simp only [AllT.iff, List.all_cons, List.all_nil, id, Bool.and_eq_true, Bool.not_eq_true', decide_eq_true_eq, decide_eq_false_iff_not, and_true] at hc; omega))) ?_
      refine zq rfl (q_fieldEl rfl rfl (stA (by assumption)) (by intro hc; omega)) ?_
      refine zq rfl (q_loadF rfl rfl rfl (stA (by assumption)) (by intro hc; omega) rfl) ?_
      refine zq rfl (q_lss rfl rfl rfl) (zq rfl (q_move rfl rfl) (zq rfl (q_move rfl rfl) (zq rfl (q_move rfl rfl) ?_)))
      refine zq rfl (q_indexN rfl rfl rfl (stA (by assumption)) (by intro hc; omega)) ?_
      refine zq rfl (q_fieldEl rfl rfl (stA (by assumption)) (by intro hc; omega)) ?_
      refine zq rfl (q_loadF rfl rfl rfl (stA (by assumption)) (by intro hc; omega) rfl) ?_
      refine zq rfl (q_move rfl rfl) (zq rfl (q_move rfl rfl) ?_)
      refine zq rfl (q_sub rfl rfl rfl (by intro hc; omega)) ?_
      refine zq rfl (q_index rfl rfl rfl (stA (by assumption)) (by intro hc; (simp only [AllT.iff, List.all_cons, List.all_nil, id, Bool.and_eq_true, Bool.not_eq_true', decide_eq_true_eq, decide_eq_false_iff_not, and_true] at hc; omega))) ?_
      refine zq rfl (q_fieldEl rfl rfl (stA (by assumption)) (by intro hc; omega)) ?_
      refine zq rfl (q_loadF rfl rfl rfl (stA (by assumption)) (by intro hc; omega) rfl) ?_
      refine zq rfl (q_eql rfl rfl rfl) (zq rfl (q_move rfl rfl) (zq rfl (q_move rfl rfl) (zq rfl (q_move rfl rfl) ?_)))
      refine zq rfl (q_sub rfl rfl rfl (by intro hc; omega)) ?_
      refine zq rfl (q_index rfl rfl rfl (stA (by assumption)) (by intro hc; (simp only [AllT.iff, List.all_cons, List.all_nil, id, Bool.and_eq_true, Bool.not_eq_true', decide_eq_true_eq, decide_eq_false_iff_not, and_true] at hc; omega))) ?_
      refine zq rfl (q_fieldEl rfl rfl (stA (by assumption)) (by intro hc; omega)) ?_
      refine zq rfl (q_loadF rfl rfl rfl (stA (by assumption)) (by intro hc; omega) rfl) ?_
      refine zq rfl (q_move rfl rfl) (zq rfl (q_move rfl rfl) ?_)
      refine zq rfl (q_indexN rfl rfl rfl (stA (by assumption)) (by intro hc; omega)) ?_
      refine zq rfl (q_fieldEl rfl rfl (stA (by assumption)) (by intro hc; omega)) ?_
      refine zq rfl (q_loadF rfl rfl rfl (stA (by assumption)) (by intro hc; omega) rfl) ?_
      refine qw_step rfl rfl rfl (q_call (CanCall.mk Tryz.call38) rfl (.k rfl (.k rfl (.nil))) (fun _ w hw => callq hw (order_spec _ _ _ _ w (by exact stb_arg hw (by assumption)) (by exact stb_arg hw (by assumption))))) ?_
      refine zq rfl (q_geq rfl rfl rfl) (zq rfl (q_and2 rfl rfl rfl) (zq rfl (q_or2 rfl rfl rfl) (zq rfl (q_and2 rfl rfl rfl) (qw_end (post_then ?_)))))
      refine cw_cond rfl (fun h4 => ?_) (fun h4 => ?_)
      · have hf : prsOk p = false := hno fun hh => by
          by_cases hk0 : 0 < k
          · have f2 := hh.lt hk0
            rw [e1 hk0] at h4
            simp [hk0] at h4
            omega
          · have hk1 : k = 0 := by omega
            subst hk1
            simp at h4
        refine cw_seq (cw_region (zS rfl (q_assign rfl rfl) (sw_nil (post_then (cw_ret (post_blk_r (post_then_r (post_then_r (post_blk_r (post_then_r (post_ret1 rfl (resOk_tmp rfl) ?_)))))))))))
        exact fun w' hw => ⟨by rw [hf], (Cl.sel (by exact .nil _)) _ hw⟩
      · have h9 : PrAt p k := by
          refine ⟨h3, fun hk0 => ?_⟩
          rw [e1 hk0] at h4
          simp [hk0] at h4
          by_cases h5 : (nth p (k - 1)).c = (nth p k).c
          · right
            have := h4.2 h5.symm
            exact ⟨h5, by omega⟩
          · left; omega
        refine cw_skip (post_blk (post_then (cw_region (zS rfl (q_move rfl rfl) ?_))))
        refine zS rfl (q_add rfl rfl rfl (by intro hc; omega)) ?_
        refine zS rfl (q_assign rfl rfl) (sw_nil ?_)
        exact post_next (k + 1) (by exact .cons rfl (.cons rfl .nil)) (Cl.sel (by exact .nil _)) ⟨by omega, fun i hi => by
          rcases Nat.lt_or_ge i k with h6 | h6
          · exact hbe i h6
          · have : i = k := by omega
            subst this; exact h9⟩ (by omega)
  · have hk' : k = p.length := by simp at h; omega
    subst hk'
    have hf : prsOk p = true := prs_iff.2 hbe
    refine cw_exit (post_then_x (post_then_x (post_blk_eq (post_then (cw_seq (cw_region (zS rfl (q_assign rfl rfl) (sw_nil (post_then (cw_ret (post_ret1 rfl (resOk_tmp rfl) ?_)))))))))))
    exact fun w' hw => ⟨by rw [hf], (Cl.sel (by exact .nil _)) _ hw⟩
def lexOk (l : List Sp) : Bool := riseB spC l && l.all spOk
structure SpAt (l : List Sp) (k : Nat) : Prop where
  ok : spOk (nth l k) = true
  lt : 0 < k → sLt (nth l (k - 1)).word (nth l k).word = true
theorem lex_iff {l : List Sp} : lexOk l = true ↔ ∀ k, k < l.length → SpAt l k := by
  unfold lexOk
  simp only [Bool.and_eq_true, List.all_eq_true]
  constructor
  · intro ⟨h1, h2⟩ k hk
    exact ⟨h2 _ (nth_mem hk), fun h0 => cmpS_neg.1 (riseB_yes.1 h1 k (by omega) hk)⟩
  · intro h
    refine ⟨riseB_yes.2 fun k h1 h2 => cmpS_neg.2 ((h k h2).lt (by omega)), fun L hL => ?_⟩
    obtain ⟨k, hk, rfl⟩ := List.getElem_of_mem hL
    rw [← nth_get hk]
    exact (h k hk).ok
theorem refLexicon_spec (sv : Value) (l : List Sp) (hz : ∀ u ∈ l, u.word.size ≤ 1000 ∧ ∀ b ∈ u.pl, b.size ≤ 9223372036854775807) (w : World) (hT : Stb w [] Tab) (hs : Stb w [] (RdL sv l)) (hp : Stb w [] fun w' => ∀ u ∈ l, SpIn u w') : Calls Tryz.prog 51 #[sv] w fun e w' => e = .returned (.bool (lexOk l)) ∧ Cl w [] [] w' := by
  have hL := rd_len hs.here
  refine calls_cw (vs := [_]) Tryz.func51 rfl Tryz.ntmps51 rfl (Cl.start0 w) (cw_seq (cw_region (zS rfl (q_assign rfl rfl) (sw_nil (post_then (cw_seq (cw_seq (cw_region (zS rfl (q_assign rfl rfl) (sw_nil (post_then (cw_block ?_))))))))))))
  refine cw_loop (S := Nat) (fun k => [(0, [], sv), (3, [], .int .i64 k)]) (fun _ => Cl w [] []) (fun k => k ≤ l.length ∧ ∀ j, j < k → SpAt l j) (fun k => l.length - k) 0 ⟨by omega, fun j hj => by omega⟩ (by exact .cons rfl (.cons rfl .nil)) (Cl.sel (by exact .nil _)) ?_
  rintro k ⟨hk, hbe⟩
  refine cw_seq (cw_seq (cw_region (zS rfl (q_move rfl rfl) (zS rfl (q_move rfl rfl) ?_))))
  refine zS rfl (q_len rfl (.k rfl (.nil)) (stA (by assumption))) ?_
  refine zS rfl (q_lss rfl rfl rfl) (sw_nil (post_then ?_))
  refine cw_cond rfl (fun h => ?_) (fun h => ?_)
  · have hk' : k < l.length := by simp at h; omega
    have hno : ¬ SpAt l k → lexOk l = false := fun hn => by
      cases hx : lexOk l with
      | false => rfl
      | true => exact absurd (lex_iff.1 hx k hk') hn
    have e1 : 0 < k → ((k : Int) - 1).toNat = k - 1 := fun h0 => by omega
    have hx := rd_stb (hp.here _ (nth_mem hk'))
    obtain ⟨hzw, hzk⟩ := hz _ (nth_mem hk')
    refine cw_skip (post_then (cw_seq (cw_block (cw_seq (cw_region (zS rfl (q_move rfl rfl) (zS rfl (q_move rfl rfl) ?_)))))))
    refine zS rfl (q_indexN rfl rfl rfl (stA (by assumption)) (by intro hc; omega)) ?_
    refine zS rfl (q_fieldEl rfl rfl (stA (by assumption)) (by intro hc; omega)) ?_
    refine zS rfl (q_loadF rfl rfl rfl (stA (by assumption)) (by intro hc; omega) rfl) ?_
    refine sw_x rfl rfl rfl (e_call (CanCall.mk Tryz.call21) rfl (.k rfl (.nil)) (fun w hw => refLetters_spec _ w (by omega) (stb_arg hw (by assumption)))) (fun x18 => ?_)
    refine sw_imp (fun hx18 => ?_)
    refine zS rfl (q_move rfl rfl) (zS rfl (q_extract rfl rfl rfl) (zS rfl (q_extract rfl rfl rfl) (zS rfl (q_assign rfl rfl) (zS rfl (q_assign rfl rfl) (sw_nil (post_then (cw_seq ?_)))))))
    refine cw_region_q mixed_Tryz (by kernel_rfl) ?_
    refine zq rfl (q_move rfl rfl) (zq rfl (q_not rfl rfl) (zq rfl (q_move rfl rfl) (zq rfl (q_move rfl rfl) (zq rfl (q_move rfl rfl) ?_))))
    refine zq rfl (q_indexN rfl rfl rfl (stA (by assumption)) (by intro hc; omega)) ?_
    refine zq rfl (q_fieldEl rfl rfl (stA (by assumption)) (by intro hc; omega)) ?_
    refine zq rfl (q_loadF rfl rfl rfl (stA (by assumption)) (by intro hc; omega) rfl) ?_
    refine qw_step rfl rfl rfl (q_call (CanCall.mk Tryz.call23) rfl (.k rfl (.k rfl (.nil))) (fun _ w hw => callq hw (refPhones_spec _ _ _ w (by exact stb_arg hw (by assumption)) (by assumption)))) ?_
    refine zq rfl (q_not rfl rfl) (zq rfl (q_or2 rfl rfl rfl) (zq rfl (q_move rfl rfl) (zq rfl (q_move rfl rfl) (zq rfl (q_gtr rfl rfl rfl) (zq rfl (q_move rfl rfl) (zq rfl (q_move rfl rfl) (zq rfl (q_move rfl rfl) ?_)))))))
    refine zq rfl (q_indexN rfl rfl rfl (stA (by assumption)) (by intro hc; omega)) ?_
    refine zq rfl (q_fieldEl rfl rfl (stA (by assumption)) (by intro hc; omega)) ?_
    refine zq rfl (q_loadF rfl rfl rfl (stA (by assumption)) (by intro hc; omega) rfl) ?_
    refine zq rfl (q_move rfl rfl) (zq rfl (q_move rfl rfl) ?_)
    refine zq rfl (q_sub rfl rfl rfl (by intro hc; omega)) ?_
    refine zq rfl (q_index rfl rfl rfl (stA (by assumption)) (by intro hc; (simp only [AllT.iff, List.all_cons, List.all_nil, id, Bool.and_eq_true, Bool.not_eq_true', decide_eq_true_eq, decide_eq_false_iff_not, and_true] at hc; omega))) ?_
    refine zq rfl (q_fieldEl rfl rfl (stA (by assumption)) (by intro hc; omega)) ?_
    refine zq rfl (q_loadF rfl rfl rfl (stA (by assumption)) (by intro hc; omega) rfl) ?_
    refine zq rfl (q_leqStr rfl rfl rfl Tryz.underlying9) (zq rfl (q_and2 rfl rfl rfl) (zq rfl (q_or2 rfl rfl rfl) (qw_end (post_then ?_))))
    refine cw_cond rfl (fun h2 => ?_) (fun h2 => ?_)
    · have hf : lexOk l = false := hno fun hh => by
        have f1 := hh.ok
        unfold spOk at f1
        simp only [Bool.and_eq_true] at f1
        by_cases hk0 : 0 < k
        · have f2 := hh.lt hk0
          rw [e1 hk0] at h2
          have f6 := lt_asym f2
          simp [f1, f6, hk0] at h2
        · have hk1 : k = 0 := by omega
          subst hk1
          simp [f1] at h2
      refine cw_seq (cw_region (zS rfl (q_assign rfl rfl) (sw_nil (post_then (cw_ret (post_blk_r (post_then_r (post_then_r (post_blk_r (post_then_r (post_ret1 rfl (resOk_tmp rfl) ?_)))))))))))
      exact fun w' hw => ⟨by rw [hf], (Cl.sel (by exact .nil _)) _ hw⟩
    · have h9 : SpAt l k := by
        by_cases hk0 : 0 < k
        · rw [e1 hk0] at h2
          simp [hk0] at h2
          exact ⟨by unfold spOk; rw [h2.1.1, h2.1.2]; rfl, fun _ => lt_of h2.2⟩
        · have hk1 : k = 0 := by omega
          subst hk1
          simp at h2
          exact ⟨by unfold spOk; rw [h2.1, h2.2]; rfl, fun _ => by omega⟩
      refine cw_skip (post_blk (post_then (cw_region (zS rfl (q_move rfl rfl) ?_))))
      refine zS rfl (q_add rfl rfl rfl (by intro hc; omega)) ?_
      refine zS rfl (q_assign rfl rfl) (sw_nil ?_)
      exact post_next (k + 1) (by exact .cons rfl (.cons rfl .nil)) (Cl.sel (by exact .nil _)) ⟨by omega, fun i hi => by
        rcases Nat.lt_or_ge i k with h6 | h6
        · exact hbe i h6
        · have : i = k := by omega
          subst this; exact h9⟩ (by omega)
  · have hk' : k = l.length := by simp at h; omega
    subst hk'
    have hf : lexOk l = true := lex_iff.2 hbe
    refine cw_exit (post_then_x (post_then_x (post_blk_eq (post_then (cw_seq (cw_region (zS rfl (q_assign rfl rfl) (sw_nil (post_then (cw_ret (post_ret1 rfl (resOk_tmp rfl) ?_)))))))))))
    exact fun w' hw => ⟨by rw [hf], (Cl.sel (by exact .nil _)) _ hw⟩
end Go.Proofs.YtkmbliojafefdaaGreatDoor

set_option autoImplicit false
set_option maxRecDepth 100000
namespace Go.Proofs.YtkmbliojafefdaaGreatDoor
open Go.Sx
open Enc (enc val)
end Go.Proofs.YtkmbliojafefdaaGreatDoor

set_option autoImplicit false
set_option maxRecDepth 100000
namespace Go.Proofs.YtkmbliojafefdaaGreatDoor
open Go.Sx
open Enc (enc val)
end Go.Proofs.YtkmbliojafefdaaGreatDoor

set_option autoImplicit false
set_option maxRecDepth 100000
namespace Go.Proofs.YtkmbliojafefdaaGreatDoor
open Go.Sx
open Enc (enc val)
end Go.Proofs.YtkmbliojafefdaaGreatDoor

set_option autoImplicit false
set_option maxRecDepth 100000
namespace Go.Proofs.YtkmbliojafefdaaGreatDoor
open Go.Sx
open Enc (enc val)
end Go.Proofs.YtkmbliojafefdaaGreatDoor

set_option autoImplicit false
set_option maxRecDepth 100000
set_option maxHeartbeats 1000000
namespace Go.Proofs.YtkmbliojafefdaaGreatDoor
open Go.Sx
open Enc (enc val)
end Go.Proofs.YtkmbliojafefdaaGreatDoor

set_option autoImplicit false
set_option maxRecDepth 100000
set_option maxHeartbeats 1000000
namespace Go.Proofs.YtkmbliojafefdaaGreatDoor
open Go.Sx
open Enc (enc val)
end Go.Proofs.YtkmbliojafefdaaGreatDoor

set_option autoImplicit false
set_option maxRecDepth 100000
set_option maxHeartbeats 1000000
namespace Go.Proofs.YtkmbliojafefdaaGreatDoor
open Go.Sx
open Enc (enc val)
theorem rn_eq {a b : Rn} : a = b ↔ a.v = b.v := ⟨fun h => by rw [h], fun h => by cases a; cases b; simp at h; rw [h]⟩
end Go.Proofs.YtkmbliojafefdaaGreatDoor

set_option autoImplicit false
set_option maxRecDepth 100000
namespace Go.Proofs.YtkmbliojafefdaaGreatDoor
open Go.Sx
open Enc (enc val)
structure CdAt (t : List Cond) (m : Nat) : Prop where
  ok : condOk (nth t m) = true
  lt : 0 < m → (nth t (m - 1)).at_ < (nth t m).at_
structure ChAt (rl : List Chc) (j : Nat) : Prop where
  ph : phonesOk (nth rl j).pl 3 = true
  two : (nth rl j).tl.length ≤ 2
  emp : (nth rl j).tl.length = 0 ↔ j + 1 = rl.length
  cs : ∀ m, m < (nth rl j).tl.length → CdAt (nth rl j).tl m
structure LeAt (bl : List Let) (k : Nat) : Prop where
  c : possC (nth bl k).c = true
  lt : 0 < k → (nth bl (k - 1)).c < (nth bl k).c
  l1 : 1 ≤ (nth bl k).rl.length
  l2 : (nth bl k).rl.length ≤ 1000
  rs : ∀ j, j < (nth bl k).rl.length → ChAt (nth bl k).rl j
theorem tests_iff {t : List Cond} : testsOk t = true ↔ ∀ m, m < t.length → CdAt t m := by
  unfold testsOk
  simp only [Bool.and_eq_true, List.all_eq_true]
  constructor
  · intro ⟨h1, h2⟩ m hm
    exact ⟨h1 _ (nth_mem hm), fun h0 => by have := riseB_yes.1 h2 m (by omega) hm; omega⟩
  · intro h
    refine ⟨fun x hx => ?_, riseB_yes.2 fun m h1 h2 => by have := (h m h2).lt (by omega); omega⟩
    obtain ⟨m, hm, rfl⟩ := List.getElem_of_mem hx
    have := (h m hm).ok
    rwa [nth_get hm] at this
theorem chc_iff {rl : List Chc} {j : Nat} : chcOk (decide (j + 1 = rl.length)) (nth rl j) = true ↔ ChAt rl j := by
  unfold chcOk
  simp only [Bool.and_eq_true, beq_iff_eq, decide_eq_true_eq, decide_eq_decide]
  constructor
  · intro ⟨⟨⟨h1, h2⟩, h3⟩, h4⟩
    exact ⟨h4, h2, h1, tests_iff.1 h3⟩
  · intro h
    exact ⟨⟨⟨h.emp, h.two⟩, tests_iff.2 h.cs⟩, h.ph⟩
theorem book_iff {bl : List Let} : bookOk bl = true ↔ ∀ k, k < bl.length → LeAt bl k := by
  unfold bookOk
  simp only [Bool.and_eq_true, List.all_eq_true]
  have key : ∀ L : Let, letOk L = true ↔ possC L.c = true ∧ 1 ≤ L.rl.length ∧ L.rl.length ≤ 1000 ∧ ∀ j, j < L.rl.length → ChAt L.rl j := fun L => by
    unfold letOk
    simp only [Bool.and_eq_true, List.all_eq_true, decide_eq_true_eq, List.mem_range, chc_iff]
    exact ⟨fun h => ⟨h.1.1.1, h.1.1.2, h.1.2, h.2⟩, fun h => ⟨⟨⟨h.1, h.2.1⟩, h.2.2.1⟩, h.2.2.2⟩⟩
  constructor
  · intro ⟨h1, h2⟩ k hk
    obtain ⟨g1, g2, g3, g4⟩ := (key _).1 (h2 _ (nth_mem hk))
    exact ⟨g1, fun h0 => by have := riseB_yes.1 h1 k (by omega) hk; rw [sgn_neg] at this; omega, g2, g3, g4⟩
  · intro h
    refine ⟨riseB_yes.2 fun k h1 h2 => by rw [sgn_neg]; have := (h k h2).lt (by omega); omega, fun L hL => ?_⟩
    obtain ⟨k, hk, rfl⟩ := List.getElem_of_mem hL
    rw [key, ← nth_get hk]
    have := h k hk
    exact ⟨this.c, this.l1, this.l2, this.rs⟩
end Go.Proofs.YtkmbliojafefdaaGreatDoor

set_option autoImplicit false
set_option maxRecDepth 100000
namespace Go.Proofs.YtkmbliojafefdaaGreatDoor
open Go.Sx
open Enc (enc val)
theorem nth_mapL {α β : Type} [Inhabited α] [Inhabited β] (f : α → β) {l : List α} {k : Nat} (hk : k < l.length) : nth (l.map f) k = f (nth l k) := by
  have h1 : k < (l.map f).length := by simpa using hk
  rw [nth_get h1, nth_get hk, List.getElem_map]
structure EvOk (x : Rn × XP) : Prop where
  c : possC x.1.v = true
  ws : ∀ c ∈ x.2.1, possC c.v = true
  ph : phonesOk x.2.2.2 3 = true
structure XlOk (e : XL) : Prop where
  ws : ∀ c ∈ e.wl, possC c.v = true
  ph : phonesOk e.pl 3 = true
theorem look_ok {e : XL} (h : XlOk e) (i : Int) : (decide (lookC e.wl i = 0) || possC (lookC e.wl i)) = true := by
  unfold lookC
  split
  · simp
  · rename_i h1
    have h2 : i.toNat < e.wl.length := by omega
    rw [h.ws _ (nth_mem h2)]; simp
theorem cand_tests {e : XL} {r : Int} {t : TT} (he : XlOk e) (hr : 1 ≤ r ∧ r ≤ 3) (h : CandOk e r t) : testsOk t.list = true ∧ 1 ≤ t.list.length ∧ t.list.length ≤ 2 := by
  have hb := h.b1
  have kk : ∀ a c : Int, -r ≤ a ∧ a ≤ r ∧ a ≠ 0 → c = lookC e.wl (e.at_ + a) → condOk ⟨a, c⟩ = true := fun a c g1 g2 => by
    show (decide (a ≠ 0) && decide (-3 ≤ a) && decide (a ≤ 3) && (decide (c = 0) || possC c)) = true
    rw [g2, look_ok he, Bool.and_true]
    simp only [Bool.and_eq_true, decide_eq_true_eq]
    omega
  have k1 := kk _ _ hb h.c1
  unfold TT.list
  rcases h.sh with ⟨u1, u2⟩ | ⟨u1, u2, u3, u4⟩
  · rw [if_pos u1]
    refine ⟨tests_iff.2 fun m hm => ?_, by simp, by simp⟩
    have : m = 0 := by simp at hm; omega
    subst this
    exact ⟨k1, fun h => by omega⟩
  · rw [if_neg u1]
    have k2 := kk t.a2 t.c2 (by omega) u4
    refine ⟨tests_iff.2 fun m hm => ?_, by simp, by simp⟩
    have : m = 0 ∨ m = 1 := by simp at hm; omega
    rcases this with rfl | rfl
    · exact ⟨k1, fun h => by omega⟩
    · exact ⟨k2, fun _ => u2⟩
theorem most_ok {l : List XL} (h : ∀ e ∈ l, XlOk e) : phonesOk (mostC l).b 3 = true := by
  rcases most_in l with e | ⟨e, he, h2⟩
  · rw [e]; rfl
  · rw [h2]; exact (h e he).ph
structure RuOk (u : List Cond × List ByteArray) : Prop where
  ts : testsOk u.1 = true
  l1 : 1 ≤ u.1.length
  l2 : u.1.length ≤ 2
  ph : phonesOk u.2 3 = true
theorem listF_ok {o : Lrn} (ho : LrnOk o) : ∀ (n : Nat) (lf : List XL) (out : List (List Cond × List ByteArray)), (∀ e ∈ lf, XlOk e) → (∀ u ∈ out, RuOk u) → (out.length : Int) ≤ o.most → (∀ e ∈ (listF o n lf out).1, XlOk e) ∧ (∀ u ∈ (listF o n lf out).2, RuOk u) ∧ ((listF o n lf out).2.length : Int) ≤ o.most
  | 0, lf, out, h1, h2, h3 => ⟨h1, h2, h3⟩
  | n + 1, lf, out, h1, h2, h3 => by
    unfold listF
    split
    · rename_i hc
      split
      · exact ⟨h1, h2, h3⟩
      · cases hb : bestC lf o.reach o.least with
        | none => exact ⟨h1, h2, h3⟩
        | some u =>
          obtain ⟨e, he, t, ht, rfl, _⟩ := best_is hb
          have h4 := cand_tests (h1 e he) ho.reach (cands_ok ho.reach.1 ht)
          refine listF_ok ho n _ _ (fun e he => h1 e (List.mem_filter.1 he).1) (fun u hu => ?_) (by simp only [List.length_append, List.length_cons, List.length_nil]; omega)
          rcases List.mem_append.1 hu with hu | hu
          · exact h2 u hu
          · simp at hu; subst hu
            exact ⟨h4.1, h4.2.1, h4.2.2, most_ok fun e he => h1 e (List.mem_filter.1 he).1⟩
    · exact ⟨h1, h2, h3⟩
theorem listC_ok {o : Lrn} (ho : LrnOk o) {l : List XL} (h : ∀ e ∈ l, XlOk e) : ∃ R b, listC l o = R ++ [([], b)] ∧ (∀ u ∈ R, RuOk u) ∧ (R.length : Int) ≤ o.most ∧ phonesOk b 3 = true := by
  have hm := ho.most
  obtain ⟨h1, h2, h3⟩ := listF_ok ho (l.length + 1) l [] h (fun u hu => by simp at hu) (by simp; omega)
  refine ⟨_, _, rfl, h2, h3, most_ok fun e he => ?_⟩
  split at he
  · exact h e he
  · exact h1 e he
theorem xs_ok {q : List (Rn × XP)} (hq : ∀ x ∈ q, EvOk x) (c : Rn) : ∀ e ∈ (xsC q c).map toXL, XlOk e := by
  intro e he
  obtain ⟨x, hx, rfl⟩ := List.mem_map.1 he
  unfold xsC at hx
  obtain ⟨y, hy, rfl⟩ := List.mem_map.1 hx
  have := hq y (List.mem_filter.1 hy).1
  exact ⟨this.ws, this.ph⟩
theorem abc_ok {q : List (Rn × XP)} (hq : ∀ x ∈ q, EvOk x) {c : Rn} (h : c ∈ sortR (abcC q)) : possC c.v = true := by
  rw [(sortR_perm _).mem_iff, abc_mem] at h
  obtain ⟨y, hy⟩ := List.exists_mem_of_ne_nil _ h
  unfold xsC at hy
  obtain ⟨z, hz, rfl⟩ := List.mem_map.1 hy
  obtain ⟨h1, h2⟩ := List.mem_filter.1 hz
  have h3 := (hq z h1).c
  have h4 : z.1 = c := by simpa using h2
  rw [← h4]; exact h3
theorem abc_lt (q : List (Rn × XP)) : (sortR (abcC q)).Pairwise fun x y => x.v < y.v := by
  have h1 := sortR_asc (abcC q)
  have h2 : (sortR (abcC q)).Nodup := (sortR_perm _).nodup_iff.2 (abc_nodup q)
  refine (h1.and h2).imp fun {x y} ⟨h3, h4⟩ => ?_
  have : x.v ≠ y.v := fun h => h4 (rn_eq.2 h)
  omega
def teachP (q : List (Rn × XP)) (o : Lrn) : List (Int × List (List Cond × List ByteArray)) := (sortR (abcC q)).map fun c => (c.v, listC ((xsC q c).map toXL) o)
theorem book_of {bl : List Let} {q : List (Rn × XP)} {o : Lrn} (ho : LrnOk o) (hq : ∀ x ∈ q, EvOk x) (hb : bkP bl = teachP q o) : bookOk bl = true := by
  have hm := ho.most
  obtain ⟨S, hS⟩ : ∃ S, sortR (abcC q) = S := ⟨_, rfl⟩
  have hlt := abc_lt q
  have hlen : bl.length = S.length := by
    have := congrArg List.length hb
    unfold bkP teachP at this
    rw [List.length_map, List.length_map, hS] at this
    exact this
  have hat : ∀ k, k < bl.length → (nth bl k).c = (nth S k).v ∧ ((nth bl k).rl.map fun u => (u.tl, u.pl)) = listC ((xsC q (nth S k)).map toXL) o := fun k hk => by
    have h1 := congrArg (fun x => x[k]?) hb
    unfold bkP teachP at h1
    rw [hS] at h1
    have hk2 : k < S.length := by omega
    simp only [List.getElem?_map, List.getElem?_eq_getElem hk, List.getElem?_eq_getElem hk2, Option.map_some, Option.some.injEq, Prod.mk.injEq] at h1
    rw [nth_get hk, nth_get hk2]
    exact h1
  rw [hS] at hlt
  refine book_iff.2 fun k hk => ?_
  have hk2 : k < S.length := by omega
  obtain ⟨h1, h2⟩ := hat k hk
  obtain ⟨R, b, g1, g2, g3, g4⟩ := listC_ok ho (xs_ok hq (nth S k))
  rw [g1] at h2
  have hrl : (nth bl k).rl.length = R.length + 1 := by
    have := congrArg List.length h2
    simpa using this
  have hru : ∀ j, j < (nth bl k).rl.length → ((nth (nth bl k).rl j).tl, (nth (nth bl k).rl j).pl) = nth (R ++ [([], b)]) j := fun j hj => by
    rw [← h2, nth_mapL _ hj]
  refine ⟨?_, fun h0 => ?_, by omega, by omega, fun j hj => ?_⟩
  · rw [h1]; exact abc_ok hq (by rw [hS]; exact nth_mem hk2)
  · have h3 := (hat (k - 1) (by omega)).1
    rw [h1, h3, nth_get hk2, nth_get (by omega : k - 1 < S.length)]
    exact List.pairwise_iff_getElem.1 hlt (k - 1) k (by omega) hk2 (by omega)
  · have h3 := hru j hj
    by_cases hj2 : j < R.length
    · have h4 : nth (R ++ [([], b)]) j = nth R j := by
        rw [nth_get (by simp; omega), nth_get hj2, List.getElem_append_left hj2]
      have h5 := g2 _ (nth_mem hj2)
      rw [h4] at h3
      have e1 := congrArg Prod.fst h3
      have e2 := congrArg Prod.snd h3
      dsimp only at e1 e2
      exact ⟨by rw [e2]; exact h5.ph, by rw [e1]; exact h5.l2, by rw [e1]; have := h5.l1; omega, by rw [e1]; exact tests_iff.1 h5.ts⟩
    · have hj3 : j = R.length := by omega
      subst hj3
      have h4 : nth (R ++ [([], b)]) R.length = ([], b) := by
        rw [nth_get (by simp)]; simp
      rw [h4] at h3
      have e1 := congrArg Prod.fst h3
      have e2 := congrArg Prod.snd h3
      dsimp only at e1 e2
      exact ⟨by rw [e2]; exact g4, by rw [e1]; simp, by rw [e1, hrl]; simp, fun m hm => by rw [e1] at hm; simp at hm⟩
def evU (p : List Pr) (u : Sp) : List (Rn × XP) := if alOk p u.word u.pl then evOf (u.word, alP p u.word u.pl) else []
theorem ent_ev (p : List Pr) (l : List Sp) : (entC p l).flatMap evOf = l.flatMap (evU p) := by
  unfold entC
  induction l with
  | nil => rfl
  | cons u l ih =>
    rw [List.flatMap_cons, List.filter_cons]
    unfold evU at *
    by_cases h : alOk p u.word u.pl = true
    · rw [if_pos h, if_pos h, List.map_cons, List.flatMap_cons, ih]
    · rw [if_neg h, if_neg h, ih]; rfl
theorem evOf_len2 (u : ByteArray × List (List ByteArray)) : (evOf u).length = (runes u.1).length := by unfold evOf; simp
theorem evU_len (p : List Pr) (u : Sp) : (evU p u).length ≤ (runes u.word).length := by
  unfold evU
  split
  · rw [evOf_len2]; exact Nat.le_refl _
  · simp
theorem prOk_ph {y : Pr} (h : prOk y = true) : phonesOk y.pl 3 = true := by
  unfold prOk at h
  simp only [Bool.and_eq_true] at h
  exact h.1.1.2
theorem evU_ok {p : List Pr} {u : Sp} (hp : ∀ y ∈ p, prOk y = true) (hu : wordOk u.word = true) : ∀ x ∈ evU p u, EvOk x := by
  intro x hx
  unfold evU at hx
  split at hx
  · rename_i h1
    have hw : ∀ c ∈ runes u.word, possC c.v = true := by
      unfold wordOk at hu
      simp only [Bool.and_eq_true, List.all_eq_true] at hu
      exact hu.1.2
    unfold evOf at hx
    obtain ⟨i, hi, rfl⟩ := List.mem_map.1 hx
    rw [List.mem_range] at hi
    have h4 : 0 ≤ leastC p (runes u.word) u.pl := by unfold alOk at h1; simpa using h1
    have h5 := path_ok h4
    have h6 : alP p u.word u.pl = pathC p (runes u.word) u.pl := by unfold alP; rw [if_pos h1]
    have h7 : nth (alP p u.word u.pl) i ∈ pathC p (runes u.word) u.pl := by
      rw [h6]; exact nth_mem (by rw [h5.1]; exact hi)
    obtain ⟨y, hy, h8⟩ := h5.2 _ h7
    exact ⟨hw _ (nth_mem hi), hw, by
      show phonesOk (nth (alP p u.word u.pl) i) 3 = true
      rw [h8]; exact prOk_ph (hp y hy)⟩
  · simp at hx
theorem evs_ok {p : List Pr} {l : List Sp} (hp : ∀ y ∈ p, prOk y = true) (hl : ∀ u ∈ l, wordOk u.word = true) : ∀ x ∈ (entC p l).flatMap evOf, EvOk x := by
  rw [ent_ev]
  intro x hx
  obtain ⟨u, hu, hx⟩ := List.mem_flatMap.1 hx
  exact evU_ok hp (hl u hu) x hx
theorem evs_len {p : List Pr} {l : List Sp} {n : Nat} (h : ∀ u ∈ l, (runes u.word).length ≤ n) : ((entC p l).flatMap evOf).length ≤ l.length * n := by
  rw [ent_ev]
  induction l with
  | nil => simp
  | cons u l ih =>
    rw [List.flatMap_cons, List.length_append, List.length_cons, Nat.add_mul]
    have h1 := h u (.head _)
    have h2 := evU_len p u
    have h3 := ih fun u hu => h u (.tail _ hu)
    omega
theorem lexE_zero2 {l : List Sp} (h : lexE l = 0) : l.length ≤ 3000 ∧ ∀ u ∈ l, wordOk u.word = true ∧ phonesOk u.pl 120 = true := by
  unfold lexE at h
  split at h
  · cases h
  · split at h
    · rename_i h1 h2
      simp only [Bool.and_eq_true, List.all_eq_true] at h2
      refine ⟨by omega, fun u hu => ?_⟩
      have := h2.2 u hu
      unfold spOk at this
      simpa using this
    · cases h
theorem learn_ok {l : List Sp} {p : List Pr} {o : Lrn} {bl : List Let} (h : optE l p o = 0) (hb : bkP bl = learnP l p o) : bookOk bl = true := by
  obtain ⟨h1, h2, h3⟩ := optE_zero h
  obtain ⟨z1, z2, z3, z4, z5⟩ := prsE_zero h2
  refine book_of h3 (evs_ok z5 fun u hu => ((lexE_zero2 h1).2 u hu).1) (q := (entC p l).flatMap evOf) ?_
  rw [hb]
  unfold learnP
  rw [if_pos h]
  rfl
end Go.Proofs.YtkmbliojafefdaaGreatDoor

set_option autoImplicit false
set_option maxRecDepth 100000
namespace Go.Proofs.YtkmbliojafefdaaGreatDoor
open Go.Sx
open Enc (enc val)
theorem cnt_pos {l : List XL} {e : XL} (h : e ∈ l) : 1 ≤ cnt l e.pl := by
  unfold cnt
  exact List.countP_pos_iff.2 ⟨e, h, by simp⟩
theorem most_max {l : List XL} (h0 : l ≠ []) : (mostC l).m = cnt l (mostC l).b ∧ ∀ e ∈ l, (cnt l e.pl : Int) ≤ (mostC l).m := by
  have key : ∀ (q P : List XL) (s : MS), (∀ e ∈ q, e ∈ l) → (∀ e ∈ P, (cnt l e.pl : Int) ≤ s.m) → (P = [] ∧ s.m = 0 ∨ s.m = cnt l s.b) → (∀ e ∈ P ++ q, (cnt l e.pl : Int) ≤ (q.foldl (mostStep l) s).m) ∧ (P ++ q = [] ∧ (q.foldl (mostStep l) s).m = 0 ∨ (q.foldl (mostStep l) s).m = cnt l (q.foldl (mostStep l) s).b) := by
    intro q
    induction q with
    | nil => intro P s _ h1 h2; rw [List.append_nil]; exact ⟨h1, h2⟩
    | cons x q ih =>
      intro P s hq h1 h2
      rw [List.foldl_cons]
      have e1 : P ++ x :: q = (P ++ [x]) ++ q := by simp
      rw [e1]
      have hx := cnt_pos (hq x (.head _))
      unfold mostStep
      split
      · rename_i hc
        refine ih (P ++ [x]) _ (fun e he => hq e (.tail _ he)) (fun e he => ?_) (.inr rfl)
        dsimp only
        rcases List.mem_append.1 he with he | he
        · have := h1 e he; omega
        · simp at he; subst he; omega
      · rename_i hc
        have h3 : (cnt l x.pl : Int) ≤ s.m := by omega
        refine ih (P ++ [x]) s (fun e he => hq e (.tail _ he)) (fun e he => ?_) (.inr ?_)
        · rcases List.mem_append.1 he with he | he
          · exact h1 e he
          · simp at he; subst he; exact h3
        · rcases h2 with ⟨_, h2⟩ | h2
          · omega
          · exact h2
  obtain ⟨h1, h2⟩ := key l [] ⟨⟨none, 0, 0⟩, [], 0⟩ (fun e h => h) (fun e he => by simp at he) (.inl ⟨rfl, rfl⟩)
  rw [List.nil_append] at h1 h2
  refine ⟨?_, h1⟩
  rcases h2 with ⟨h2, _⟩ | h2
  · exact absurd h2 h0
  · exact h2
end Go.Proofs.YtkmbliojafefdaaGreatDoor

set_option autoImplicit false
set_option maxRecDepth 100000
namespace Go.Proofs.YtkmbliojafefdaaGreatDoor
open Go.Sx
open Enc (enc val)
theorem mt_at {bl : List Let} (hr : riseB (fun x y : Let => sgn (x.c - y.c)) bl = true) {c : Int} {k : Nat} (hk : k < bl.length) (hc : (nth bl k).c = c) : mtB bl c = true ∧ mtL bl c = nth bl k := by
  have h1 : mtK bl c = k := by
    unfold mtK
    refine lowB_at (by omega) (fun i hi => ?_) fun _ => ?_
    · have := let_asc hr i k hi hk
      simp only [sgn_neg]; omega
    · simp only [sgn_neg]; omega
  have h2 : mtB bl c = true := by
    unfold mtB; rw [h1, decide_eq_true_eq]
    exact ⟨hk, by rw [sgn_zero]; omega⟩
  exact ⟨h2, by unfold mtL; rw [h2, h1]; rfl⟩
theorem rule_at {bl : List Let} (hr : riseB (fun x y : Let => sgn (x.c - y.c)) bl = true) {ws : List Rn} {i k j : Nat} (hk : k < bl.length) (hc : (nth bl k).c = (nth ws i).v) (hj : j < (nth bl k).rl.length) (h0 : ∀ m, m < j → holdsC ws i (nth (nth bl k).rl m).tl = false) (h1 : holdsC ws i (nth (nth bl k).rl j).tl = true) : ruleN bl ws i = j ∧ ruleX bl ws i = nth (nth bl k).rl j := by
  obtain ⟨h2, h3⟩ := mt_at hr hk hc
  have h4 : mtI bl ws i = j := by
    unfold mtI
    rw [h2, h3]
    exact idxP_at (p := fun r : Chc => holdsC ws i r.tl) hj h0 h1
  unfold ruleN ruleX
  rw [h2, h4, h3]
  exact ⟨rfl, rfl⟩
end Go.Proofs.YtkmbliojafefdaaGreatDoor

set_option autoImplicit false
set_option maxRecDepth 100000
namespace Go.Proofs.YtkmbliojafefdaaGreatDoor
open Go.Sx
open Enc (enc val)
def grow (b : Int) (x : Pr) : Pr := { x with cost := x.cost + b }
def lift (k n : Int) : Int := if 0 ≤ n then n + k else -1
theorem offers_grow (p : List Pr) (b c : Int) : offers (p.map (grow b)) c = (offers p c).map (grow b) := by
  unfold offers
  rw [List.filter_map]; rfl
theorem fold_grow {f g : Pr → Int} {b k : Int} (hk : 0 ≤ k) : ∀ (xs : List Pr) (s : Int), -1 ≤ s → (∀ x ∈ xs, -1 ≤ f x ∧ g (grow b x) = lift k (f x)) → (xs.map (grow b)).foldl (stepC g) (lift k s) = lift k (xs.foldl (stepC f) s) ∧ -1 ≤ xs.foldl (stepC f) s
  | [], s, h, _ => ⟨rfl, h⟩
  | x :: xs, s, h, hx => by
    rw [List.map_cons, List.foldl_cons, List.foldl_cons]
    obtain ⟨h1, h2⟩ := hx x (.head _)
    have h3 : stepC g (lift k s) (grow b x) = lift k (stepC f s x) ∧ -1 ≤ stepC f s x := by
      unfold stepC
      rw [h2]
      unfold lift
      by_cases a1 : 0 ≤ s <;> by_cases a2 : 0 ≤ f x <;> by_cases a3 : f x < s <;> simp only [a1, a2, a3, if_true, if_false, true_and, false_and, or_true, or_false, and_true, and_false] <;> (try split) <;> (try split) <;> (try split) <;> omega
    rw [h3.1]
    exact fold_grow hk xs _ h3.2 fun y hy => hx y (.tail _ hy)
theorem try_grow {b : Int} (hb : 0 ≤ b) {n : Nat} {f g : List ByteArray → Int} (hf : ∀ l, -1 ≤ f l) (hg : ∀ l, g l = lift (b * (n : Int)) (f l)) (x : Pr) (l : List ByteArray) (hx : 0 ≤ x.cost) : tryC g l (grow b x) = lift (b * ((n + 1 : Nat) : Int)) (tryC f l x) := by
  have hk : 0 ≤ b * (n : Int) := Int.mul_nonneg hb (by omega)
  have hd := hf (l.drop x.pl.length)
  unfold tryC
  have e1 : (grow b x).pl = x.pl := rfl
  have e2 : (grow b x).cost = x.cost + b := rfl
  rw [e1, e2, hg]
  have e3 : b * ((n + 1 : Nat) : Int) = b * (n : Int) + b := by push_cast; rw [Int.mul_add, Int.mul_one]
  rw [e3]
  obtain ⟨m, hm⟩ : ∃ m, f (l.drop x.pl.length) = m := ⟨_, rfl⟩
  obtain ⟨K, hK⟩ : ∃ K, b * (n : Int) = K := ⟨_, rfl⟩
  rw [hm] at hd ⊢
  rw [hK] at hk ⊢
  unfold lift
  by_cases a1 : pre x.pl l = true <;> by_cases a2 : 0 ≤ m <;> simp only [a1, a2, if_true, if_false, true_and, false_and, Bool.false_eq_true] <;> (repeat' split) <;> omega
theorem least_grow {p : List Pr} {b : Int} (hb : 0 ≤ b) (hp : CostOk p) : ∀ (ws : List Rn) (l : List ByteArray), leastC (p.map (grow b)) ws l = lift (b * (ws.length : Int)) (leastC p ws l)
  | [], l => by unfold leastC lift; split <;> simp
  | c :: ws, l => by
    have hk : 0 ≤ b * ((c :: ws).length : Int) := Int.mul_nonneg hb (by omega)
    have h1 : leastC (p.map (grow b)) (c :: ws) l = (offers (p.map (grow b)) c.v).foldl (stepC (tryC (leastC (p.map (grow b)) ws) l)) (-1) := rfl
    rw [h1, offers_grow]
    exact (fold_grow (f := tryC (leastC p ws) l) (g := tryC (leastC (p.map (grow b)) ws) l) (b := b) hk (offers p c.v) (-1) (by omega) fun x hx => ⟨(try_bd hp (offers_mem.1 hx).1 ws l).1, try_grow hb (fun l => (least_bd hp ws l).1) (fun l => least_grow hb hp ws l) x l (hp x (offers_mem.1 hx).1).1⟩).1
theorem path_grow {p : List Pr} {b : Int} (hb : 0 ≤ b) (hp : CostOk p) : ∀ (ws : List Rn) (l : List ByteArray), pathC (p.map (grow b)) ws l = pathC p ws l
  | [], l => rfl
  | c :: ws, l => by
    unfold pathC
    rw [offers_grow, List.find?_map]
    have h1 : (offers p c.v).find? ((fun x => decide (tryC (leastC (p.map (grow b)) ws) l x = leastC (p.map (grow b)) (c :: ws) l)) ∘ grow b) = (offers p c.v).find? (fun x => decide (tryC (leastC p ws) l x = leastC p (c :: ws) l)) := by
      have h2 : ∀ x ∈ offers p c.v, ((fun x => decide (tryC (leastC (p.map (grow b)) ws) l x = leastC (p.map (grow b)) (c :: ws) l)) ∘ grow b) x = decide (tryC (leastC p ws) l x = leastC p (c :: ws) l) := fun x hx => by
        have hx1 := (offers_mem.1 hx).1
        show decide (tryC (leastC (p.map (grow b)) ws) l (grow b x) = leastC (p.map (grow b)) (c :: ws) l) = _
        rw [try_grow hb (n := ws.length) (fun l => (least_bd hp ws l).1) (fun l => least_grow hb hp ws l) x l (hp x hx1).1, least_grow hb hp (c :: ws) l]
        have g1 := (try_bd hp hx1 ws l).1
        have g2 := (least_bd hp (c :: ws) l).1
        have hk : 0 ≤ b * ((c :: ws).length : Int) := Int.mul_nonneg hb (by omega)
        have e3 : ((ws.length + 1 : Nat) : Int) = ((c :: ws).length : Int) := by simp
        rw [e3]
        obtain ⟨K, hK⟩ : ∃ K, b * ((c :: ws).length : Int) = K := ⟨_, rfl⟩
        rw [hK] at hk ⊢
        rw [decide_eq_decide]
        unfold lift
        (repeat' split) <;> omega
      generalize offers p c.v = xs at h2
      induction xs with
      | nil => rfl
      | cons x xs ih =>
        rw [List.find?_cons, List.find?_cons, h2 x (.head _), ih fun y hy => h2 y (.tail _ hy)]
    rw [h1]
    cases (offers p c.v).find? (fun x => decide (tryC (leastC p ws) l x = leastC p (c :: ws) l)) with
    | none => rfl
    | some x =>
      simp only [Option.map_some]
      have e1 : (grow b x).pl = x.pl := rfl
      rw [e1, path_grow hb hp ws]
theorem alOk_grow {p : List Pr} {b : Int} (hb : 0 ≤ b) (hp : CostOk p) (s : ByteArray) (l : List ByteArray) : alOk (p.map (grow b)) s l = alOk p s l := by
  unfold alOk
  rw [least_grow hb hp, decide_eq_decide]
  have hk : 0 ≤ b * ((runes s).length : Int) := Int.mul_nonneg hb (by omega)
  unfold lift
  split <;> omega
theorem ent_grow {p : List Pr} {b : Int} (hb : 0 ≤ b) (hp : CostOk p) (l : List Sp) : entC (p.map (grow b)) l = entC p l := by
  unfold entC
  have h1 : (fun u : Sp => alOk (p.map (grow b)) u.word u.pl) = fun u => alOk p u.word u.pl := by funext u; exact alOk_grow hb hp _ _
  have h2 : (fun u : Sp => (u.word, alP (p.map (grow b)) u.word u.pl)) = fun u => (u.word, alP p u.word u.pl) := by
    funext u
    unfold alP
    rw [alOk_grow hb hp, path_grow hb hp]
  rw [h1, h2]
theorem path_flat {p : List Pr} : ∀ {ws : List Rn} {l : List ByteArray}, 0 ≤ leastC p ws l → (pathC p ws l).flatten = l
  | [], l, h => by
    unfold leastC at h
    split at h
    · rename_i e; subst e; rfl
    · omega
  | c :: ws, l, h => by
    obtain ⟨x, _, _, h3, h4, h5⟩ := path_step h
    rw [h5, List.flatten_cons, path_flat h4]
    unfold pre at h3
    simp only [Bool.and_eq_true, decide_eq_true_eq] at h3
    conv => lhs; lhs; rw [← h3.2]
    exact List.take_append_drop _ _
theorem path_at {p : List Pr} : ∀ {ws : List Rn} {l : List ByteArray}, 0 ≤ leastC p ws l → ∀ {i : Nat}, i < ws.length → ∃ y ∈ p, y.c = (nth ws i).v ∧ nth (pathC p ws l) i = y.pl
  | [], l, h, i, hi => by simp at hi
  | c :: ws, l, h, i, hi => by
    obtain ⟨x, _, h2, _, h4, h5⟩ := path_step h
    rw [h5]
    cases i with
    | zero => exact ⟨x, (offers_mem.1 h2).1, (offers_mem.1 h2).2, rfl⟩
    | succ i => exact path_at h4 (by simpa using hi)
def One (p : List Pr) : Prop := ∀ x ∈ p, ∀ y ∈ p, x.c = y.c → x.pl = y.pl
def EvS (p : List Pr) (x : Rn × XP) : Prop := ∃ y ∈ p, y.c = x.1.v ∧ x.2.2.2 = y.pl
theorem evU_s (p : List Pr) (u : Sp) : ∀ x ∈ evU p u, EvS p x := by
  intro x hx
  unfold evU at hx
  split at hx
  · rename_i h1
    unfold evOf at hx
    obtain ⟨i, hi, rfl⟩ := List.mem_map.1 hx
    rw [List.mem_range] at hi
    have h4 : 0 ≤ leastC p (runes u.word) u.pl := by unfold alOk at h1; simpa using h1
    have h6 : alP p u.word u.pl = pathC p (runes u.word) u.pl := by unfold alP; rw [if_pos h1]
    obtain ⟨y, hy, h7, h8⟩ := path_at h4 hi
    exact ⟨y, hy, h7, by show nth (alP p u.word u.pl) i = y.pl; rw [h6]; exact h8⟩
  · simp at hx
theorem cnt_all {l : List XL} {b : List ByteArray} : cnt l b = l.length ↔ ∀ e ∈ l, e.pl = b := by
  unfold cnt
  rw [List.countP_eq_length]
  simp
theorem list_one {l : List XL} {o : Lrn} {b : List ByteArray} (h0 : l ≠ []) (h : ∀ e ∈ l, e.pl = b) : listC l o = [([], b)] := by
  obtain ⟨h1, h2⟩ := most_max h0
  obtain ⟨x, hx⟩ := List.exists_mem_of_ne_nil _ h0
  have h3 := h2 x hx
  rw [h x hx, cnt_all.2 h] at h3
  have h4 := (most_bd l).2
  have h5 : cnt l (mostC l).b = l.length := by omega
  have h6 : (mostC l).b = b := by rw [← cnt_all.1 h5 x hx, h x hx]
  have h7 : listF o (l.length + 1) l [] = (l, []) := by
    unfold listF
    split
    · rw [if_pos (by omega)]
    · rfl
  unfold listC lastC
  rw [h7]
  have h8 : ¬ l.length = 0 := fun g => h0 (List.length_eq_zero_iff.1 g)
  dsimp only
  rw [if_neg h8, h6]; rfl
theorem rule_one {bl : List Let} {q : List (Rn × XP)} {o : Lrn} {p : List Pr} (hp : One p) (hq : ∀ x ∈ q, EvS p x) (hb : bkP bl = teachP q o) (hbo : bookOk bl = true) {ws : List Rn} {i : Nat} {x : Rn × XP} (hx : x ∈ q) (hi : x.1 = nth ws i) : (ruleX bl ws i).pl = x.2.2.2 := by
  have hr : riseB (fun x y : Let => sgn (x.c - y.c)) bl = true := by
    unfold bookOk at hbo
    simp only [Bool.and_eq_true] at hbo
    exact hbo.1
  have hmem : x.1 ∈ sortR (abcC q) := by
    rw [(sortR_perm _).mem_iff, abc_mem]
    intro h
    have : x.2 ∈ xsC q x.1 := by
      unfold xsC
      exact List.mem_map.2 ⟨x, List.mem_filter.2 ⟨hx, by simp⟩, rfl⟩
    rw [h] at this
    simp at this
  obtain ⟨k, hk, hke⟩ := List.getElem_of_mem hmem
  have hlen : bl.length = (sortR (abcC q)).length := by
    have := congrArg List.length hb
    unfold bkP teachP at this
    simpa using this
  have h1 := congrArg (fun x => x[k]?) hb
  unfold bkP teachP at h1
  simp only [List.getElem?_map, List.getElem?_eq_getElem (show k < bl.length by omega), List.getElem?_eq_getElem hk, Option.map_some, Option.some.injEq, Prod.mk.injEq, hke] at h1
  obtain ⟨y, hy, hy1, hy2⟩ := hq x hx
  have hL : ∀ e ∈ (xsC q x.1).map toXL, e.pl = x.2.2.2 := fun e he => by
    obtain ⟨z, hz, rfl⟩ := List.mem_map.1 he
    unfold xsC at hz
    obtain ⟨z', hz', rfl⟩ := List.mem_map.1 hz
    obtain ⟨hz1, hz2⟩ := List.mem_filter.1 hz'
    obtain ⟨y', hy', hy1', hy2'⟩ := hq z' hz1
    have hz3 : z'.1 = x.1 := by simpa using hz2
    show z'.2.2.2 = x.2.2.2
    rw [hy2, hy2']
    exact hp y' hy' y hy (by rw [hy1', hy1, hz3])
  have hne : (xsC q x.1).map toXL ≠ [] := by
    have : x.2 ∈ xsC q x.1 := by
      unfold xsC
      exact List.mem_map.2 ⟨x, List.mem_filter.2 ⟨hx, by simp⟩, rfl⟩
    intro h
    rw [List.map_eq_nil_iff] at h
    rw [h] at this
    simp at this
  obtain ⟨h2, h3⟩ := h1
  rw [list_one hne hL] at h3
  have hkb : k < bl.length := by omega
  rw [← nth_get hkb] at h2 h3
  obtain ⟨L, hLe⟩ : ∃ L, nth bl k = L := ⟨_, rfl⟩
  rw [hLe] at h2 h3
  obtain ⟨c, r, rl⟩ := L
  dsimp only at h2 h3
  cases rl with
  | nil => simp at h3
  | cons u rl =>
    cases rl with
    | cons _ _ => simp at h3
    | nil =>
      simp only [List.map_cons, List.map_nil, List.cons.injEq, and_true, Prod.mk.injEq] at h3
      have h4 := (rule_at hr (ws := ws) (i := i) (j := 0) hkb (by rw [hLe, ← hi]; exact h2) (by rw [hLe]; simp) (fun m hm => by omega) (by rw [hLe]; show holdsC ws i u.tl = true; rw [h3.1]; rfl)).2
      rw [h4, hLe]
      exact h3.2
theorem say_phones (bl : List Let) (ws : List Rn) : (sayC bl ws).map (·.phone) = ((List.range ws.length).map fun i => (ruleX bl ws i).pl).flatten := by
  unfold sayC soundF
  rw [List.map_flatMap, List.flatMap_def]
  congr 1
  apply List.map_congr_left
  intro i _
  rw [List.map_map]
  exact List.map_id' _
theorem faithful_plain {bl : List Let} {l : List Sp} {p : List Pr} {o : Lrn} (hp : One p) (h0 : optE l p o = 0) (hb : bkP bl = learnP l p o) {u : Sp} (hu : u ∈ l) (ha : alOk p u.word u.pl = true) : (sayC bl (runes u.word)).map (·.phone) = u.pl := by
  have hbo := learn_ok h0 hb
  have hb2 : bkP bl = teachP ((entC p l).flatMap evOf) o := by
    rw [hb]; unfold learnP; rw [if_pos h0]; rfl
  have hq : ∀ x ∈ (entC p l).flatMap evOf, EvS p x := by
    rw [ent_ev]
    intro x hx
    obtain ⟨u, hu, hx⟩ := List.mem_flatMap.1 hx
    exact evU_s p u x hx
  have h4 : 0 ≤ leastC p (runes u.word) u.pl := by unfold alOk at ha; simpa using ha
  have h6 : alP p u.word u.pl = pathC p (runes u.word) u.pl := by unfold alP; rw [if_pos ha]
  have h5 := path_ok h4
  rw [say_phones]
  conv => rhs; rw [← path_flat h4]
  congr 1
  refine List.ext_getElem (by simp [h5.1]) fun i h1 h2 => ?_
  have hi : i < (runes u.word).length := by simpa using h1
  rw [List.getElem_map, List.getElem_range]
  have hx : evAt (runes u.word) (alP p u.word u.pl) i ∈ (entC p l).flatMap evOf := by
    rw [ent_ev]
    refine List.mem_flatMap.2 ⟨u, hu, ?_⟩
    unfold evU
    rw [if_pos ha]
    unfold evOf
    exact List.mem_map.2 ⟨i, List.mem_range.2 hi, rfl⟩
  have h7 := rule_one hp hq hb2 hbo (ws := runes u.word) (i := i) hx rfl
  rw [h7]
  show nth (alP p u.word u.pl) i = _
  rw [h6, nth_get h2]
end Go.Proofs.YtkmbliojafefdaaGreatDoor

set_option autoImplicit false
set_option maxRecDepth 100000
namespace Go.Proofs.YtkmbliojafefdaaGreatDoor
open Go.Sx
open Enc (enc val)
end Go.Proofs.YtkmbliojafefdaaGreatDoor

set_option autoImplicit false
set_option maxRecDepth 100000
namespace Go.Proofs.YtkmbliojafefdaaGreatDoor
open Go.Sx
open Enc (enc val)
end Go.Proofs.YtkmbliojafefdaaGreatDoor

set_option autoImplicit false
set_option maxRecDepth 100000
namespace Go.Proofs.YtkmbliojafefdaaGreatDoor
open Go.Sx
open Enc (enc val)
end Go.Proofs.YtkmbliojafefdaaGreatDoor

set_option autoImplicit false
set_option maxRecDepth 100000
namespace Go.Proofs.YtkmbliojafefdaaGreatDoor
open Go.Sx
open Enc (enc val)
theorem map_eq_iff {α β : Type} [Inhabited α] (f : α → β) {a b : List α} : a.map f = b.map f ↔ a.length = b.length ∧ ∀ k, k < a.length → f (nth a k) = f (nth b k) := by
  constructor
  · intro h
    have hl : a.length = b.length := by simpa using congrArg List.length h
    refine ⟨hl, fun k hk => ?_⟩
    have h1 := congrArg (fun z => z[k]?) h
    simp only [List.getElem?_map, List.getElem?_eq_getElem hk, List.getElem?_eq_getElem (show k < b.length by omega), Option.map_some, Option.some.injEq] at h1
    rw [nth_get hk, nth_get (by omega)]; exact h1
  · intro ⟨hl, h⟩
    refine List.ext_getElem (by simpa using hl) fun k h1 h2 => ?_
    have := h k (by simpa using h1)
    rw [nth_get (by simpa using h1), nth_get (by simpa using h2)] at this
    simpa using this
def rlP (rl : List Chc) : List (List Cond × List ByteArray) := rl.map fun u => (u.tl, u.pl)
theorem bkP_iff {a b : List Let} : bkP a = bkP b ↔ a.length = b.length ∧ ∀ k, k < a.length → (nth a k).c = (nth b k).c ∧ rlP (nth a k).rl = rlP (nth b k).rl := by
  unfold bkP
  rw [map_eq_iff]
  simp only [Prod.mk.injEq]
  rfl
theorem rlP_iff {a b : List Chc} : rlP a = rlP b ↔ a.length = b.length ∧ ∀ k, k < a.length → (nth a k).tl = (nth b k).tl ∧ (nth a k).pl = (nth b k).pl := by
  unfold rlP
  rw [map_eq_iff]
  simp only [Prod.mk.injEq]
theorem sameBooks_spec (a b : Bk) (w : World) (ha : Stb w [] (BkIn a)) (hb : Stb w [] (BkIn b)) : Calls Tryz.prog 31 #[val a, val b] w fun e w' => e = .returned (.bool (decide (bkP a.bl = bkP b.bl))) ∧ Cl w [] [] w' := by
  have hA := rd_stb ha.here.1
  have hLa := rd_len hA.here
  have hB := rd_stb hb.here.1
  have hLb := rd_len hB.here
  refine calls_cw (vs := [_, _]) Tryz.func31 rfl Tryz.ntmps31 rfl (Cl.start0 w) ?_
  have hI : ∀ k, k < a.bl.length → LetIn (nth a.bl k) w := fun k hk => ha.here.2 _ (nth_mem hk)
  have hJ : ∀ k, k < b.bl.length → LetIn (nth b.bl k) w := fun k hk => hb.here.2 _ (nth_mem hk)
  refine cw_seq (cw_region ?_)
  refine sw_x rfl rfl rfl (e_box rfl rfl rfl) (fun b2 => ?_)
  refine sw_x rfl rfl rfl (e_box rfl rfl rfl) (fun b3 => ?_)
  refine zS rfl (q_assign rfl rfl) (sw_nil (post_then (cw_seq (cw_seq (cw_region (zS rfl (q_fieldAddr rfl rfl) ?_))))))
  refine zS rfl (q_loadC rfl rfl (by exact .tail _ (.head _)) rfl) ?_
  refine zS rfl (q_len rfl (.k rfl (.nil)) (stA (by assumption))) ?_
  refine zS rfl (q_fieldAddr rfl rfl) ?_
  refine zS rfl (q_loadC rfl rfl (by exact .head _) rfl) ?_
  refine zS rfl (q_len rfl (.k rfl (.nil)) (stA (by assumption))) ?_
  refine zS rfl (q_neq rfl rfl rfl) (sw_nil (post_then ?_))
  refine cw_cond rfl (fun h => ?_) (fun h => ?_)
  · have h2 : ¬ bkP a.bl = bkP b.bl := fun e => by
      have := (bkP_iff.1 e).1
      simp at h; omega
    refine cw_seq (cw_region (zS rfl (q_assign rfl rfl) (sw_nil (post_then (cw_ret (post_then_r (post_ret1 rfl (resOk_tmp rfl) ?_)))))))
    exact fun w' hw => ⟨by rw [decide_eq_false h2], (Cl.sel (by exact .nil _)) _ hw⟩
  · have hl : a.bl.length = b.bl.length := by simp at h; omega
    refine cw_skip (post_then (cw_seq (cw_seq (cw_region (zS rfl (q_assign rfl rfl) (sw_nil (post_then (cw_block ?_))))))))
    refine cw_loop (S := Nat) (fun k => [(2, [], .pointer (some ⟨b2, 0, none⟩)), (3, [], .pointer (some ⟨b3, 0, none⟩)), (5, [], .int .i64 k)]) (fun _ => Cl w [] [blk b2 [a.b.v] 45, blk b3 [b.b.v] 45]) (fun k => k ≤ a.bl.length ∧ ∀ j, j < k → (nth a.bl j).c = (nth b.bl j).c ∧ rlP (nth a.bl j).rl = rlP (nth b.bl j).rl) (fun k => a.bl.length - k) 0 ⟨Nat.zero_le _, fun j hj => by omega⟩ (by exact .cons rfl (.cons rfl (.cons rfl .nil))) (Cl.sel (by exact .take 1 rfl (.take 0 rfl (.nil _)))) ?_
    rintro k ⟨hk, hbe⟩
    refine cw_seq (cw_seq (cw_region (zS rfl (q_move rfl rfl) (zS rfl (q_fieldAddr rfl rfl) ?_))))
    refine zS rfl (q_loadC rfl rfl (by exact .head _) rfl) ?_
    refine zS rfl (q_len rfl (.k rfl (.nil)) (stA (by assumption))) ?_
    refine zS rfl (q_lss rfl rfl rfl) (sw_nil (post_then ?_))
    refine cw_cond rfl (fun h2 => ?_) (fun h2 => ?_)
    · have hk' : k < a.bl.length := by simp at h2; omega
      have hkb : k < b.bl.length := by omega
      have hno : ¬ ((nth a.bl k).c = (nth b.bl k).c ∧ rlP (nth a.bl k).rl = rlP (nth b.bl k).rl) → ¬ bkP a.bl = bkP b.bl := fun hn e => hn ((bkP_iff.1 e).2 k hk')
      obtain ⟨x, hx⟩ : ∃ x, nth a.bl k = x := ⟨_, rfl⟩
      obtain ⟨y, hy⟩ : ∃ y, nth b.bl k = y := ⟨_, rfl⟩
      have hIx := hI k hk'
      have hJy := hJ k hkb
      rw [hx] at hIx
      rw [hy] at hJy
      rw [hx, hy] at hno
      have rX := rd_stb hIx.1
      have rY := rd_stb hJy.1
      have lX := rd_len rX.here
      have lY := rd_len rY.here
      refine cw_skip (post_then (cw_seq (cw_block (cw_seq ?_))))
      refine cw_cut (S := Nat × Nat) (fun z => [(2, [], .pointer (some ⟨b2, 0, none⟩)), (3, [], .pointer (some ⟨b3, 0, none⟩)), (5, [], .int .i64 k), (6, [], .pointer (some ⟨z.1, 0, none⟩)), (7, [], .pointer (some ⟨z.2, 0, none⟩))]) (fun z => Cl w [] [blk z.1 (enc x) 61, blk z.2 (enc y) 61, blk b2 [a.b.v] 45, blk b3 [b.b.v] 45]) (fun _ => True) ?_ ?_
      · refine cw_region_a (Cl w [] [blk b2 [a.b.v] 45, blk b3 [b.b.v] 45]) [] mixed_Tryz ?_
        refine zk 0 (Cl.sel (by exact .take 0 rfl (.take 0 rfl (.nil _)))) rfl (q_fieldAddr rfl rfl) ?_
        refine zk 1 (Cl.sel (by exact .take 0 rfl (.take 0 rfl (.nil _)))) rfl (q_loadC rfl rfl (by exact .head _) rfl) ?_
        refine zp 2 rfl (q_move rfl rfl) ?_
        refine zk 3 (Cl.sel (by exact .take 0 rfl (.take 0 rfl (.nil _)))) rfl (q_indexN rfl rfl rfl (stA (by assumption)) (by intro hc; omega)) ?_
        refine zk 4 (Cl.sel (by exact .take 0 rfl (.take 0 rfl (.nil _)))) rfl (q_loadEl rfl rfl rfl (stA (by assumption)) (by intro hc; omega)) ?_
        refine zk 5 (Cl.sel (by exact .take 0 rfl (.take 0 rfl (.nil _)))) rfl (q_fieldAddr rfl rfl) ?_
        refine zk 6 (Cl.sel (by exact .take 0 rfl (.take 0 rfl (.nil _)))) rfl (q_loadC rfl rfl (by exact .tail _ (.head _)) rfl) ?_
        refine zp 7 rfl (q_move rfl rfl) ?_
        refine zk 8 (Cl.sel (by exact .take 0 rfl (.take 0 rfl (.nil _)))) rfl (q_indexN rfl rfl rfl (stA (by assumption)) (by intro hc; omega)) ?_
        refine zk 9 (Cl.sel (by exact .take 0 rfl (.take 0 rfl (.nil _)))) rfl (q_loadEl rfl rfl rfl (stA (by assumption)) (by intro hc; omega)) ?_
        refine aw_two 10 11 (by kernel_rfl) ?_ ?_
        · refine at_x 10 rfl rfl rfl rfl (e_alloc rfl) (by intro hb; exact fun _ => (Cl.sel (by exact .take 1 rfl (.take 1 rfl (.nil _))))) (fun b6 => ?_)
          refine aw_x 11 (by kernel_rfl) rfl rfl rfl rfl (e_alloc rfl) (by intro hb; exact fun _ => (Cl.sel (by exact .take 2 rfl (.take 2 rfl (.nil _))))) (fun b7 => ?_)
          refine aw_one0 12 (by kernel_rfl) rfl rfl rfl (e_store (i := 1) rfl rfl rfl rfl rfl rfl rfl rfl) (by intro hb; exact (Cl.sel (by exact .take 2 rfl (.take 2 rfl (.nil _))))) ?_
          refine aw_one0 13 (by kernel_rfl) rfl rfl rfl (e_store (i := 0) rfl rfl rfl rfl rfl rfl rfl rfl) (by intro hb; exact (Cl.sel (by exact .take 2 rfl (.take 2 rfl (.nil _))))) ?_
          refine aw_end (by kernel_rfl) ?_
          exact post_meet (b6, b7) (by exact .cons rfl (.cons rfl (.cons rfl (.cons rfl (.cons rfl .nil))))) (fun w' h => by rw [← hx, ← hy]; exact (Cl.sel (by exact .take 1 rfl (.take 0 rfl (.take 0 rfl (.take 0 rfl (.nil _)))))) _ h) trivial
        · refine at_x 11 rfl rfl rfl rfl (e_alloc rfl) (by intro hb; exact fun _ => (Cl.sel (by exact .take 1 rfl (.take 1 rfl (.nil _))))) (fun b7 => ?_)
          refine aw_x 10 (by kernel_rfl) rfl rfl rfl rfl (e_alloc rfl) (by intro hb; exact fun _ => (Cl.sel (by exact .take 2 rfl (.take 2 rfl (.nil _))))) (fun b6 => ?_)
          refine aw_one0 12 (by kernel_rfl) rfl rfl rfl (e_store (i := 0) rfl rfl rfl rfl rfl rfl rfl rfl) (by intro hb; exact (Cl.sel (by exact .take 2 rfl (.take 2 rfl (.nil _))))) ?_
          refine aw_one0 13 (by kernel_rfl) rfl rfl rfl (e_store (i := 1) rfl rfl rfl rfl rfl rfl rfl rfl) (by intro hb; exact (Cl.sel (by exact .take 2 rfl (.take 2 rfl (.nil _))))) ?_
          refine aw_end (by kernel_rfl) ?_
          exact post_meet (b6, b7) (by exact .cons rfl (.cons rfl (.cons rfl (.cons rfl (.cons rfl .nil))))) (fun w' h => by rw [← hx, ← hy]; exact (Cl.sel (by exact .take 0 rfl (.take 0 rfl (.take 0 rfl (.take 0 rfl (.nil _)))))) _ h) trivial
      rintro ⟨b6, b7⟩ _
      refine post_then (cw_seq (cw_seq (cw_region (zS rfl (q_fieldAddr rfl rfl) ?_))))
      refine zS rfl (q_loadC rfl rfl (by exact .head _) rfl) ?_
      refine zS rfl (q_fieldAddr rfl rfl) ?_
      refine zS rfl (q_loadC rfl rfl (by exact .tail _ (.head _)) rfl) ?_
      refine zS rfl (q_neq rfl rfl rfl) (zS rfl (q_move rfl rfl) (zS rfl (q_fieldAddr rfl rfl) ?_))
      refine zS rfl (q_loadC rfl rfl (by exact .head _) rfl) ?_
      refine zS rfl (q_len rfl (.k rfl (.nil)) (stA (by assumption))) ?_
      refine zS rfl (q_fieldAddr rfl rfl) ?_
      refine zS rfl (q_loadC rfl rfl (by exact .tail _ (.head _)) rfl) ?_
      refine zS rfl (q_len rfl (.k rfl (.nil)) (stA (by assumption))) ?_
      refine zS rfl (q_neq rfl rfl rfl) (zS rfl (q_or2 rfl rfl rfl) (sw_nil (post_then ?_)))
      refine cw_cond rfl (fun h3 => ?_) (fun h3 => ?_)
      · have h4 := hno fun e => by
          have := (rlP_iff.1 e.2).1
          have := e.1
          simp at h3; omega
        refine cw_seq (cw_region (zS rfl (q_assign rfl rfl) (sw_nil (post_then (cw_ret (post_then_r (post_blk_r (post_then_r (post_then_r (post_blk_r (post_then_r (post_ret1 rfl (resOk_tmp rfl) ?_))))))))))))
        exact fun w' hw => ⟨by rw [decide_eq_false h4], (Cl.sel (by exact .nil _)) _ hw⟩
      · have h4 : x.c = y.c ∧ x.rl.length = y.rl.length := by simp at h3; omega
        refine cw_skip (post_then (cw_seq (cw_region (zS rfl (q_assign rfl rfl) (sw_nil (post_then (cw_block ?_)))))))
        refine cw_loop (S := Nat) (fun j => [(2, [], .pointer (some ⟨b2, 0, none⟩)), (3, [], .pointer (some ⟨b3, 0, none⟩)), (5, [], .int .i64 k), (6, [], .pointer (some ⟨b6, 0, none⟩)), (7, [], .pointer (some ⟨b7, 0, none⟩)), (8, [], .int .i64 j)]) (fun _ => Cl w [] [blk b6 (enc x) 61, blk b7 (enc y) 61, blk b2 [a.b.v] 45, blk b3 [b.b.v] 45]) (fun j => j ≤ x.rl.length ∧ ∀ i, i < j → (nth x.rl i).tl = (nth y.rl i).tl ∧ (nth x.rl i).pl = (nth y.rl i).pl) (fun j => x.rl.length - j) 0 ⟨Nat.zero_le _, fun j hj => by omega⟩ (by exact .cons rfl (.cons rfl (.cons rfl (.cons rfl (.cons rfl (.cons rfl .nil)))))) (Cl.sel (by exact .take 0 rfl (.take 0 rfl (.take 0 rfl (.take 0 rfl (.nil _)))))) ?_
        rintro j ⟨hj, hbj⟩
        refine cw_seq (cw_seq (cw_region (zS rfl (q_move rfl rfl) (zS rfl (q_fieldAddr rfl rfl) ?_))))
        refine zS rfl (q_loadC rfl rfl (by exact .head _) rfl) ?_
        refine zS rfl (q_len rfl (.k rfl (.nil)) (stA (by assumption))) ?_
        refine zS rfl (q_lss rfl rfl rfl) (sw_nil (post_then ?_))
        refine cw_cond rfl (fun h5 => ?_) (fun h5 => ?_)
        · have hj' : j < x.rl.length := by simp at h5; omega
          have hjy : j < y.rl.length := by omega
          have g1 := hIx.2 _ (nth_mem hj')
          have g2 := hJy.2 _ (nth_mem hjy)
          have g1t := rd_stb g1.1
          have g1p := rd_stb g1.2
          have g2t := rd_stb g2.1
          have g2p := rd_stb g2.2
          have hno2 : ¬ ((nth x.rl j).tl = (nth y.rl j).tl ∧ (nth x.rl j).pl = (nth y.rl j).pl) → ¬ bkP a.bl = bkP b.bl := fun hn => hno fun e => hn ((rlP_iff.1 e.2).2 j hj')
          refine cw_skip (post_then (cw_seq (cw_block (cw_seq ?_))))
          refine cw_region_q mixed_Tryz (by kernel_rfl) ?_
          refine zq rfl (q_fieldAddr rfl rfl) ?_
          refine zq rfl (q_loadC rfl rfl (by exact .head _) rfl) ?_
          refine zq rfl (q_move rfl rfl) ?_
          refine zq rfl (q_indexN rfl rfl rfl (stA (by assumption)) (by intro hc; omega)) ?_
          refine zq rfl (q_fieldEl rfl rfl (stA (by assumption)) (by intro hc; omega)) ?_
          refine zq rfl (q_loadF rfl rfl rfl (stA (by assumption)) (by intro hc; omega) rfl) ?_
          refine zq rfl (q_fieldAddr rfl rfl) ?_
          refine zq rfl (q_loadC rfl rfl (by exact .tail _ (.head _)) rfl) ?_
          refine zq rfl (q_move rfl rfl) ?_
          refine zq rfl (q_indexN rfl rfl rfl (stA (by assumption)) (by intro hc; omega)) ?_
          refine zq rfl (q_fieldEl rfl rfl (stA (by assumption)) (by intro hc; omega)) ?_
          refine zq rfl (q_loadF rfl rfl rfl (stA (by assumption)) (by intro hc; omega) rfl) ?_
          refine qw_step rfl rfl rfl (q_call (CanCall.mk Tryz.call38) rfl (.k rfl (.k rfl (.nil))) (fun _ w hw => callq hw (order_spec _ _ _ _ w (by exact stb_arg hw (by assumption)) (by exact stb_arg hw (by assumption))))) ?_
          refine zq rfl (q_neq rfl rfl rfl) (zq rfl (q_move rfl rfl) (zq rfl (q_fieldAddr rfl rfl) ?_))
          refine zq rfl (q_loadC rfl rfl (by exact .head _) rfl) ?_
          refine zq rfl (q_move rfl rfl) ?_
          refine zq rfl (q_indexN rfl rfl rfl (stA (by assumption)) (by intro hc; omega)) ?_
          refine zq rfl (q_fieldEl rfl rfl (stA (by assumption)) (by intro hc; omega)) ?_
          refine zq rfl (q_loadF rfl rfl rfl (stA (by assumption)) (by intro hc; omega) rfl) ?_
          refine zq rfl (q_fieldAddr rfl rfl) ?_
          refine zq rfl (q_loadC rfl rfl (by exact .tail _ (.head _)) rfl) ?_
          refine zq rfl (q_move rfl rfl) ?_
          refine zq rfl (q_indexN rfl rfl rfl (stA (by assumption)) (by intro hc; omega)) ?_
          refine zq rfl (q_fieldEl rfl rfl (stA (by assumption)) (by intro hc; omega)) ?_
          refine zq rfl (q_loadF rfl rfl rfl (stA (by assumption)) (by intro hc; omega) rfl) ?_
          refine qw_step rfl rfl rfl (q_call (CanCall.mk Tryz.call60) rfl (.k rfl (.k rfl (.nil))) (fun _ w hw => callq hw (sameTests_spec _ _ _ _ w (by exact stb_arg hw (by assumption)) (by exact stb_arg hw (by assumption))))) ?_
          refine zq rfl (q_not rfl rfl) (zq rfl (q_or2 rfl rfl rfl) (qw_end (post_then ?_)))
          refine cw_cond rfl (fun h6 => ?_) (fun h6 => ?_)
          · have h7 := hno2 fun e => by
              rw [e.1, e.2] at h6
              simp [ordL_self] at h6
            refine cw_seq (cw_region (zS rfl (q_assign rfl rfl) (sw_nil (post_then (cw_ret (post_blk_r (post_then_r (post_then_r (post_blk_r (post_blk_r (post_then_r (post_then_r (post_blk_r (post_then_r (post_ret1 rfl (resOk_tmp rfl) ?_)))))))))))))))
            exact fun w' hw => ⟨by rw [decide_eq_false h7], (Cl.sel (by exact .nil _)) _ hw⟩
          · have h7 : (nth x.rl j).tl = (nth y.rl j).tl ∧ (nth x.rl j).pl = (nth y.rl j).pl := by
              simp at h6
              exact ⟨h6.2, (ordL_eq _ _).1 h6.1⟩
            refine cw_skip (post_blk (post_then (cw_region (zS rfl (q_move rfl rfl) ?_))))
            refine zS rfl (q_add rfl rfl rfl (by intro hc; omega)) ?_
            refine zS rfl (q_assign rfl rfl) (sw_nil ?_)
            exact post_next (j + 1) (by exact .cons rfl (.cons rfl (.cons rfl (.cons rfl (.cons rfl (.cons rfl .nil)))))) (Cl.sel (by exact .take 0 rfl (.take 0 rfl (.take 0 rfl (.take 0 rfl (.nil _)))))) ⟨by omega, fun i hi => by
              rcases Nat.lt_or_ge i j with h8 | h8
              · exact hbj i h8
              · have : i = j := by omega
                subst this; exact h7⟩ (by omega)
        · have hj' : j = x.rl.length := by simp at h5; omega
          subst hj'
          refine cw_exit (post_then_x (post_then_x (post_blk_eq (post_blk (post_then (cw_region (zS rfl (q_move rfl rfl) ?_)))))))
          refine zS rfl (q_add rfl rfl rfl (by intro hc; omega)) ?_
          refine zS rfl (q_assign rfl rfl) (sw_nil ?_)
          exact post_next (k + 1) (by exact .cons rfl (.cons rfl (.cons rfl .nil))) (Cl.sel (by exact .take 2 rfl (.take 2 rfl (.nil _)))) ⟨by omega, fun i hi => by
            rcases Nat.lt_or_ge i k with h6 | h6
            · exact hbe i h6
            · have : i = k := by omega
              subst this
              rw [hx, hy]
              exact ⟨h4.1, rlP_iff.2 ⟨h4.2, hbj⟩⟩⟩ (by omega)
    · have hk' : k = a.bl.length := by simp at h2; omega
      have h4 : bkP a.bl = bkP b.bl := bkP_iff.2 ⟨hl, fun i hi => hbe i (by omega)⟩
      refine cw_exit (post_then_x (post_then_x (post_blk_eq (post_then (cw_seq (cw_region (zS rfl (q_assign rfl rfl) (sw_nil (post_then (cw_ret (post_ret1 rfl (resOk_tmp rfl) ?_)))))))))))
      exact fun w' hw => ⟨by rw [decide_eq_true h4], (Cl.sel (by exact .nil _)) _ hw⟩
end Go.Proofs.YtkmbliojafefdaaGreatDoor

set_option autoImplicit false
set_option maxRecDepth 100000
namespace Go.Proofs.YtkmbliojafefdaaGreatDoor
open Go.Sx
open Enc (enc val)
end Go.Proofs.YtkmbliojafefdaaGreatDoor

set_option autoImplicit false
set_option maxRecDepth 100000
namespace Go.Proofs.YtkmbliojafefdaaGreatDoor
open Go.Sx
open Enc (enc val)
def brP (u : Sp) : Bool := decide (u.word.size ≤ 12) && decide (u.pl.length ≤ 20)
def brf (l : List Sp) : Bool := (l.take 21).all brP
theorem nth_take {α : Type} [Inhabited α] {l : List α} {n k : Nat} (h : k < n) : nth (l.take n) k = nth l k := by
  by_cases h1 : k < l.length
  · rw [nth_get h1, nth_get (by rw [List.length_take]; omega), List.getElem_take]
  · have e : ∀ m : List α, m.length ≤ k → nth m k = default := fun m hm => by
      unfold nth
      simp [List.getElem?_eq_none hm]
    rw [e _ (by rw [List.length_take]; omega), e _ (by omega)]
theorem brief_spec (sv : Value) (l : List Sp) (hz : ∀ u ∈ l, u.word.size ≤ 9223372036854775807) (w : World) (hs : Stb w [] (RdL sv l)) (hp : Stb w [] fun w' => ∀ u ∈ l, SpIn u w') : Calls Tryz.prog 28 #[sv] w fun e w' => e = .returned (.bool (brf l)) ∧ Cl w [] [] w' := by
  have hL := rd_len hs.here
  refine calls_cw (vs := [_]) Tryz.func28 rfl Tryz.ntmps28 rfl (Cl.start0 w) (cw_seq (cw_region (zS rfl (q_assign rfl rfl) (sw_nil (post_then (cw_seq (cw_seq (cw_region (zS rfl (q_assign rfl rfl) (sw_nil (post_then (cw_block ?_))))))))))))
  refine cw_loop (S := Nat) (fun k => [(0, [], sv), (3, [], .int .i64 k)]) (fun _ => Cl w [] []) (fun k => k ≤ l.length ∧ k ≤ 21 ∧ ∀ i, i < k → brP (nth l i) = true) (fun k => l.length - k) 0 ⟨by omega, by omega, fun j hj => by omega⟩ (by exact .cons rfl (.cons rfl .nil)) (Cl.sel (by exact .nil _)) ?_
  rintro k ⟨hk, hk21, hbe⟩
  refine cw_seq (cw_seq (cw_region (zS rfl (q_move rfl rfl) (zS rfl (q_move rfl rfl) ?_))))
  refine zS rfl (q_len rfl (.k rfl (.nil)) (stA (by assumption))) ?_
  refine zS rfl (q_lss rfl rfl rfl) (zS rfl (q_move rfl rfl) (zS rfl (q_move rfl rfl) (zS rfl (q_leq rfl rfl rfl) (zS rfl (q_and2 rfl rfl rfl) (sw_nil (post_then ?_))))))
  refine cw_cond rfl (fun h2 => ?_) (fun h2 => ?_)
  · have hk' : k < l.length ∧ k < 21 := by simp at h2; omega
    have hx := rd_stb (hp.here _ (nth_mem hk'.1))
    have hzk := hz _ (nth_mem hk'.1)
    refine cw_skip (post_then (cw_seq (cw_block (cw_seq (cw_region (zS rfl (q_move rfl rfl) (zS rfl (q_move rfl rfl) ?_)))))))
    refine zS rfl (q_indexN rfl rfl rfl (stA (by assumption)) (by intro hc; omega)) ?_
    refine zS rfl (q_fieldEl rfl rfl (stA (by assumption)) (by intro hc; omega)) ?_
    refine zS rfl (q_loadF rfl rfl rfl (stA (by assumption)) (by intro hc; omega) rfl) ?_
    refine zS rfl (q_lenS rfl (.k rfl (.nil)) Tryz.underlying9) (zS rfl (q_gtr rfl rfl rfl) (zS rfl (q_move rfl rfl) (zS rfl (q_move rfl rfl) (zS rfl (q_move rfl rfl) ?_))))
    refine zS rfl (q_indexN rfl rfl rfl (stA (by assumption)) (by intro hc; omega)) ?_
    refine zS rfl (q_fieldEl rfl rfl (stA (by assumption)) (by intro hc; omega)) ?_
    refine zS rfl (q_loadF rfl rfl rfl (stA (by assumption)) (by intro hc; omega) rfl) ?_
    refine zS rfl (q_len rfl (.k rfl (.nil)) (stA (by assumption))) ?_
    refine zS rfl (q_gtr rfl rfl rfl) (zS rfl (q_or2 rfl rfl rfl) (sw_nil (post_then ?_)))
    refine cw_cond rfl (fun h3 => ?_) (fun h3 => ?_)
    · have e0 : brP (nth l k) = false := by
        unfold brP
        simp at h3 ⊢; omega
      have e1 : brf l = false := by
        unfold brf
        exact all_no (k := k) (by rw [List.length_take]; omega) (by rw [nth_take hk'.2]; exact e0)
      refine cw_seq (cw_region (zS rfl (q_assign rfl rfl) (sw_nil (post_then (cw_ret (post_blk_r (post_then_r (post_then_r (post_blk_r (post_then_r (post_ret1 rfl (resOk_tmp rfl) ?_)))))))))))
      exact fun w' hw => ⟨by rw [e1], (Cl.sel (by exact .nil _)) _ hw⟩
    · have e1 : brP (nth l k) = true := by
        unfold brP
        simp at h3 ⊢; omega
      refine cw_skip (post_blk (post_then (cw_region (zS rfl (q_move rfl rfl) ?_))))
      refine zS rfl (q_add rfl rfl rfl (by intro hc; omega)) ?_
      refine zS rfl (q_assign rfl rfl) (sw_nil ?_)
      exact post_next (k + 1) (by exact .cons rfl (.cons rfl .nil)) (Cl.sel (by exact .nil _)) ⟨by omega, by omega, fun i hi => by
        rcases Nat.lt_or_ge i k with h6 | h6
        · exact hbe i h6
        · have : i = k := by omega
          subst this; exact e1⟩ (by omega)
  · have hk' : k = l.length ∨ k = 21 := by simp at h2; omega
    have e1 : brf l = true := by
      unfold brf
      refine all_yes fun i hi => ?_
      rw [List.length_take] at hi
      rw [nth_take (by omega)]
      exact hbe i (by omega)
    refine cw_exit (post_then_x (post_then_x (post_blk_eq (post_then (cw_seq (cw_region (zS rfl (q_assign rfl rfl) (sw_nil (post_then (cw_ret (post_ret1 rfl (resOk_tmp rfl) ?_)))))))))))
    exact fun w' hw => ⟨by rw [e1], (Cl.sel (by exact .nil _)) _ hw⟩
theorem optE_val (l : List Sp) (p : List Pr) (o : Lrn) : optE l p o = if 3000 < l.length ∨ 1000 < p.length then 4 else if lexOk l && prsOk p && lrnB o then 0 else 2 := by
  have e1 : lexE l = if 3000 < l.length then 4 else if lexOk l then 0 else 2 := by unfold lexE lexOk; rfl
  have e2 : prsE p = if 1000 < p.length then 4 else if prsOk p then 0 else 2 := by unfold prsE prsOk; rfl
  unfold optE
  rw [e1, e2]
  by_cases h1 : 3000 < l.length <;> by_cases h2 : 1000 < p.length <;> cases h3 : lexOk l <;> cases h4 : prsOk p <;> cases h5 : lrnB o <;> simp [h1, h2] <;> decide
theorem shape_spec (sl sp : SlV) (l : List Sp) (p : List Pr) (o : Lrn) (hz : ∀ u ∈ l, u.word.size ≤ 1000 ∧ ∀ b ∈ u.pl, b.size ≤ 9223372036854775807) (hzp : ∀ u ∈ p, ∀ b ∈ u.pl, b.size ≤ 9223372036854775807) (w : World) (hT : Stb w [] Tab) (hs : Stb w [] (RdL sl.v l)) (hsi : Stb w [] fun w' => ∀ u ∈ l, SpIn u w') (hp : Stb w [] (RdL sp.v p)) (hpi : Stb w [] fun w' => ∀ u ∈ p, PrIn u w') :
    Calls Tryz.prog 30 #[sl.v, sp.v, val o] w fun e w' => e = .returned (.int .i64 (optE l p o)) ∧ Cl w [] [] w' := by
  have hL1 := rd_len hs.here
  have hL2 := rd_len hp.here
  refine calls_cw (vs := [_, _, _]) Tryz.func30 rfl Tryz.ntmps30 rfl (Cl.start0 w) (cw_seq (cw_region ?_))
  refine sw_x rfl rfl rfl (e_box rfl rfl rfl) (fun b5 => ?_)
  refine zS rfl (q_assign rfl rfl) (sw_nil (post_then (cw_seq (cw_seq (cw_region (zS rfl (q_move rfl rfl) ?_))))))
  refine zS rfl (q_len rfl (.k rfl (.nil)) (stA (by assumption))) ?_
  refine zS rfl (q_gtr rfl rfl rfl) (zS rfl (q_move rfl rfl) (zS rfl (q_move rfl rfl) ?_))
  refine zS rfl (q_len rfl (.k rfl (.nil)) (stA (by assumption))) ?_
  refine zS rfl (q_gtr rfl rfl rfl) (zS rfl (q_or2 rfl rfl rfl) (sw_nil (post_then ?_)))
  refine cw_cond rfl (fun h => ?_) (fun h => ?_)
  · have e1 : optE l p o = 4 := by rw [optE_val, if_pos (by simp at h; omega)]
    refine cw_seq (cw_region (zS rfl (q_assign rfl rfl) (sw_nil (post_then (cw_ret (post_then_r (post_ret1 rfl (resOk_tmp rfl) ?_)))))))
    exact fun w' hw => ⟨by rw [e1], (Cl.sel (by exact .nil _)) _ hw⟩
  · have e0 : optE l p o = if lexOk l && prsOk p && lrnB o then 0 else 2 := by rw [optE_val, if_neg (by simp at h; omega)]
    refine cw_skip (post_then (cw_seq (cw_seq (cw_region (zS rfl (q_move rfl rfl) (sw_step rfl rfl rfl (q_call (CanCall.mk Tryz.call51) rfl (.k rfl (.nil)) (fun _ w hw => callq hw (refLexicon_spec _ l hz w (stb_arg hw hT) (stb_arg hw hs) (stb_arg hw hsi)))) (zS rfl (q_not rfl rfl) (zS rfl (q_move rfl rfl) (zS rfl (q_move rfl rfl) (sw_step rfl rfl rfl (q_call (CanCall.mk Tryz.call22) rfl (.k rfl (.nil)) (fun _ w hw => callq hw (refPairs_spec _ p hzp w (stb_arg hw hp) (stb_arg hw hpi)))) (zS rfl (q_not rfl rfl) (zS rfl (q_or2 rfl rfl rfl) (zS rfl (q_move rfl rfl) (zS rfl (q_fieldAddr rfl rfl) ?_))))))))))))))
    refine zS rfl (q_loadC rfl rfl (by exact .head _) rfl) ?_
    refine zS rfl (q_lss rfl rfl rfl) (zS rfl (q_or2 rfl rfl rfl) (zS rfl (q_move rfl rfl) (zS rfl (q_fieldAddr rfl rfl) ?_)))
    refine zS rfl (q_loadC rfl rfl (by exact .head _) rfl) ?_
    refine zS rfl (q_gtr rfl rfl rfl) (zS rfl (q_or2 rfl rfl rfl) (zS rfl (q_move rfl rfl) (zS rfl (q_fieldAddr rfl rfl) ?_)))
    refine zS rfl (q_loadC rfl rfl (by exact .head _) rfl) ?_
    refine zS rfl (q_lss rfl rfl rfl) (zS rfl (q_or2 rfl rfl rfl) (zS rfl (q_move rfl rfl) (zS rfl (q_fieldAddr rfl rfl) ?_)))
    refine zS rfl (q_loadC rfl rfl (by exact .head _) rfl) ?_
    refine zS rfl (q_gtr rfl rfl rfl) (zS rfl (q_or2 rfl rfl rfl) (zS rfl (q_move rfl rfl) (zS rfl (q_fieldAddr rfl rfl) ?_)))
    refine zS rfl (q_loadC rfl rfl (by exact .head _) rfl) ?_
    refine zS rfl (q_lss rfl rfl rfl) (zS rfl (q_or2 rfl rfl rfl) (zS rfl (q_move rfl rfl) (zS rfl (q_fieldAddr rfl rfl) ?_)))
    refine zS rfl (q_loadC rfl rfl (by exact .head _) rfl) ?_
    refine zS rfl (q_gtr rfl rfl rfl) (zS rfl (q_or2 rfl rfl rfl) (sw_nil (post_then ?_)))
    refine cw_cond rfl (fun h2 => ?_) (fun h2 => ?_)
    · have e1 : optE l p o = 2 := by
        rw [e0, if_neg]
        unfold lrnB
        intro h3
        simp only [Bool.and_eq_true, decide_eq_true_eq] at h3
        simp [h3.1.1, h3.1.2] at h2
        omega
      refine cw_seq (cw_region (zS rfl (q_assign rfl rfl) (sw_nil (post_then (cw_ret (post_then_r (post_ret1 rfl (resOk_tmp rfl) ?_)))))))
      exact fun w' hw => ⟨by rw [e1], (Cl.sel (by exact .nil _)) _ hw⟩
    · have e1 : optE l p o = 0 := by
        rw [e0, if_pos]
        unfold lrnB
        simp only [Bool.and_eq_true, decide_eq_true_eq]
        simp at h2
        exact ⟨⟨h2.1.1.1.1.1.1.1, h2.1.1.1.1.1.1.2⟩, by omega⟩
      refine cw_skip (post_then (cw_seq (cw_region (zS rfl (q_assign rfl rfl) (sw_nil (post_then (cw_ret (post_ret1 rfl (resOk_tmp rfl) ?_))))))))
      exact fun w' hw => ⟨by rw [e1], (Cl.sel (by exact .nil _)) _ hw⟩
theorem brf_z {l : List Sp} (hl : l.length ≤ 20) (h : brf l = true) : ∀ u ∈ l, u.word.size ≤ 12 ∧ u.pl.length ≤ 20 := fun u hu => by
  unfold brf at h
  rw [List.take_of_length_le (by omega), List.all_eq_true] at h
  have := h u hu
  unfold brP at this
  simpa using this
theorem abc_few {l : List Sp} {p : List Pr} {n : Nat} (hl : l.length ≤ n) (h : ∀ u ∈ l, u.word.size ≤ 12) : ((entC p l).flatMap evOf).length ≤ n * 12 ∧ (abcC ((entC p l).flatMap evOf)).length ≤ n * 12 := by
  have h1 := evs_len (p := p) (l := l) (n := 12) fun u hu => by have := h u hu; have := runes_len_le u.word; omega
  have h2 := abc_le ((entC p l).flatMap evOf)
  have h3 : l.length * 12 ≤ n * 12 := Nat.mul_le_mul_right 12 hl
  omega
theorem lawLex_len {l : List Sp} {most : Int} (h : lawLex l most = true) : (l.length : Int) ≤ most ∨ 3000 < l.length := by
  unfold lawLex at h
  simp only [Bool.and_eq_true, Bool.not_eq_true', Bool.or_eq_false_iff, Bool.and_eq_false_iff, decide_eq_false_iff_not] at h
  omega
theorem optE_long {l : List Sp} {p : List Pr} {o : Lrn} (h : optE l p o = 0) : l.length ≤ 3000 ∧ p.length ≤ 1000 := by
  rw [optE_val] at h
  split at h
  · cases h
  · omega
end Go.Proofs.YtkmbliojafefdaaGreatDoor

set_option autoImplicit false
set_option maxRecDepth 100000
set_option maxHeartbeats 1000000
namespace Go.Proofs.YtkmbliojafefdaaGreatDoor
open Go.Sx
open Enc (enc val)
theorem law_z {l : List Sp} {p : List Pr} {n : Int} (h : lawLex l n = true ∧ brf l = true ∧ lawPrs p = true) : (∀ u ∈ l, u.word.size ≤ 1000 ∧ ∀ b ∈ u.pl, b.size ≤ 9223372036854775807) ∧ (∀ u ∈ p, ∀ b ∈ u.pl, b.size ≤ 9223372036854775807) := by
  have z1 := lawLex_z h.1
  have z2 := lawPrs_z h.2.2
  exact ⟨fun u hu => ⟨by have := (z1 u hu).1; omega, fun b hb => by have := (z1 u hu).2.2 b hb; omega⟩, fun u hu b hb => by have := (z2 u hu).2 b hb; omega⟩
theorem law_few {l : List Sp} {p : List Pr} {o : Lrn} {n : Nat} (hn : n ≤ 20) (h : lawLex l n = true ∧ brf l = true ∧ lawPrs p = true) (h0 : optE l p o = 0) : l.length ≤ n ∧ ∀ u ∈ l, u.word.size ≤ 12 ∧ u.pl.length ≤ 20 := by
  have h1 := lawLex_len h.1
  have h2 := optE_long h0
  have hl : l.length ≤ n := by omega
  exact ⟨hl, brf_z (by omega) h.2.1⟩
end Go.Proofs.YtkmbliojafefdaaGreatDoor

set_option autoImplicit false
set_option maxRecDepth 100000
set_option maxHeartbeats 1000000
namespace Go.Proofs.YtkmbliojafefdaaGreatDoor
open Go.Sx
open Enc (enc val)
theorem sw_cl {P : Program} {ops : Array Oper} {l : List Oper} {Q : Exit → Act → World → Prop} {n : Fr} {E : Env} {C C' : World → Prop} (hC : ∀ w, C w → C' w) (h : SW P ops Q l n E C') : SW P ops Q l n E C := fun a w ha hw => h a w ha (hC w hw)
def sglB (p : List Pr) (n : Nat) : Bool := (List.range n).all fun j => decide (j = 0) || decide ((nth p j).c ≠ (nth p (j - 1)).c)
theorem sgl_succ (p : List Pr) (n : Nat) : sglB p (n + 1) = (sglB p n && (decide (n = 0) || decide ((nth p n).c ≠ (nth p (n - 1)).c))) := by
  unfold sglB
  rw [List.range_succ, List.all_append]
  simp
theorem sgl_lt {p : List Pr} (ha : Asc p) (h : sglB p p.length = true) : ∀ i j, i < j → j < p.length → (nth p i).c < (nth p j).c := by
  unfold sglB at h
  rw [List.all_eq_true] at h
  intro i j hij hj
  have h1 := h j (List.mem_range.2 hj)
  simp only [Bool.or_eq_true, decide_eq_true_eq] at h1
  have h2 := ha (j - 1) j (by omega) hj
  have h3 : (nth p i).c ≤ (nth p (j - 1)).c := by
    rcases Nat.eq_or_lt_of_le (show i ≤ j - 1 by omega) with e | e
    · rw [e]; exact Int.le_refl _
    · exact ha i (j - 1) e (by omega)
  have h4 : (nth p j).c ≠ (nth p (j - 1)).c := by
    rcases h1 with h1 | h1
    · omega
    · exact h1
  omega
theorem one_of {p : List Pr} (ha : Asc p) (h : sglB p p.length = true) : One p := by
  have h1 := sgl_lt ha h
  intro x hx y hy hc
  obtain ⟨i, hi, rfl⟩ := List.getElem_of_mem hx
  obtain ⟨j, hj, rfl⟩ := List.getElem_of_mem hy
  rcases Nat.lt_trichotomy i j with e | e | e
  · have := h1 i j e hj
    rw [nth_get hi, nth_get hj] at this
    omega
  · subst e; rfl
  · have := h1 j i e hi
    rw [nth_get hi, nth_get hj] at this
    omega
theorem optE_grow {l : List Sp} {p : List Pr} {o : Lrn} {b : Int} (h0 : optE l p o = 0) (h : prsOk (p.map (grow b)) = true) : optE l (p.map (grow b)) o = 0 := by
  rw [optE_val] at h0 ⊢
  rw [List.length_map]
  split at h0
  · cases h0
  · rename_i h1
    rw [if_neg h1]
    split at h0
    · rename_i h2
      simp only [Bool.and_eq_true] at h2
      rw [if_pos (by simp [h2.1.1, h2.2, h])]
    · cases h0
theorem learnP_grow {l : List Sp} {p : List Pr} {o : Lrn} {b : Int} (hb : 0 ≤ b) (h0 : optE l p o = 0) (h : prsOk (p.map (grow b)) = true) : learnP l (p.map (grow b)) o = learnP l p o := by
  obtain ⟨_, o2, _⟩ := optE_zero h0
  obtain ⟨_, y2, _⟩ := prsE_zero o2
  unfold learnP
  rw [if_pos h0, if_pos (optE_grow h0 h), ent_grow hb y2]
def mixP (b : Int) (p : List Pr) (i : Nat) : List Pr := (p.take i).map (grow b) ++ p.drop i
theorem mixP_len (b : Int) (p : List Pr) (i : Nat) : (mixP b p i).length = p.length := by
  unfold mixP
  simp only [List.length_append, List.length_map, List.length_take, List.length_drop]; omega
theorem mixP_at {b : Int} {p : List Pr} {i : Nat} (hi : i < p.length) : nth (mixP b p i) i = nth p i := by
  have h1 : i < ((p.take i).map (grow b) ++ p.drop i).length := by simp; omega
  show nth ((p.take i).map (grow b) ++ p.drop i) i = nth p i
  rw [nth_get h1, nth_get hi, List.getElem_append_right (by simp; omega), List.getElem_drop]
  congr 1
  simp; omega
theorem mixP_set {b : Int} {p : List Pr} {i : Nat} (hi : i < p.length) : (mixP b p i).set i (grow b (nth p i)) = mixP b p (i + 1) := by
  unfold mixP
  have h1 : ((p.take i).map (grow b)).length = i := by simp; omega
  rw [List.set_append_right _ _ (by omega), h1, Nat.sub_self, List.drop_eq_getElem_cons hi, List.set_cons_zero, List.take_succ_eq_append_getElem hi, List.map_append, List.append_assoc, nth_get hi]
  rfl
theorem mixP_all (b : Int) (p : List Pr) : mixP b p p.length = p.map (grow b) := by
  unfold mixP; rw [List.take_length, List.drop_length, List.append_nil]
theorem faithful_spec (sl sp : SlV) (l : List Sp) (p : List Pr) (o : Lrn) (g : Int) (hz : ∀ u ∈ l, u.word.size ≤ 9223372036854775807) (w : World) (hT : Stb w [] Tab) (hs : Stb w [] (RdL sl.v l)) (hsi : Stb w [] fun w' => ∀ u ∈ l, SpIn u w') (hp : Stb w [] (RdL sp.v p)) (hpi : Stb w [] fun w' => ∀ u ∈ p, PrIn u w') :
    Calls Tryz.prog 7 #[sl.v, sp.v, val o, .int .i64 g] w fun e w' => e = .returned (.bool true) ∧ Cl w [] [] w' := by
  have hL1 := rd_len hs.here
  have hL2 := rd_len hp.here
  refine calls_cw (vs := [_, _, _, _]) Tryz.func7 rfl Tryz.ntmps7 rfl (Cl.start0 w) (cw_seq (cw_region ?_))
  refine sw_x rfl rfl rfl (e_box rfl rfl rfl) (fun b6 => ?_)
  refine zS rfl (q_assign rfl rfl) (sw_nil (post_then (cw_seq (cw_seq (cw_region (zS rfl (q_move rfl rfl) (sw_step rfl rfl rfl (q_call (CanCall.mk Tryz.call27) rfl (.k rfl (.k rfl (.nil))) (fun _ w hw => callq hw (lawLex_spec _ l 8 hz w (stb_arg hw hs) (stb_arg hw hsi)))) (zS rfl (q_not rfl rfl) (zS rfl (q_move rfl rfl) (zS rfl (q_move rfl rfl) (sw_step rfl rfl rfl (q_call (CanCall.mk Tryz.call28) rfl (.k rfl (.nil)) (fun _ w hw => callq hw (brief_spec _ l hz w (stb_arg hw hs) (stb_arg hw hsi)))) (zS rfl (q_not rfl rfl) (zS rfl (q_or2 rfl rfl rfl) (zS rfl (q_move rfl rfl) (zS rfl (q_move rfl rfl) (sw_step rfl rfl rfl (q_call (CanCall.mk Tryz.call17) rfl (.k rfl (.nil)) (fun _ w hw => callq hw (lawPairs_spec _ p w (stb_arg hw hp) (stb_arg hw hpi)))) (zS rfl (q_not rfl rfl) (zS rfl (q_or2 rfl rfl rfl) (zS rfl (q_move rfl rfl) (zS rfl (q_move rfl rfl) (zS rfl (q_move rfl rfl) ?_)))))))))))))))))))))
  refine zS rfl (q_loadA rfl rfl (by exact .head _) rfl) ?_
  refine sw_step rfl rfl rfl (q_call (CanCall.mk Tryz.call30) rfl (.k rfl (.k rfl (.k rfl (.nil)))) (fun hcs w hw => callq hw (shape_spec sl sp l p o (law_z (by simpa [AllT, and_assoc] using hcs)).1 (law_z (n := 8) (l := l) (by simpa [AllT, and_assoc] using hcs)).2 w (stb_arg hw hT) (stb_arg hw hs) (stb_arg hw hsi) (stb_arg hw hp) (stb_arg hw hpi)))) ?_
  refine zS rfl (q_neq rfl rfl rfl) (zS rfl (q_or2 rfl rfl rfl) (zS rfl (q_move rfl rfl) (zS rfl (q_move rfl rfl) (zS rfl (q_lss rfl rfl rfl) (zS rfl (q_or2 rfl rfl rfl) (zS rfl (q_move rfl rfl) (zS rfl (q_move rfl rfl) (zS rfl (q_gtr rfl rfl rfl) (zS rfl (q_or2 rfl rfl rfl) (sw_nil (post_then ?_)))))))))))
  refine cw_cond rfl (fun h => ?_) (fun h => ?_)
  · refine cw_seq (cw_region ?_)
    refine sw_step rfl rfl rfl (q_call (CanCall.mk Tryz.call19) rfl (.nil) (fun _ w hw => callq hw (known_spec w (stb_arg hw (by assumption))))) ?_
    refine zS rfl (q_assign rfl rfl) (sw_nil (post_then (cw_ret (post_then_r (post_ret1 rfl (resOk_tmp rfl) ?_)))))
    exact fun w' hw => ⟨rfl, (Cl.sel (by exact .nil _)) _ hw⟩
  · have h1 : ((lawLex l 8 = true ∧ brf l = true ∧ lawPrs p = true) ∧ optE l p o = 0) ∧ 0 ≤ g ∧ g ≤ 1000 := by
      simp at h; exact ⟨⟨⟨h.1.1.1.1.1, h.1.1.1.1.2, h.1.1.1.2⟩, h.1.1.2⟩, by omega, by omega⟩
    obtain ⟨⟨hlaw, h0⟩, hg0, hg1⟩ := h1
    obtain ⟨f1, f2⟩ := law_few (n := 8) (by omega) hlaw h0
    obtain ⟨o1, o2, o3⟩ := optE_zero h0
    obtain ⟨y1, y2, y3, y4, y5⟩ := prsE_zero o2
    have o4 := (lexE_zero2 o1).2
    have hsz : ∀ u ∈ l, u.word.size ≤ 1000000 := fun u hu => by have := (f2 u hu).1; omega
    refine cw_skip (post_then (cw_seq (cw_region (zS rfl (q_move rfl rfl) (zS rfl (q_move rfl rfl) ?_)))))
    refine zS rfl (q_loadA rfl rfl (by exact .head _) rfl) ?_
    refine sw_x rfl rfl rfl (e_call (CanCall.mk Tryz.call29) rfl (.k rfl (.k rfl (.k rfl (.nil)))) (fun w1 hw => learn_spec sl sp l p o hsz (fun h0 => by have := (abc_few (p := p) f1 fun u hu => (f2 u hu).1).2; omega) w1 (stb_arg hw hT) (stb_arg hw hs) (stb_arg hw hsi) (stb_arg hw hp) (stb_arg hw hpi))) (fun b => ?_)
    refine sw_imp fun hb => ?_
    rw [h0]
    refine zS rfl (q_move rfl rfl) (zS rfl (q_extract rfl rfl rfl) (zS rfl (q_extract rfl rfl rfl) ?_))
    refine sw_x rfl rfl rfl (e_alloc rfl) (fun b9 => ?_)
    refine sw_eff0 rfl rfl (e_store (i := 0) rfl rfl rfl rfl rfl rfl rfl rfl) (zS rfl (q_assign rfl rfl) (sw_nil (post_then (cw_seq (cw_region (zS rfl (q_move rfl rfl) ?_))))))
    refine sw_cl (C' := Cl w [] [ownL 68 (SlV.v ⟨none, 0, 0⟩) ([] : List Pr), blk b9 [b.b.v] 45, Sx.frz (BkIn b), blk b6 (enc o) 40]) (fun w' h => Cl.addNil (α := Pr) 68 ((Cl.sel (by exact .take 0 rfl (.take 0 rfl (.take 0 rfl (.nil _))))) _ h)) ?_
    refine sw_x rfl rfl rfl (e_append (α := Pr) (i := 0) (r := p) rfl (.k rfl (.k rfl (.nil))) rfl rfl (stA (by assumption)) (by simp only [List.length_nil]; omega) rfl) (fun s59 => ?_)
    refine zS rfl (q_assign rfl rfl) (sw_nil (post_then (cw_seq (cw_region (zS rfl (q_assign rfl rfl) (sw_nil (post_then (cw_seq (cw_seq (cw_region (zS rfl (q_assign rfl rfl) (sw_nil (post_then (cw_block ?_))))))))))))))
    refine cw_loop (S := Nat) (fun i => [(0, [], sl.v), (1, [], sp.v), (3, [], .int .i64 g), (6, [], .pointer (some ⟨b6, 0, none⟩)), (9, [], .pointer (some ⟨b9, 0, none⟩)), (10, [], .int .i64 0), (11, [], s59.v), (12, [], .bool (sglB p i)), (13, [], .int .i64 i)]) (fun i => Cl w [] [ownL 68 s59.v (mixP g p i), blk b9 [b.b.v] 45, Sx.frz (BkIn b), blk b6 (enc o) 40]) (fun i => i ≤ p.length) (fun i => p.length - i) 0 (Nat.zero_le _) (by exact .cons rfl (.cons rfl (.cons rfl (.cons rfl (.cons rfl (.cons rfl (.cons rfl (.cons rfl (.cons rfl .nil))))))))) (fun w' h => (Cl.sel (by exact .take 0 rfl (.take 0 rfl (.take 0 rfl (.take 0 rfl (.nil _)))))) _ h) ?_
    rintro i hi
    have hml := mixP_len g p i
    refine cw_seq (cw_seq (cw_region (zS rfl (q_move rfl rfl) (zS rfl (q_move rfl rfl) ?_))))
    refine zS rfl (q_len rfl (.k rfl (.nil)) (rdO (by exact .head _))) ?_
    refine zS rfl (q_lss rfl rfl rfl) (sw_nil (post_then ?_))
    refine cw_cond rfl (fun h3 => ?_) (fun h3 => ?_)
    · have hi' : i < p.length := by simp at h3; omega
      have hma := mixP_at (b := g) hi'
      have hco := y2 _ (nth_mem hi')
      have hco2 : (nth (mixP g p i) i).cost = (nth p i).cost := by rw [hma]
      refine cw_skip (post_then (cw_seq (cw_block (cw_seq (cw_region (zS rfl (q_move rfl rfl) (zS rfl (q_move rfl rfl) (zS rfl (q_move rfl rfl) (zS rfl (q_move rfl rfl) ?_)))))))))
      refine zS rfl (q_indexN rfl rfl rfl (rdO (by exact .head _)) (by intro hc; omega)) ?_
      refine zS rfl (q_fieldEl rfl rfl (rdO (by exact .head _)) (by intro hc; omega)) ?_
      refine zS rfl (q_loadF rfl rfl rfl (rdO (by exact .head _)) (by intro hc; omega) rfl) ?_
      refine zS rfl (q_move rfl rfl) ?_
      refine zS rfl (q_add rfl rfl rfl (by intro hc; omega)) ?_
      refine zS rfl (q_indexN rfl rfl rfl (rdO (by exact .head _)) (by intro hc; omega)) ?_
      refine zS rfl (q_fieldEl rfl rfl (rdO (by exact .head _)) (by intro hc; omega)) ?_
      refine sw_eff0 rfl rfl (e_storeEl (i := 0) (u := grow g (nth p i)) rfl rfl rfl rfl rfl rfl rfl rfl (by omega) (by simp only [Int.toNat_natCast, hma]; rfl) rfl) ?_
      have hms := mixP_set (b := g) hi'
      simp only [Int.toNat_natCast, hms]
      refine sw_nil (post_then ?_)
      refine cw_region_q mixed_Tryz (by kernel_rfl) ?_
      refine zq rfl (q_move rfl rfl) (zq rfl (q_move rfl rfl) (zq rfl (q_move rfl rfl) (zq rfl (q_eql rfl rfl rfl) (zq rfl (q_move rfl rfl) (zq rfl (q_move rfl rfl) (zq rfl (q_move rfl rfl) ?_))))))
      refine zq rfl (q_indexN rfl rfl rfl (stA (by assumption)) (by intro hc; omega)) ?_
      refine zq rfl (q_fieldEl rfl rfl (stA (by assumption)) (by intro hc; omega)) ?_
      refine zq rfl (q_loadF rfl rfl rfl (stA (by assumption)) (by intro hc; omega) rfl) ?_
      refine zq rfl (q_move rfl rfl) (zq rfl (q_move rfl rfl) ?_)
      refine zq rfl (q_sub rfl rfl rfl (by intro hc; omega)) ?_
      refine zq rfl (q_index rfl rfl rfl (stA (by assumption)) (by intro hc; (simp only [AllT.iff, List.all_cons, List.all_nil, id, Bool.and_eq_true, Bool.not_eq_true', decide_eq_true_eq, decide_eq_false_iff_not, and_true] at hc; omega))) ?_
      refine zq rfl (q_fieldEl rfl rfl (stA (by assumption)) (by intro hc; omega)) ?_
      refine zq rfl (q_loadF rfl rfl rfl (stA (by assumption)) (by intro hc; omega) rfl) ?_
      refine zq rfl (q_neq rfl rfl rfl) (zq rfl (q_or2 rfl rfl rfl) (zq rfl (q_and2 rfl rfl rfl) (zq rfl (q_assign rfl rfl) (qw_end (post_blk (post_then (cw_region (zS rfl (q_move rfl rfl) ?_))))))))
      refine zS rfl (q_add rfl rfl rfl (by intro hc; omega)) ?_
      refine zS rfl (q_assign rfl rfl) (sw_nil ?_)
      have hsg : (sglB p i && (decide ((i : Int) = 0) || !decide ((nth p i).c = (nth p ((i : Int) - 1).toNat).c))) = sglB p (i + 1) := by
        rw [sgl_succ, show ((i : Int) - 1).toNat = i - 1 by omega]
        simp
      rw [hsg]
      exact post_next (i + 1) (by exact .cons rfl (.cons rfl (.cons rfl (.cons rfl (.cons rfl (.cons rfl (.cons rfl (.cons rfl (.cons rfl .nil))))))))) (Cl.sel (by exact .take 0 rfl (.take 0 rfl (.take 0 rfl (.take 0 rfl (.nil _)))))) (by omega) (by omega)
    · have hi' : i = p.length := by simp at h3; omega
      subst hi'
      rw [mixP_all]
      obtain ⟨sg, hsg⟩ : ∃ sg, sglB p p.length = sg := ⟨_, rfl⟩
      rw [hsg]
      obtain ⟨mo, hmo⟩ : ∃ mo, p.map (grow g) = mo := ⟨_, rfl⟩
      rw [hmo]
      refine cw_exit (post_then_x (post_then_x (post_blk_eq (post_then (cw_seq (cw_seq (cw_region (zS rfl (q_move rfl rfl) (zS rfl (q_neq rfl rfl rfl) (sw_nil (post_then ?_)))))))))))
      refine cw_cond rfl (fun h4 => ?_) (fun h4 => ?_)
      · simp at h4
      · refine cw_reb (A := [ownL 68 s59.v mo, blk b9 [b.b.v] 45, blk b6 (enc o) 40]) (F := [Sx.frz (BkIn b)]) (fun w h => (Cl.sel (by exact .take 0 rfl (.take 0 rfl (.take 1 rfl (.take 0 rfl (.nil _)))))) _ h) fun w1 bs R => ?_
        have hT1 := R.stb hT
        have hs1 := R.stb hs
        have hsi1 := R.stb hsi
        have hp1 := R.stb hp
        have hpi1 := R.stb hpi
        have hmi1 : Stb w1 bs fun w' => ∀ u ∈ mo, PrIn u w' := stb_map hpi1 fun _ h u hu => by
          rw [← hmo] at hu
          obtain ⟨x, hx, rfl⟩ := List.mem_map.1 hu
          exact h x hx
        have hb1 := R.frz (R := BkIn b) (by exact .head _)
        have hmz : ∀ u ∈ mo, ∀ b ∈ u.pl, b.size ≤ 9223372036854775807 := fun u hu => by
          rw [← hmo] at hu
          obtain ⟨x, hx, rfl⟩ := List.mem_map.1 hu
          exact (law_z (n := 8) hlaw).2 x hx
        refine cw_skip (post_then (cw_seq (cw_seq (cw_region (zS rfl (q_move rfl rfl) ?_)))))
        refine sw_step rfl rfl rfl (q_call (CanCall.mk Tryz.call22) rfl (.k rfl (.nil)) (fun _ w hw => callq hw (refPairs_spec _ mo hmz w (stb_own hw (by exact .head _)) (stb_arg hw hmi1)))) ?_
        refine sw_nil (post_then ?_)
        refine cw_cut (S := Unit) (fun _ => [(0, [], sl.v), (1, [], sp.v), (9, [], .pointer (some ⟨b9, 0, none⟩)), (12, [], .bool sg)]) (fun _ => Cl w1 bs [blk b9 [b.b.v] 45]) (fun _ => True) ?_ ?_
        · refine cw_cond rfl (fun h5 => ?_) (fun h5 => ?_)
          · have hmok : prsOk mo = true := h5
            have hmE : optE l mo o = 0 := by rw [← hmo] at hmok ⊢; exact optE_grow h0 hmok
            have hmL : learnP l mo o = learnP l p o := by rw [← hmo] at hmok ⊢; exact learnP_grow hg0 h0 hmok
            refine cw_seq (cw_region (zS rfl (q_move rfl rfl) (zS rfl (q_move rfl rfl) ?_)))
            refine zS rfl (q_loadA rfl rfl (by exact .tail _ (.tail _ (.head _))) rfl) ?_
            refine sw_x rfl rfl rfl (e_call (CanCall.mk Tryz.call29) rfl (.k rfl (.k rfl (.k rfl (.nil)))) (fun w2 hw => learn_spec sl s59 l mo o hsz (fun h0 => by have := (abc_few (p := mo) f1 fun u hu => (f2 u hu).1).2; omega) w2 (stb_arg hw hT1) (stb_arg hw hs1) (stb_arg hw hsi1) (stb_own hw (by exact .head _)) (stb_arg hw hmi1))) (fun b2 => ?_)
            refine sw_imp fun hb2 => ?_
            have hbe : bkP b.bl = bkP b2.bl := by rw [hb, hb2, hmL]
            rw [hmE]
            refine zS rfl (q_move rfl rfl) (zS rfl (q_extract rfl rfl rfl) (zS rfl (q_extract rfl rfl rfl) ?_))
            refine sw_x rfl rfl rfl (e_alloc rfl) (fun b14 => ?_)
            refine sw_eff0 rfl rfl (e_store (i := 0) rfl rfl rfl rfl rfl rfl rfl rfl) (zS rfl (q_assign rfl rfl) (sw_nil (post_then (cw_seq (cw_region (zS rfl (q_move rfl rfl) (zS rfl (q_neq rfl rfl rfl) (zS rfl (q_move rfl rfl) ?_))))))))
            refine zS rfl (q_loadA rfl rfl (by exact .tail _ (.tail _ (.tail _ (.head _)))) rfl) ?_
            refine zS rfl (q_loadA rfl rfl (by exact .head _) rfl) ?_
            refine sw_step rfl rfl rfl (q_call (CanCall.mk Tryz.call31) rfl (.k rfl (.k rfl (.nil))) (fun _ w hw => callq hw (sameBooks_spec b b2 w (stb_arg hw hb1) (stb_frz hw (by exact .tail _ (.head _)))))) ?_
            refine zS rfl (q_not rfl rfl) (zS rfl (q_or2 rfl rfl rfl) (sw_nil (post_then ?_)))
            refine cw_cond rfl (fun h6 => ?_) (fun h6 => ?_)
            · simp [hbe] at h6
            · refine cw_skip ?_
              exact post_meet () (by exact .cons rfl (.cons rfl (.cons rfl (.cons rfl .nil)))) (Cl.sel (by exact .take 3 rfl (.nil _))) trivial
          · refine cw_skip ?_
            exact post_meet () (by exact .cons rfl (.cons rfl (.cons rfl (.cons rfl .nil)))) (Cl.sel (by exact .take 1 rfl (.nil _))) trivial
        rintro _ _
        refine post_then (cw_seq (cw_seq (cw_region (zS rfl (q_assign rfl rfl) (sw_nil (post_then (cw_block ?_)))))))
        refine cw_loop (S := Nat) (fun i => [(0, [], sl.v), (1, [], sp.v), (9, [], .pointer (some ⟨b9, 0, none⟩)), (12, [], .bool sg), (16, [], .int .i64 i)]) (fun i => Cl w1 bs [blk b9 [b.b.v] 45]) (fun i => i ≤ l.length) (fun i => l.length - i) 0 (Nat.zero_le _) (by exact .cons rfl (.cons rfl (.cons rfl (.cons rfl (.cons rfl .nil))))) (fun w' h => (Cl.sel (by exact .take 0 rfl (.nil _))) _ h) ?_
        rintro i hi
        refine cw_seq (cw_seq (cw_region (zS rfl (q_move rfl rfl) (zS rfl (q_move rfl rfl) ?_))))
        refine zS rfl (q_len rfl (.k rfl (.nil)) (stA (by assumption))) ?_
        refine zS rfl (q_lss rfl rfl rfl) (zS rfl (q_move rfl rfl) (zS rfl (q_move rfl rfl) (zS rfl (q_and2 rfl rfl rfl) (sw_nil (post_then ?_)))))
        refine cw_cond rfl (fun h5 => ?_) (fun h5 => ?_)
        · have hi' : i < l.length ∧ sg = true := by simp at h5; exact ⟨by omega, h5.2⟩
          obtain ⟨hi', hsg2⟩ := hi'
          have hum := nth_mem hi'
          have hone := one_of y1 (by rw [hsg, hsg2])
          obtain ⟨k1, k2⟩ := o4 _ hum
          obtain ⟨u, hu⟩ : ∃ u, nth l i = u := ⟨_, rfl⟩
          have hup : Stb w1 bs (RdL (nth l i).p.v (nth l i).pl) := stb_map hsi1 fun _ h => h _ hum
          have hfp := faithful_plain hone h0 hb hum
          have hbo := learn_ok h0 hb
          have hus := hsz _ hum
          have hus2 := (f2 _ hum).1
          have hrl : (runes (nth l i).word).length ≤ 12 := by have := runes_len_le (nth l i).word; omega
          have hae : alignE p (nth l i).word (nth l i).pl = if alOk p (nth l i).word (nth l i).pl then 0 else 5 := by
            unfold alignE; rw [if_pos o2, if_pos (by rw [k1, k2]; rfl)]
          refine cw_skip (post_then (cw_seq (cw_block (cw_seq (cw_seq (cw_region_a (Cl w1 bs []) [] mixed_Tryz ?_))))))
          refine zp 0 rfl (q_move rfl rfl) ?_
          refine zp 1 rfl (q_move rfl rfl) ?_
          refine zp 2 rfl (q_move rfl rfl) ?_
          refine zk 3 (Cl.sel (by exact .nil _)) rfl (q_indexN rfl rfl rfl (stA (by assumption)) (by intro hc; omega)) ?_
          refine zk 4 (Cl.sel (by exact .nil _)) rfl (q_fieldEl rfl rfl (stA (by assumption)) (by intro hc; omega)) ?_
          refine zk 5 (Cl.sel (by exact .nil _)) rfl (q_loadF rfl rfl rfl (stA (by assumption)) (by intro hc; omega) rfl) ?_
          refine zp 6 rfl (q_move rfl rfl) ?_
          refine zp 7 rfl (q_move rfl rfl) ?_
          refine zk 8 (Cl.sel (by exact .nil _)) rfl (q_indexN rfl rfl rfl (stA (by assumption)) (by intro hc; omega)) ?_
          refine zk 9 (Cl.sel (by exact .nil _)) rfl (q_fieldEl rfl rfl (stA (by assumption)) (by intro hc; omega)) ?_
          refine zk 10 (Cl.sel (by exact .nil _)) rfl (q_loadF rfl rfl rfl (stA (by assumption)) (by intro hc; omega) rfl) ?_
          refine aw_x 11 (by kernel_rfl) rfl rfl rfl rfl (e_call (CanCall.mk Tryz.call20) rfl (.k rfl (.k rfl (.k rfl (.nil)))) (fun w2 hw => align_spec sp (nth l i).p p (nth l i).word (nth l i).pl hus w2 (stb_arg hw hT1) (stb_arg hw hp1) (stb_arg hw hpi1) (stb_arg hw hup))) (by intro hb; exact fun _ w h => (Cl.sel (by exact .nil _)) w h.2) (fun s136 => ?_)
          refine aw_imp fun _ => ?_
          refine zp 12 rfl (q_move rfl rfl) ?_
          refine zk 13 (Cl.sel (by exact .nil _)) rfl (q_extract rfl rfl rfl) ?_
          refine zk 14 (Cl.sel (by exact .nil _)) rfl (q_extract rfl rfl rfl) ?_
          refine zk 15 (Cl.sel (by exact .nil _)) rfl (q_extract rfl rfl rfl) ?_
          refine zp 16 rfl (q_assign rfl rfl) ?_
          refine zp 17 rfl (q_assign rfl rfl) ?_
          refine zp 18 rfl (q_assign rfl rfl) ?_
          refine aw_end (by kernel_rfl) ?_
          refine post_then (cw_seq (cw_region (zS rfl (q_move rfl rfl) (zS rfl (q_neq rfl rfl rfl) (sw_nil (post_then ?_))))))
          refine cw_cond rfl (fun h6 => ?_) (fun h6 => ?_)
          · refine cw_exit (post_then_x (post_blk_eq (post_then (cw_region (zS rfl (q_move rfl rfl) ?_)))))
            refine zS rfl (q_add rfl rfl rfl (by intro hc; omega)) ?_
            refine zS rfl (q_assign rfl rfl) (sw_nil ?_)
            exact post_next (i + 1) (by exact .cons rfl (.cons rfl (.cons rfl (.cons rfl (.cons rfl .nil))))) (Cl.sel (by exact .take 1 rfl (.nil _))) (by omega) (by omega)
          · have ha : alOk p (nth l i).word (nth l i).pl = true := by
              rw [hae] at h6
              cases hx : alOk p (nth l i).word (nth l i).pl with
              | true => rfl
              | false => rw [hx] at h6; simp at h6
            have hfp := hfp ha
            have e1 : sayE b.bl (nth l i).word = 0 := by unfold sayE; rw [hbo, k1]; rfl
            have e2 : sayR b.bl (nth l i).word = sayC b.bl (runes (nth l i).word) := by unfold sayR; rw [hbo, k1]; rfl
            refine cw_skip (post_then (cw_seq (cw_region_a (Cl w1 bs [blk b9 [b.b.v] 45]) [] mixed_Tryz ?_)))
            refine zk 0 (Cl.sel (by exact .take 1 rfl (.nil _))) rfl (q_loadA rfl rfl (by exact .head _) rfl) ?_
            refine zp 1 rfl (q_move rfl rfl) ?_
            refine zp 2 rfl (q_move rfl rfl) ?_
            refine zk 3 (Cl.sel (by exact .take 1 rfl (.nil _))) rfl (q_indexN rfl rfl rfl (stA (by assumption)) (by intro hc; omega)) ?_
            refine zk 4 (Cl.sel (by exact .take 1 rfl (.nil _))) rfl (q_fieldEl rfl rfl (stA (by assumption)) (by intro hc; omega)) ?_
            refine zk 5 (Cl.sel (by exact .take 1 rfl (.nil _))) rfl (q_loadF rfl rfl rfl (stA (by assumption)) (by intro hc; omega) rfl) ?_
            refine aw_x 6 (by kernel_rfl) rfl rfl rfl rfl (e_call (CanCall.mk Tryz.call37) rfl (.k rfl (.k rfl (.nil))) (fun w2 hw => say_spec b (nth l i).word hus w2 (stb_arg hw hT1) (stb_arg hw hb1))) (by intro hb; exact fun _ w h => (Cl.sel (by exact .take 2 rfl (.nil _))) w h.2) (fun s149 => ?_)
            refine aw_imp fun _ => ?_
            rw [e1, e2]
            obtain ⟨sq, hsq⟩ : ∃ sq, sayC b.bl (runes (nth l i).word) = sq := ⟨_, rfl⟩
            rw [hsq] at hfp
            rw [hsq]
            have hsql : sq.length ≤ 1000000 := by
              have := congrArg List.length hfp
              rw [List.length_map] at this
              have := (f2 _ hum).2
              omega
            refine zp 7 rfl (q_move rfl rfl) ?_
            refine zk 8 (Cl.sel (by exact .take 2 rfl (.nil _))) rfl (q_extract rfl rfl rfl) ?_
            refine zk 9 (Cl.sel (by exact .take 2 rfl (.nil _))) rfl (q_extract rfl rfl rfl) ?_
            refine zp 10 rfl (q_assign rfl rfl) ?_
            refine zp 11 rfl (q_assign rfl rfl) ?_
            refine aw_end (by kernel_rfl) ?_
            refine post_then (cw_seq (cw_region_a (Cl w1 bs []) [] mixed_Tryz ?_))
            refine zp 0 rfl (q_move rfl rfl) ?_
            refine zp 1 rfl (q_neq rfl rfl rfl) ?_
            refine zp 2 rfl (q_move rfl rfl) ?_
            refine zp 3 rfl (q_move rfl rfl) ?_
            refine zp 5 rfl (q_move rfl rfl) ?_
            refine zp 6 rfl (q_move rfl rfl) ?_
            refine zk 7 (Cl.sel (by exact .nil _)) rfl (q_indexN rfl rfl rfl (stA (by assumption)) (by intro hc; omega)) ?_
            refine zk 8 (Cl.sel (by exact .nil _)) rfl (q_fieldEl rfl rfl (stA (by assumption)) (by intro hc; omega)) ?_
            refine zk 9 (Cl.sel (by exact .nil _)) rfl (q_loadF rfl rfl rfl (stA (by assumption)) (by intro hc; omega) rfl) ?_
            refine aw_xc 4 (by kernel_rfl) rfl rfl (by first | (simp [AllT]; done) | simp [AllT, *]) rfl rfl (e_callc (CanCall.mk Tryz.call39) rfl (.k rfl (.nil)) (fun w2 hw => said39_spec s149.v sq hsql w2 (stb_own hw (by exact .head _)))) (by intro hb; exact fun _ w h => (Cl.sel (by exact .nil _)) w h.2) (fun s156 => ?_)
            refine aw_imp fun _ => ?_
            rw [hfp]
            refine aw_qc 10 (by kernel_rfl) rfl rfl (by first | (simp [AllT]; done) | simp [AllT, *]) rfl rfl (q_call (CanCall.mk Tryz.call38) rfl (.k rfl (.k rfl (.nil))) (fun _ w2 hw => callq hw (order_spec _ _ (nth l i).pl (nth l i).pl w2 (stb_own hw (by exact .head _)) (stb_arg hw hup)))) (by intro hb; exact (Cl.sel (by exact .nil _))) ?_
            refine zp 11 rfl (q_neq rfl rfl rfl) ?_
            refine zp 12 rfl (q_or2 rfl rfl rfl) ?_
            refine aw_end (by kernel_rfl) ?_
            refine post_then ?_
            refine cw_cond rfl (fun h7 => ?_) (fun h7 => ?_)
            · simp [ordL_self] at h7
            · refine cw_skip (post_blk (post_then (cw_region (zS rfl (q_move rfl rfl) ?_))))
              refine zS rfl (q_add rfl rfl rfl (by intro hc; omega)) ?_
              refine zS rfl (q_assign rfl rfl) (sw_nil ?_)
              exact post_next (i + 1) (by exact .cons rfl (.cons rfl (.cons rfl (.cons rfl (.cons rfl .nil))))) (Cl.sel (by exact .take 3 rfl (.nil _))) (by omega) (by omega)
        · refine cw_exit (post_then_x (post_then_x (post_blk_eq (post_then (cw_seq (cw_region ?_))))))
          refine sw_step rfl rfl rfl (q_call (CanCall.mk Tryz.call19) rfl (.nil) (fun _ w hw => callq hw (known_spec w (stb_arg hw (by assumption))))) ?_
          refine zS rfl (q_assign rfl rfl) (sw_nil (post_then (cw_ret (post_ret1 rfl (resOk_tmp rfl) ?_))))
          exact fun w' hw => ⟨rfl, R.cl ((Cl.sel (by exact .nil _)) _ hw)⟩
end Go.Proofs.YtkmbliojafefdaaGreatDoor

set_option autoImplicit false
namespace Go.Proofs.YtkmbliojafefdaaGreatDoor.letterFaithful
open Go.ChangeShapes Go.WideShapes Go.ChangeAt Go.RowKit Go.Sx
theorem own : ownKnob Tryz.prog.godebug = none := by kernel_rfl
theorem laid : laidOutB Tryz.prog = true := by kernel_rfl
theorem rowed : ∀ t ∈ Tryz.f7.params.toList, Tryz.prog.readableRec t = true ∧ t < Tryz.prog.types.size := by
  rw [Tryz.params7]
  intro t ht
  change t ∈ [38, 22, 40, 3] at ht
  simp only [List.mem_cons, List.not_mem_nil, or_false] at ht
  rcases ht with rfl | rfl | rfl | rfl <;> exact ⟨by kernel_rfl, of_decide_eq_true (by kernel_rfl)⟩
set_option maxHeartbeats 1000000 in
set_option maxRecDepth 100000 in
theorem lifted (os : Os) (started : os.Started) (H : Type) (enc : TypeId × Value → H) :
    ReturnsInHanded {} Tryz.checked os 7 .any (fun w args => (Rows.letterFaithfulSpec.pre enc Tryz.prog Tryz.f7 Rows.letterFaithfulRow.domain false w args ∧ laidMetH Tryz.prog Rows.letterFaithfulRow.laid w) ∧ sizedMet enc Tryz.prog Tryz.f7 (OpenSpec.ofChange Rows.letterFaithfulSpec) false w args)
      (Rows.letterFaithfulSpec.post enc Tryz.prog Tryz.f7 false true false false) := by
  refine returnsInHanded_of_change_and (C := Tryz.checked) (X := fun w _ => laidMetH Tryz.prog Rows.letterFaithfulRow.laid w) (fun _ _ _ hh h => h.of_heap hh) own started (by kernel_rfl) Tryz.func7
    (ChangeSpec.witness_shaped (enc := enc) (C := Tryz.checked) (os := os) (X := fun w _ => laidMetH Tryz.prog Rows.letterFaithfulRow.laid w) false (World.laidAll Tryz.prog os Rows.letterFaithfulRow.laid) #[.slice none 0 0, .slice none 0 0, .agg #[.int .i64 0, .int .i64 0, .int .i64 0], .int .i64 0] 8 (World.laidAll_os _ _ _)
      (World.shaped_of_ZipB (by kernel_rfl) (by kernel_rfl)) (by kernel_rfl) (by kernel_rfl) (by kernel_rfl)
      (by rw [MakeChecks.laidMetH_plain _ _ _ (by kernel_rfl)]; exact laidMet_laidAll _ (by kernel_rfl) (by kernel_rfl))) ?_
  intro W base args ds gs before hval0 hW hcnd _ hL _
  have hval : ∀ (j : Nat) t v, Tryz.f7.params[j]? = some t → args[j]? = some v → Value.okWide Tryz.prog W .any base t v := hval0
  have hW' := hW
  have hlt := hW.lt
  obtain ⟨p, q, hA0, hV, rfl, hfz, hnd⟩ := hW
  have hA : DataW.TrodAll enc Tryz.prog W 0 (fun _ => true) true Tryz.f7.params.toList args.toList ds p := hA0
  have hkeep := fun (W' : World) (hb : Below W.heap.size W W') (sp : Nat → Bool) (hsp : ∀ x ∈ p, sp x.block = true) => trodAll_keep laid hb sp rowed hA (fun x hx => hlt x (by simp [hx])) hsp
  rw [Tryz.params7] at hA hval
  obtain ⟨v0, vs0, d0, ds0, p0, q0, hargs, rfl, rfl, h0, r0⟩ := trodAll_cons hA
  obtain ⟨v1, vs1, d1, ds1, p1, q1, rfl, rfl, rfl, h1, r1⟩ := trodAll_cons r0
  obtain ⟨v2, vs2, d2, ds2, p2, q2, rfl, rfl, rfl, h2, r2⟩ := trodAll_cons r1
  obtain ⟨v3, vs3, d3, ds3, p3, q3, rfl, rfl, rfl, h3, r3⟩ := trodAll_cons r2
  obtain ⟨rfl, rfl, rfl⟩ := trodAll_nil r3
  obtain rfl : args = #[v0, v1, v2, v3] := by cases args; simp_all
  obtain ⟨rfl, rfl⟩ := trodVars_none hV
  obtain ⟨a0, b0, rfl, k0⟩ := open_deep (hval 0 38 v0 rfl rfl) h0
  obtain ⟨a1, b1, rfl, k1⟩ := open_deep (hval 1 22 v1 rfl rfl) h1
  obtain ⟨a2, b2, rfl, k2⟩ := open_deep (hval 2 40 v2 rfl rfl) h2
  obtain rfl := k2.here
  obtain ⟨a3, b3, rfl, k3⟩ := open_deep (hval 3 3 v3 rfl rfl) h3
  obtain ⟨rfl, w3⟩ := k3.here
  clear hA0 hval0
  rw [MakeChecks.laidMetH_plain _ _ _ (by kernel_rfl)] at hL
  have hT : Stb W [] Tab := tab_stb (utf8Tabs_of_readsT (U8Types.of196 Tryz.lays196) ⟨by kernel_rfl, by kernel_rfl, by kernel_rfl, by kernel_rfl, by kernel_rfl, by kernel_rfl, by kernel_rfl⟩ (Pinned.utf8First_eq ▸ Lib.laidMet.reads hL (.tail _ (.head _))) (Lib.laidMet.reads hL (.head _)))
  refine (faithful_spec a0 a1 b0 b1 a2 a3 (sp_size k0.here) W hT (stb_flat (fun a b w h => h.1) k0) (sp_all k0) (stb_flat (fun a b w h => h.1) k1) (pr_all k1)).mono fun e W' ⟨he, hc⟩ => ?_
  subst he
  have hb := below_of hc
  exact ⟨_, rfl, _, _, _, [], _, [], hW', trodAll_cons_mk (shut_bool Tryz.underlying4 _) trodAll_mk0, hkeep W' hb _ (fun x hx => by simpa using hlt x (by simpa using hx)), rfl, hb.frame _, fun h => by cases h⟩
end Go.Proofs.YtkmbliojafefdaaGreatDoor.letterFaithful

set_option autoImplicit false
namespace Go.Proofs.YtkmbliojafefdaaGreatDoor.letterFaithful
open Go.Sx
theorem named : Tryz.prog.funcNamed "declaim/declaimlaw03.LetterFaithful" = some 7 := by kernel_rfl
theorem inst : Tryz.f7.isInstance Tryz.prog Rows.letterFaithfulRow.origin Rows.letterFaithfulRow.targs := of_decide_eq_true (by kernel_rfl)
theorem wrap : Tryz.f7.isWrapper Tryz.prog Rows.letterFaithfulRow.wrapper Rows.letterFaithfulRow.mainSum := by unfold Func.isWrapper; first | (rw [if_pos (by decide +kernel)]; kernel_rfl) | (rw [if_neg (by decide +kernel)]; exact ⟨rfl, rfl⟩)
theorem over : Rows.letterFaithfulRow.holds Tryz.pinned (OpenSpec.ofChange Rows.letterFaithfulSpec) :=
  OpenClaim.holds_of_wide 7 Tryz.f7 rfl rfl rfl rfl rfl rfl rfl ⟨rfl, rfl, rfl, rfl, rfl⟩ rfl rfl rfl rfl rfl named Tryz.func7 closed inst wrap
    (fun os started H enc _ => lifted os started H enc)
end Go.Proofs.YtkmbliojafefdaaGreatDoor.letterFaithful
