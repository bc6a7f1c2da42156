import Derived.Test.YtkmbliojafefdaaGreatDoorWB6

set_option autoImplicit false
set_option linter.unusedSimpArgs false
set_option linter.unusedVariables false
set_option maxRecDepth 100000
namespace Go.Proofs.YtkmbliojafefdaaGreatDoor
open Go.Sx
open Enc (enc val)
theorem lt_asym {x y : ByteArray} (h : sLt y x = true) : sLt x y = false ∧ ¬ x = y := by
 refine ⟨?_, fun e => ?_⟩
 · cases h2 : sLt x y with
   | false => rfl
   | true => have := sLt_trans h h2; rw [sLt_irr] at this; cases this
 · subst e; rw [sLt_irr] at h; cases h
theorem lt_of {x y : ByteArray} (h : sLt x y = false ∧ ¬ x = y) : sLt y x = true := by
 rcases sLt_tri x y with h1 | h1 | h1
 · rw [h1] at h; cases h.1
 · exact absurd h1 h.2
 · exact h1
end Go.Proofs.YtkmbliojafefdaaGreatDoor

set_option autoImplicit false
set_option maxRecDepth 100000
namespace Go.Proofs.YtkmbliojafefdaaGreatDoor
open Go.Sx
open Enc (enc val)
theorem all_no {α : Type} [Inhabited α] {p : α → Bool} {l : List α} {k : Nat} (hk : k < l.length) (h : p (nth l k) = false) : l.all p = false := by
 rw [List.all_eq_false]; exact ⟨_, nth_mem hk, by simp [h]⟩
theorem all_yes {α : Type} [Inhabited α] {p : α → Bool} {l : List α} (h : ∀ k, k < l.length → p (nth l k) = true) : l.all p = true := by
 rw [List.all_eq_true]
 intro x hx
 obtain ⟨k, hk, rfl⟩ := List.getElem_of_mem hx
 have := h k hk
 rwa [nth_get hk] at this
end Go.Proofs.YtkmbliojafefdaaGreatDoor

set_option autoImplicit false
set_option maxRecDepth 100000
namespace Go.Proofs.YtkmbliojafefdaaGreatDoor
open Go.Sx
open Enc (enc val)
def lawPrs (p : List Pr) : Bool := !(decide (30 < p.length) && decide (p.length ≤ 1000) || decide (1100 < p.length)) && p.all fun u => lawPh u.pl 5
theorem lawPairs_spec (sv : Value) (p : List Pr) (w : World) (hs : Stb w [] (RdL sv p)) (hp : Stb w [] fun w' => ∀ u ∈ p, PrIn u w') : Calls Tryz.prog 17 #[sv] w fun e w' => e = .returned (.bool (lawPrs p)) ∧ Cl w [] [] w' := by
 have hL := rd_len hs.here
 refine calls_cw (vs := [_]) Tryz.func17 rfl Tryz.ntmps17 rfl (Cl.start0 w) (zr (za rfl (nP (cw_seq (cw_seq (cw_region (zm rfl ?_)))))))
 refine zS rfl (q_len rfl (.k rfl (.nil)) (stA (by assumption))) ?_
 refine zS rfl (q_gtr rfl rfl rfl) (zm rfl (zm rfl ?_))
 refine zS rfl (q_len rfl (.k rfl (.nil)) (stA (by assumption))) ?_
 refine zS rfl (q_leq rfl rfl rfl) (zS rfl (q_and2 rfl rfl rfl) (zm rfl (zm rfl ?_)))
 refine zS rfl (q_len rfl (.k rfl (.nil)) (stA (by assumption))) ?_
 refine zS rfl (q_gtr rfl rfl rfl) (zS rfl (q_or2 rfl rfl rfl) (nP ?_))
 refine cw_cond rfl (fun h => ?_) (fun h => ?_)
 · have e1 : lawPrs p = false := by
     unfold lawPrs
     simp at h
     rcases h with h | h
     · rw [decide_eq_true (by omega : 30 < p.length), decide_eq_true (by omega : p.length ≤ 1000)]; simp
     · rw [decide_eq_true (by omega : 1100 < p.length)]; simp
   refine zr (za rfl (nP (cw_ret (post_then_r (post_ret1 rfl (resOk_tmp rfl) ?_)))))
   exact fun w' hw => ⟨by rw [e1], (Cl.sel (by exact .nil _)) _ hw⟩
 · have e0 : (!(decide (30 < p.length) && decide (p.length ≤ 1000) || decide (1100 < p.length))) = true := by
     simp at h
     simp; omega
   refine sP (cw_seq (zr (za rfl (nP (cw_block ?_)))))
   refine cw_loop (S := Nat) (fun k => [(0, [], sv), (3, [], .int .i64 k)]) (fun _ => Cl w [] []) (fun k => k ≤ p.length ∧ ∀ i, i < k → lawPh (nth p i).pl 5 = true) (fun k => p.length - k) 0 ⟨by omega, fun j hj => by omega⟩ (by exact .cons rfl (.cons rfl .nil)) (Cl.sel (by exact .nil _)) ?_
   rintro k ⟨hk, hbe⟩
   refine cw_seq (zr (zm rfl (zm rfl ?_)))
   refine zS rfl (q_len rfl (.k rfl (.nil)) (stA (by assumption))) ?_
   refine zS rfl (q_lss rfl rfl rfl) (nP ?_)
   refine cw_cond rfl (fun h2 => ?_) (fun h2 => ?_)
   · have hk' : k < p.length := by simp at h2; omega
     have hx := rd_stb (hp.here _ (nth_mem hk'))
     refine sP (cw_seq (cw_block (zr (zm rfl (zm rfl ?_)))))
     refine zS rfl (q_indexN rfl rfl rfl (stA (by assumption)) (by intro hc; omega)) ?_
     refine zS rfl (q_fieldEl rfl rfl (stA (by assumption)) (by intro hc; omega)) ?_
     refine zS rfl (q_loadF rfl rfl rfl (stA (by assumption)) (by intro hc; omega) rfl) ?_
     refine sw_step rfl rfl rfl (q_call (CanCall.mk Tryz.call18) rfl (.k rfl (.k rfl (.nil))) (fun _ w hw => callq hw (lawPhones_spec _ _ _ (by omega) w (by exact stb_arg hw (by assumption))))) ?_
     refine zS rfl (q_not rfl rfl) (nP ?_)
     refine cw_cond rfl (fun h3 => ?_) (fun h3 => ?_)
     · have e1 : lawPrs p = false := by
         unfold lawPrs
         rw [all_no hk' (by simpa using h3)]
         simp
       refine zr (za rfl (nP (cw_ret (post_blk_r (post_then_r (post_then_r (post_blk_r (post_then_r (post_ret1 rfl (resOk_tmp rfl) ?_)))))))))
       exact fun w' hw => ⟨by rw [e1], (Cl.sel (by exact .nil _)) _ hw⟩
     · have e1 : lawPh (nth p k).pl 5 = true := by simpa using h3
       refine cw_skip (post_blk (post_then (cw_region (zm rfl ?_))))
       refine zS rfl (q_add rfl rfl rfl (by intro hc; omega)) ?_
       refine za rfl (sw_nil ?_)
       exact post_next (k + 1) (by exact .cons rfl (.cons rfl .nil)) (Cl.sel (by exact .nil _)) ⟨by omega, fun i hi => by
         rcases Nat.lt_or_ge i k with h6 | h6
         · exact hbe i h6
         · have : i = k := by omega
           subst this; exact e1⟩ (by omega)
   · have hk' : k = p.length := by simp at h2; omega
     subst hk'
     have e1 : lawPrs p = true := by unfold lawPrs; rw [all_yes hbe, e0]; rfl
     refine cw_exit (post_then_x (post_then_x (post_blk_eq (post_then (zr (za rfl (nP (cw_ret (post_ret1 rfl (resOk_tmp rfl) ?_)))))))))
     exact fun w' hw => ⟨by rw [e1], (Cl.sel (by exact .nil _)) _ hw⟩
theorem lawPrs_z {p : List Pr} (h : lawPrs p = true) : ∀ u ∈ p, u.pl.length ≤ 5 ∧ ∀ b ∈ u.pl, b.size ≤ 12 := fun u hu => by
 unfold lawPrs lawPh at h
 simp only [Bool.and_eq_true, List.all_eq_true, decide_eq_true_eq] at h
 have := h.2 u hu
 exact ⟨by omega, this.2⟩
def lawLex (l : List Sp) (most : Int) : Bool := !(decide (most < l.length) && decide (l.length ≤ 3000) || decide (3500 < l.length)) && l.all fun u => decide (u.word.size ≤ 60) && lawPh u.pl 130
theorem lawLex_spec (sv : Value) (l : List Sp) (most : Int) (hz : ∀ u ∈ l, u.word.size ≤ 9223372036854775807) (w : World) (hs : Stb w [] (RdL sv l)) (hp : Stb w [] fun w' => ∀ u ∈ l, SpIn u w') : Calls Tryz.prog 27 #[sv, .int .i64 most] w fun e w' => e = .returned (.bool (lawLex l most)) ∧ Cl w [] [] w' := by
 have hL := rd_len hs.here
 refine calls_cw (vs := [_, _]) Tryz.func27 rfl Tryz.ntmps27 rfl (Cl.start0 w) (zr (za rfl (nP (cw_seq (cw_seq (cw_region (zm rfl ?_)))))))
 refine zS rfl (q_len rfl (.k rfl (.nil)) (stA (by assumption))) ?_
 refine zm rfl (zS rfl (q_gtr rfl rfl rfl) (zm rfl (zm rfl ?_)))
 refine zS rfl (q_len rfl (.k rfl (.nil)) (stA (by assumption))) ?_
 refine zS rfl (q_leq rfl rfl rfl) (zS rfl (q_and2 rfl rfl rfl) (zm rfl (zm rfl ?_)))
 refine zS rfl (q_len rfl (.k rfl (.nil)) (stA (by assumption))) ?_
 refine zS rfl (q_gtr rfl rfl rfl) (zS rfl (q_or2 rfl rfl rfl) (nP ?_))
 refine cw_cond rfl (fun h => ?_) (fun h => ?_)
 · have e1 : lawLex l most = false := by
     unfold lawLex
     simp at h
     rcases h with h | h
     · rw [decide_eq_true (by omega : most < l.length), decide_eq_true (by omega : l.length ≤ 3000)]; simp
     · rw [decide_eq_true (by omega : 3500 < l.length)]; simp
   refine zr (za rfl (nP (cw_ret (post_then_r (post_ret1 rfl (resOk_tmp rfl) ?_)))))
   exact fun w' hw => ⟨by rw [e1], (Cl.sel (by exact .nil _)) _ hw⟩
 · have e0 : (!(decide (most < l.length) && decide (l.length ≤ 3000) || decide (3500 < l.length))) = true := by
     simp at h
     simp; omega
   refine sP (cw_seq (zr (za rfl (nP (cw_block ?_)))))
   refine cw_loop (S := Nat) (fun k => [(0, [], sv), (5, [], .int .i64 k)]) (fun _ => Cl w [] []) (fun k => k ≤ l.length ∧ ∀ i, i < k → (decide ((nth l i).word.size ≤ 60) && lawPh (nth l i).pl 130) = true) (fun k => l.length - k) 0 ⟨by omega, fun j hj => by omega⟩ (by exact .cons rfl (.cons rfl .nil)) (Cl.sel (by exact .nil _)) ?_
   rintro k ⟨hk, hbe⟩
   refine cw_seq (zr (zm rfl (zm rfl ?_)))
   refine zS rfl (q_len rfl (.k rfl (.nil)) (stA (by assumption))) ?_
   refine zS rfl (q_lss rfl rfl rfl) (nP ?_)
   refine cw_cond rfl (fun h2 => ?_) (fun h2 => ?_)
   · have hk' : k < l.length := by simp at h2; omega
     have hx := rd_stb (hp.here _ (nth_mem hk'))
     have hzk := hz _ (nth_mem hk')
     refine sP (cw_seq (cw_block (zr (zm rfl (zm rfl ?_)))))
     refine zS rfl (q_indexN rfl rfl rfl (stA (by assumption)) (by intro hc; omega)) ?_
     refine zS rfl (q_fieldEl rfl rfl (stA (by assumption)) (by intro hc; omega)) ?_
     refine zS rfl (q_loadF rfl rfl rfl (stA (by assumption)) (by intro hc; omega) rfl) ?_
     refine zS rfl (q_lenS rfl (.k rfl (.nil)) Tryz.underlying9) (zS rfl (q_gtr rfl rfl rfl) (zm rfl (zm rfl (zm rfl ?_))))
     refine zS rfl (q_indexN rfl rfl rfl (stA (by assumption)) (by intro hc; omega)) ?_
     refine zS rfl (q_fieldEl rfl rfl (stA (by assumption)) (by intro hc; omega)) ?_
     refine zS rfl (q_loadF rfl rfl rfl (stA (by assumption)) (by intro hc; omega) rfl) ?_
     refine sw_step rfl rfl rfl (q_call (CanCall.mk Tryz.call18) rfl (.k rfl (.k rfl (.nil))) (fun _ w hw => callq hw (lawPhones_spec _ _ _ (by omega) w (by exact stb_arg hw (by assumption))))) ?_
     refine zS rfl (q_not rfl rfl) (zS rfl (q_or2 rfl rfl rfl) (nP ?_))
     refine cw_cond rfl (fun h3 => ?_) (fun h3 => ?_)
     · have e1 : lawLex l most = false := by
         unfold lawLex
         rw [all_no hk' (by
           cases q1 : lawPh (nth l k).pl 130 <;> simp [q1] at h3 ⊢; omega)]
         simp
       refine zr (za rfl (nP (cw_ret (post_blk_r (post_then_r (post_then_r (post_blk_r (post_then_r (post_ret1 rfl (resOk_tmp rfl) ?_)))))))))
       exact fun w' hw => ⟨by rw [e1], (Cl.sel (by exact .nil _)) _ hw⟩
     · have e1 : (decide ((nth l k).word.size ≤ 60) && lawPh (nth l k).pl 130) = true := by
         cases q1 : lawPh (nth l k).pl 130 <;> simp [q1] at h3 ⊢; omega
       refine cw_skip (post_blk (post_then (cw_region (zm rfl ?_))))
       refine zS rfl (q_add rfl rfl rfl (by intro hc; omega)) ?_
       refine za rfl (sw_nil ?_)
       exact post_next (k + 1) (by exact .cons rfl (.cons rfl .nil)) (Cl.sel (by exact .nil _)) ⟨by omega, fun i hi => by
         rcases Nat.lt_or_ge i k with h6 | h6
         · exact hbe i h6
         · have : i = k := by omega
           subst this; exact e1⟩ (by omega)
   · have hk' : k = l.length := by simp at h2; omega
     subst hk'
     have e1 : lawLex l most = true := by unfold lawLex; rw [all_yes hbe, e0]; rfl
     refine cw_exit (post_then_x (post_then_x (post_blk_eq (post_then (zr (za rfl (nP (cw_ret (post_ret1 rfl (resOk_tmp rfl) ?_)))))))))
     exact fun w' hw => ⟨by rw [e1], (Cl.sel (by exact .nil _)) _ hw⟩
theorem lawLex_z {l : List Sp} {most : Int} (h : lawLex l most = true) : ∀ u ∈ l, u.word.size ≤ 60 ∧ u.pl.length ≤ 130 ∧ ∀ b ∈ u.pl, b.size ≤ 12 := fun u hu => by
 unfold lawLex lawPh at h
 simp only [Bool.and_eq_true, List.all_eq_true, decide_eq_true_eq] at h
 have := h.2 u hu
 exact ⟨this.1, by omega, this.2.2⟩
def prsOk (p : List Pr) : Bool := riseB prC p && p.all prOk
structure PrAt (p : List Pr) (k : Nat) : Prop where
 ok : prOk (nth p k) = true
 lt : 0 < k → (nth p (k - 1)).c < (nth p k).c ∨ (nth p (k - 1)).c = (nth p k).c ∧ ordL (nth p (k - 1)).pl (nth p k).pl < 0
theorem prC_neg {a b : Pr} : prC a b < 0 ↔ a.c < b.c ∨ a.c = b.c ∧ ordL a.pl b.pl < 0 := by
 unfold prC orL
 by_cases h : sgn (a.c - b.c) = 0
 · rw [if_pos h]
   rw [sgn_zero] at h
   unfold orL
   split
   · rw [show orL [] = 0 from rfl]; constructor <;> omega
   · constructor <;> omega
 · rw [if_neg h]
   rw [sgn_neg]
   rw [sgn_zero] at h
   constructor <;> omega
theorem prs_iff {p : List Pr} : prsOk p = true ↔ ∀ k, k < p.length → PrAt p k := by
 unfold prsOk
 simp only [Bool.and_eq_true, List.all_eq_true]
 constructor
 · intro ⟨h1, h2⟩ k hk
   exact ⟨h2 _ (nth_mem hk), fun h0 => prC_neg.1 (riseB_yes.1 h1 k (by omega) hk)⟩
 · intro h
   refine ⟨riseB_yes.2 fun k h1 h2 => prC_neg.2 ((h k h2).lt (by omega)), fun L hL => ?_⟩
   obtain ⟨k, hk, rfl⟩ := List.getElem_of_mem hL
   rw [← nth_get hk]
   exact (h k hk).ok
theorem refPairs_spec (sv : Value) (p : List Pr) (hz : ∀ u ∈ p, ∀ b ∈ u.pl, b.size ≤ 9223372036854775807) (w : World) (hs : Stb w [] (RdL sv p)) (hp : Stb w [] fun w' => ∀ u ∈ p, PrIn u w') : Calls Tryz.prog 22 #[sv] w fun e w' => e = .returned (.bool (prsOk p)) ∧ Cl w [] [] w' := by
 have hL := rd_len hs.here
 refine calls_cw (vs := [_]) Tryz.func22 rfl Tryz.ntmps22 rfl (Cl.start0 w) (zr (za rfl (nP (cw_seq (cw_seq (cw_region (za rfl (sw_nil (post_then (cw_block ?_))))))))))
 refine cw_loop (S := Nat) (fun k => [(0, [], sv), (3, [], .int .i64 k)]) (fun _ => Cl w [] []) (fun k => k ≤ p.length ∧ ∀ j, j < k → PrAt p j) (fun k => p.length - k) 0 ⟨by omega, fun j hj => by omega⟩ (by exact .cons rfl (.cons rfl .nil)) (Cl.sel (by exact .nil _)) ?_
 rintro k ⟨hk, hbe⟩
 refine cw_seq (zr (zm rfl (zm rfl ?_)))
 refine zS rfl (q_len rfl (.k rfl (.nil)) (stA (by assumption))) ?_
 refine zS rfl (q_lss rfl rfl rfl) (nP ?_)
 refine cw_cond rfl (fun h => ?_) (fun h => ?_)
 · have hk' : k < p.length := by simp at h; omega
   have hno : ¬ PrAt p k → prsOk p = false := fun hn => by
     cases hx : prsOk p with
     | false => rfl
     | true => exact absurd (prs_iff.1 hx k hk') hn
   have e1 : 0 < k → ((k : Int) - 1).toNat = k - 1 := fun h0 => by omega
   have hx := rd_stb (hp.here _ (nth_mem hk'))
   have hx2 : Stb w [] (RdL (nth p ((k : Int) - 1).toNat).p.v (nth p ((k : Int) - 1).toNat).pl) := by
     by_cases h0 : 0 < k
     · rw [e1 h0]; exact rd_stb (hp.here _ (nth_mem (by omega)))
     · rw [show ((k : Int) - 1).toNat = 0 by omega]; exact rd_stb (hp.here _ (nth_mem (by omega)))
   have hzk := hz _ (nth_mem hk')
   refine sP (cw_seq (cw_block (cw_seq (zr (zm rfl (zm rfl ?_))))))
   refine zS rfl (q_indexN rfl rfl rfl (stA (by assumption)) (by intro hc; omega)) ?_
   refine zS rfl (q_fieldEl rfl rfl (stA (by assumption)) (by intro hc; omega)) ?_
   refine zS rfl (q_loadF rfl rfl rfl (stA (by assumption)) (by intro hc; omega) rfl) ?_
   refine sw_step rfl rfl rfl (q_call (CanCall.mk Tryz.call66) rfl (.k rfl (.nil)) (fun _ w hw => callq hw (refLetter_spec _ w))) (zS rfl (q_not rfl rfl) (zm rfl (zm rfl (zm rfl ?_))))
   refine zS rfl (q_indexN rfl rfl rfl (stA (by assumption)) (by intro hc; omega)) ?_
   refine zS rfl (q_fieldEl rfl rfl (stA (by assumption)) (by intro hc; omega)) ?_
   refine zS rfl (q_loadF rfl rfl rfl (stA (by assumption)) (by intro hc; omega) rfl) ?_
   refine sw_step rfl rfl rfl (q_call (CanCall.mk Tryz.call23) rfl (.k rfl (.k rfl (.nil))) (fun _ w hw => callq hw (refPhones_spec _ _ _ w (by exact stb_arg hw (by assumption)) (by assumption)))) ?_
   refine zS rfl (q_not rfl rfl) (zS rfl (q_or2 rfl rfl rfl) (zm rfl (zm rfl (zm rfl ?_))))
   refine zS rfl (q_indexN rfl rfl rfl (stA (by assumption)) (by intro hc; omega)) ?_
   refine zS rfl (q_fieldEl rfl rfl (stA (by assumption)) (by intro hc; omega)) ?_
   refine zS rfl (q_loadF rfl rfl rfl (stA (by assumption)) (by intro hc; omega) rfl) ?_
   refine zS rfl (q_lss rfl rfl rfl) (zS rfl (q_or2 rfl rfl rfl) (zm rfl (zm rfl (zm rfl ?_))))
   refine zS rfl (q_indexN rfl rfl rfl (stA (by assumption)) (by intro hc; omega)) ?_
   refine zS rfl (q_fieldEl rfl rfl (stA (by assumption)) (by intro hc; omega)) ?_
   refine zS rfl (q_loadF rfl rfl rfl (stA (by assumption)) (by intro hc; omega) rfl) ?_
   refine zS rfl (q_gtr rfl rfl rfl) (zS rfl (q_or2 rfl rfl rfl) (nP ?_))
   refine cw_cond rfl (fun h2 => ?_) (fun h2 => ?_)
   · have hf : prsOk p = false := hno fun hh => by
       have f1 := hh.ok
       unfold prOk at f1
       simp only [Bool.and_eq_true, decide_eq_true_eq] at f1
       simp [f1] at h2
       omega
     refine zr (za rfl (nP (cw_ret (post_then_r (post_blk_r (post_then_r (post_then_r (post_blk_r (post_then_r (post_ret1 rfl (resOk_tmp rfl) ?_))))))))))
     exact fun w' hw => ⟨by rw [hf], (Cl.sel (by exact .nil _)) _ hw⟩
   · have h3 : prOk (nth p k) = true := by
       simp at h2
       unfold prOk
       simp only [Bool.and_eq_true, decide_eq_true_eq]
       exact ⟨⟨⟨h2.1.1.1, h2.1.1.2⟩, by omega⟩, by omega⟩
     refine sP (cw_seq ?_)
     refine cw_region_q mixed_Tryz (by kernel_rfl) ?_
     refine zw rfl (zq rfl (q_gtr rfl rfl rfl) (zw rfl (zw rfl (zw rfl ?_))))
     refine zq rfl (q_indexN rfl rfl rfl (stA (by assumption)) (by intro hc; omega)) ?_
     refine zq rfl (q_fieldEl rfl rfl (stA (by assumption)) (by intro hc; omega)) ?_
     refine zq rfl (q_loadF rfl rfl rfl (stA (by assumption)) (by intro hc; omega) rfl) ?_
     refine zw rfl (zw rfl ?_)
     refine zq rfl (q_sub rfl rfl rfl (by intro hc; omega)) ?_
     refine zq rfl (q_index rfl rfl rfl (stA (by assumption)) (by intro hc; (simp only [AllT.iff, List.all_cons, List.all_nil, id, Bool.and_eq_true, Bool.not_eq_true', decide_eq_true_eq, decide_eq_false_iff_not, and_true] at hc; omega))) ?_
     refine zq rfl (q_fieldEl rfl rfl (stA (by assumption)) (by intro hc; omega)) ?_
     refine zq rfl (q_loadF rfl rfl rfl (stA (by assumption)) (by intro hc; omega) rfl) ?_
     refine zq rfl (q_lss rfl rfl rfl) (zw rfl (zw rfl (zw rfl ?_)))
     refine zq rfl (q_indexN rfl rfl rfl (stA (by assumption)) (by intro hc; omega)) ?_
     refine zq rfl (q_fieldEl rfl rfl (stA (by assumption)) (by intro hc; omega)) ?_
     refine zq rfl (q_loadF rfl rfl rfl (stA (by assumption)) (by intro hc; omega) rfl) ?_
     refine zw rfl (zw rfl ?_)
     refine zq rfl (q_sub rfl rfl rfl (by intro hc; omega)) ?_
     refine zq rfl (q_index rfl rfl rfl (stA (by assumption)) (by intro hc; (simp only [AllT.iff, List.all_cons, List.all_nil, id, Bool.and_eq_true, Bool.not_eq_true', decide_eq_true_eq, decide_eq_false_iff_not, and_true] at hc; omega))) ?_
     refine zq rfl (q_fieldEl rfl rfl (stA (by assumption)) (by intro hc; omega)) ?_
     refine zq rfl (q_loadF rfl rfl rfl (stA (by assumption)) (by intro hc; omega) rfl) ?_
     refine zq rfl (q_eql rfl rfl rfl) (zw rfl (zw rfl (zw rfl ?_)))
     refine zq rfl (q_sub rfl rfl rfl (by intro hc; omega)) ?_
     refine zq rfl (q_index rfl rfl rfl (stA (by assumption)) (by intro hc; (simp only [AllT.iff, List.all_cons, List.all_nil, id, Bool.and_eq_true, Bool.not_eq_true', decide_eq_true_eq, decide_eq_false_iff_not, and_true] at hc; omega))) ?_
     refine zq rfl (q_fieldEl rfl rfl (stA (by assumption)) (by intro hc; omega)) ?_
     refine zq rfl (q_loadF rfl rfl rfl (stA (by assumption)) (by intro hc; omega) rfl) ?_
     refine zw rfl (zw rfl ?_)
     refine zq rfl (q_indexN rfl rfl rfl (stA (by assumption)) (by intro hc; omega)) ?_
     refine zq rfl (q_fieldEl rfl rfl (stA (by assumption)) (by intro hc; omega)) ?_
     refine zq rfl (q_loadF rfl rfl rfl (stA (by assumption)) (by intro hc; omega) rfl) ?_
     refine qw_step rfl rfl rfl (q_call (CanCall.mk Tryz.call38) rfl (.k rfl (.k rfl (.nil))) (fun _ w hw => callq hw (order_spec _ _ _ _ w (by exact stb_arg hw (by assumption)) (by exact stb_arg hw (by assumption))))) ?_
     refine zq rfl (q_geq rfl rfl rfl) (zq rfl (q_and2 rfl rfl rfl) (zq rfl (q_or2 rfl rfl rfl) (zq rfl (q_and2 rfl rfl rfl) (qw_end (post_then ?_)))))
     refine cw_cond rfl (fun h4 => ?_) (fun h4 => ?_)
     · have hf : prsOk p = false := hno fun hh => by
         by_cases hk0 : 0 < k
         · have f2 := hh.lt hk0
           rw [e1 hk0] at h4
           simp [hk0] at h4
           omega
         · have hk1 : k = 0 := by omega
           subst hk1
           simp at h4
       refine zr (za rfl (nP (cw_ret (post_blk_r (post_then_r (post_then_r (post_blk_r (post_then_r (post_ret1 rfl (resOk_tmp rfl) ?_)))))))))
       exact fun w' hw => ⟨by rw [hf], (Cl.sel (by exact .nil _)) _ hw⟩
     · have h9 : PrAt p k := by
         refine ⟨h3, fun hk0 => ?_⟩
         rw [e1 hk0] at h4
         simp [hk0] at h4
         by_cases h5 : (nth p (k - 1)).c = (nth p k).c
         · right
           have := h4.2 h5.symm
           exact ⟨h5, by omega⟩
         · left; omega
       refine cw_skip (post_blk (post_then (cw_region (zm rfl ?_))))
       refine zS rfl (q_add rfl rfl rfl (by intro hc; omega)) ?_
       refine za rfl (sw_nil ?_)
       exact post_next (k + 1) (by exact .cons rfl (.cons rfl .nil)) (Cl.sel (by exact .nil _)) ⟨by omega, fun i hi => by
         rcases Nat.lt_or_ge i k with h6 | h6
         · exact hbe i h6
         · have : i = k := by omega
           subst this; exact h9⟩ (by omega)
 · have hk' : k = p.length := by simp at h; omega
   subst hk'
   have hf : prsOk p = true := prs_iff.2 hbe
   refine cw_exit (post_then_x (post_then_x (post_blk_eq (post_then (zr (za rfl (nP (cw_ret (post_ret1 rfl (resOk_tmp rfl) ?_)))))))))
   exact fun w' hw => ⟨by rw [hf], (Cl.sel (by exact .nil _)) _ hw⟩
def lexOk (l : List Sp) : Bool := riseB spC l && l.all spOk
structure SpAt (l : List Sp) (k : Nat) : Prop where
 ok : spOk (nth l k) = true
 lt : 0 < k → sLt (nth l (k - 1)).word (nth l k).word = true
theorem lex_iff {l : List Sp} : lexOk l = true ↔ ∀ k, k < l.length → SpAt l k := by
 unfold lexOk
 simp only [Bool.and_eq_true, List.all_eq_true]
 constructor
 · intro ⟨h1, h2⟩ k hk
   exact ⟨h2 _ (nth_mem hk), fun h0 => cmpS_neg.1 (riseB_yes.1 h1 k (by omega) hk)⟩
 · intro h
   refine ⟨riseB_yes.2 fun k h1 h2 => cmpS_neg.2 ((h k h2).lt (by omega)), fun L hL => ?_⟩
   obtain ⟨k, hk, rfl⟩ := List.getElem_of_mem hL
   rw [← nth_get hk]
   exact (h k hk).ok
theorem refLexicon_spec (sv : Value) (l : List Sp) (hz : ∀ u ∈ l, u.word.size ≤ 1000 ∧ ∀ b ∈ u.pl, b.size ≤ 9223372036854775807) (w : World) (hT : Stb w [] Tab) (hs : Stb w [] (RdL sv l)) (hp : Stb w [] fun w' => ∀ u ∈ l, SpIn u w') : Calls Tryz.prog 51 #[sv] w fun e w' => e = .returned (.bool (lexOk l)) ∧ Cl w [] [] w' := by
 have hL := rd_len hs.here
 refine calls_cw (vs := [_]) Tryz.func51 rfl Tryz.ntmps51 rfl (Cl.start0 w) (zr (za rfl (nP (cw_seq (cw_seq (cw_region (za rfl (sw_nil (post_then (cw_block ?_))))))))))
 refine cw_loop (S := Nat) (fun k => [(0, [], sv), (3, [], .int .i64 k)]) (fun _ => Cl w [] []) (fun k => k ≤ l.length ∧ ∀ j, j < k → SpAt l j) (fun k => l.length - k) 0 ⟨by omega, fun j hj => by omega⟩ (by exact .cons rfl (.cons rfl .nil)) (Cl.sel (by exact .nil _)) ?_
 rintro k ⟨hk, hbe⟩
 refine cw_seq (zr (zm rfl (zm rfl ?_)))
 refine zS rfl (q_len rfl (.k rfl (.nil)) (stA (by assumption))) ?_
 refine zS rfl (q_lss rfl rfl rfl) (nP ?_)
 refine cw_cond rfl (fun h => ?_) (fun h => ?_)
 · have hk' : k < l.length := by simp at h; omega
   have hno : ¬ SpAt l k → lexOk l = false := fun hn => by
     cases hx : lexOk l with
     | false => rfl
     | true => exact absurd (lex_iff.1 hx k hk') hn
   have e1 : 0 < k → ((k : Int) - 1).toNat = k - 1 := fun h0 => by omega
   have hx := rd_stb (hp.here _ (nth_mem hk'))
   obtain ⟨hzw, hzk⟩ := hz _ (nth_mem hk')
   refine sP (cw_seq (cw_block (zr (zm rfl (zm rfl ?_)))))
   refine zS rfl (q_indexN rfl rfl rfl (stA (by assumption)) (by intro hc; omega)) ?_
   refine zS rfl (q_fieldEl rfl rfl (stA (by assumption)) (by intro hc; omega)) ?_
   refine zS rfl (q_loadF rfl rfl rfl (stA (by assumption)) (by intro hc; omega) rfl) ?_
   refine sw_x rfl rfl rfl (e_call (CanCall.mk Tryz.call21) rfl (.k rfl (.nil)) (fun w hw => refLetters_spec _ w (by omega) (stb_arg hw (by assumption)))) (fun x18 => ?_)
   refine sw_imp (fun hx18 => ?_)
   refine zm rfl (zS rfl (q_extract rfl rfl rfl) (zS rfl (q_extract rfl rfl rfl) (za rfl (za rfl (nP (cw_seq ?_))))))
   refine cw_region_q mixed_Tryz (by kernel_rfl) ?_
   refine zw rfl (zq rfl (q_not rfl rfl) (zw rfl (zw rfl (zw rfl ?_))))
   refine zq rfl (q_indexN rfl rfl rfl (stA (by assumption)) (by intro hc; omega)) ?_
   refine zq rfl (q_fieldEl rfl rfl (stA (by assumption)) (by intro hc; omega)) ?_
   refine zq rfl (q_loadF rfl rfl rfl (stA (by assumption)) (by intro hc; omega) rfl) ?_
   refine qw_step rfl rfl rfl (q_call (CanCall.mk Tryz.call23) rfl (.k rfl (.k rfl (.nil))) (fun _ w hw => callq hw (refPhones_spec _ _ _ w (by exact stb_arg hw (by assumption)) (by assumption)))) ?_
   refine zq rfl (q_not rfl rfl) (zq rfl (q_or2 rfl rfl rfl) (zw rfl (zw rfl (zq rfl (q_gtr rfl rfl rfl) (zw rfl (zw rfl (zw rfl ?_)))))))
   refine zq rfl (q_indexN rfl rfl rfl (stA (by assumption)) (by intro hc; omega)) ?_
   refine zq rfl (q_fieldEl rfl rfl (stA (by assumption)) (by intro hc; omega)) ?_
   refine zq rfl (q_loadF rfl rfl rfl (stA (by assumption)) (by intro hc; omega) rfl) ?_
   refine zw rfl (zw rfl ?_)
   refine zq rfl (q_sub rfl rfl rfl (by intro hc; omega)) ?_
   refine zq rfl (q_index rfl rfl rfl (stA (by assumption)) (by intro hc; (simp only [AllT.iff, List.all_cons, List.all_nil, id, Bool.and_eq_true, Bool.not_eq_true', decide_eq_true_eq, decide_eq_false_iff_not, and_true] at hc; omega))) ?_
   refine zq rfl (q_fieldEl rfl rfl (stA (by assumption)) (by intro hc; omega)) ?_
   refine zq rfl (q_loadF rfl rfl rfl (stA (by assumption)) (by intro hc; omega) rfl) ?_
   refine zq rfl (q_leqStr rfl rfl rfl Tryz.underlying9) (zq rfl (q_and2 rfl rfl rfl) (zq rfl (q_or2 rfl rfl rfl) (qw_end (post_then ?_))))
   refine cw_cond rfl (fun h2 => ?_) (fun h2 => ?_)
   · have hf : lexOk l = false := hno fun hh => by
       have f1 := hh.ok
       unfold spOk at f1
       simp only [Bool.and_eq_true] at f1
       by_cases hk0 : 0 < k
       · have f2 := hh.lt hk0
         rw [e1 hk0] at h2
         have f6 := lt_asym f2
         simp [f1, f6, hk0] at h2
       · have hk1 : k = 0 := by omega
         subst hk1
         simp [f1] at h2
     refine zr (za rfl (nP (cw_ret (post_blk_r (post_then_r (post_then_r (post_blk_r (post_then_r (post_ret1 rfl (resOk_tmp rfl) ?_)))))))))
     exact fun w' hw => ⟨by rw [hf], (Cl.sel (by exact .nil _)) _ hw⟩
   · have h9 : SpAt l k := by
       by_cases hk0 : 0 < k
       · rw [e1 hk0] at h2
         simp [hk0] at h2
         exact ⟨by unfold spOk; rw [h2.1.1, h2.1.2]; rfl, fun _ => lt_of h2.2⟩
       · have hk1 : k = 0 := by omega
         subst hk1
         simp at h2
         exact ⟨by unfold spOk; rw [h2.1, h2.2]; rfl, fun _ => by omega⟩
     refine cw_skip (post_blk (post_then (cw_region (zm rfl ?_))))
     refine zS rfl (q_add rfl rfl rfl (by intro hc; omega)) ?_
     refine za rfl (sw_nil ?_)
     exact post_next (k + 1) (by exact .cons rfl (.cons rfl .nil)) (Cl.sel (by exact .nil _)) ⟨by omega, fun i hi => by
       rcases Nat.lt_or_ge i k with h6 | h6
       · exact hbe i h6
       · have : i = k := by omega
         subst this; exact h9⟩ (by omega)
 · have hk' : k = l.length := by simp at h; omega
   subst hk'
   have hf : lexOk l = true := lex_iff.2 hbe
   refine cw_exit (post_then_x (post_then_x (post_blk_eq (post_then (zr (za rfl (nP (cw_ret (post_ret1 rfl (resOk_tmp rfl) ?_)))))))))
   exact fun w' hw => ⟨by rw [hf], (Cl.sel (by exact .nil _)) _ hw⟩
end Go.Proofs.YtkmbliojafefdaaGreatDoor

set_option autoImplicit false
set_option maxRecDepth 100000
namespace Go.Proofs.YtkmbliojafefdaaGreatDoor
open Go.Sx
open Enc (enc val)
theorem near_spec (x : XR) (d : Int) (hx : 0 ≤ x.at_ ∧ x.at_ ≤ 1000000) (hd : -1000 ≤ d ∧ d ≤ 1000) (w : World) (hw : Stb w [] (RdL x.w.v x.wl)) : Calls Tryz.prog 78 #[val x, .int .i64 d] w fun e w' => e = .returned (.int .i32 (lookC x.wl (x.at_ + d))) ∧ Cl w [] [] w' := by
 have hL := rd_len hw.here
 refine calls_cw (vs := [_, _]) Tryz.func78 rfl Tryz.ntmps78 rfl (Cl.start0 w) (zr ?_)
 refine sw_x rfl rfl rfl (e_box rfl rfl rfl) (fun b2 => ?_)
 refine za rfl (nP (cw_seq (zr (zS rfl (q_fieldAddr rfl rfl) ?_))))
 refine zS rfl (q_loadC rfl rfl (by exact .head _) rfl) ?_
 refine zm rfl ?_
 refine zS rfl (q_add rfl rfl rfl (by intro hc; omega)) ?_
 refine zS rfl (q_lss rfl rfl rfl) (zm rfl (zS rfl (q_fieldAddr rfl rfl) ?_))
 refine zS rfl (q_loadC rfl rfl (by exact .head _) rfl) ?_
 refine zm rfl ?_
 refine zS rfl (q_add rfl rfl rfl (by intro hc; omega)) ?_
 refine zS rfl (q_fieldAddr rfl rfl) ?_
 refine zS rfl (q_loadC rfl rfl (by exact .head _) rfl) ?_
 refine zS rfl (q_len rfl (.k rfl (.nil)) (stA (by assumption))) ?_
 refine zS rfl (q_geq rfl rfl rfl) (zS rfl (q_or2 rfl rfl rfl) (nP ?_))
 refine cw_cond rfl (fun h => ?_) (fun h => ?_)
 · have e1 : lookC x.wl (x.at_ + d) = 0 := by unfold lookC; rw [if_pos (by simp at h; omega)]
   refine zr (za rfl (nP (cw_ret (post_then_r (post_ret1 rfl (resOk_tmp rfl) ?_)))))
   exact fun w' hw => ⟨by rw [e1], (Cl.sel (by exact .nil _)) _ hw⟩
 · have h1 : 0 ≤ x.at_ + d ∧ x.at_ + d < x.wl.length := by simp at h; omega
   have e1 : lookC x.wl (x.at_ + d) = (nth x.wl (x.at_ + d).toNat).v := by unfold lookC; rw [if_neg (by omega)]
   refine sP (zr (zS rfl (q_fieldAddr rfl rfl) ?_))
   refine zS rfl (q_loadC rfl rfl (by exact .head _) rfl) ?_
   refine zS rfl (q_fieldAddr rfl rfl) ?_
   refine zS rfl (q_loadC rfl rfl (by exact .head _) rfl) ?_
   refine zm rfl ?_
   refine zS rfl (q_add rfl rfl rfl (by intro hc; omega)) ?_
   refine zS rfl (q_index rfl rfl rfl (stA (by assumption)) (by intro hc; omega)) ?_
   refine zS rfl (q_loadF rfl rfl rfl (stA (by assumption)) (by intro hc; omega) rfl) ?_
   refine za rfl (nP (cw_ret (post_ret1 rfl (resOk_tmp rfl) ?_)))
   exact fun w' hw => ⟨by first | (rw [e1]; rfl) | rw [e1], (Cl.sel (by exact .nil _)) _ hw⟩
theorem holdsR_spec (sv : Value) (t : List Cond) (x : XR) (hx : 0 ≤ x.at_ ∧ x.at_ ≤ 1000000) (ht : ∀ c ∈ t, CondB c) (w : World) (hs : Stb w [] (RdL sv t)) (hw0 : Stb w [] (RdL x.w.v x.wl)) : Calls Tryz.prog 35 #[sv, val x] w fun e w' => e = .returned (.bool (holdsC x.wl x.at_ t)) ∧ Cl w [] [] w' := by
 have hL := rd_len hs.here
 refine calls_cw (vs := [_, _]) Tryz.func35 rfl Tryz.ntmps35 rfl (Cl.start0 w) (zr ?_)
 refine sw_x rfl rfl rfl (e_box rfl rfl rfl) (fun b3 => ?_)
 refine za rfl (nP (cw_seq (zr (za rfl (sw_nil (post_then (cw_block ?_)))))))
 refine cw_loop (S := Nat) (fun k => [(0, [], sv), (3, [], .pointer (some ⟨b3, 0, none⟩)), (5, [], .int .i64 k)]) (fun _ => Cl w [] [blk b3 (enc x) 58]) (fun k => k ≤ t.length ∧ ∀ j, j < k → decide (lookC x.wl (x.at_ + (nth t j).at_) = (nth t j).c) = true) (fun k => t.length - k) 0 ⟨by omega, fun j hj => by omega⟩ (by exact .cons rfl (.cons rfl (.cons rfl .nil))) (fun _ h => h) ?_
 rintro k ⟨hk, hbe⟩
 refine cw_seq (zr (zm rfl (zm rfl ?_)))
 refine zS rfl (q_len rfl (.k rfl (.nil)) (stA (by assumption))) ?_
 refine zS rfl (q_lss rfl rfl rfl) (nP ?_)
 refine cw_cond rfl (fun h => ?_) (fun h => ?_)
 · have hk' : k < t.length := by simp at h; omega
   have hc : -1000 ≤ (nth t k).at_ ∧ (nth t k).at_ ≤ 1000 := ht _ (nth_mem hk')
   refine sP (cw_seq (cw_block (cw_seq (cw_region_a (Cl w [] [blk b3 (enc x) 58]) [] mixed_Tryz ?_))))
   refine zk 0 (Cl.sel (by exact .take 0 rfl (.nil _))) rfl (q_loadA rfl rfl (by exact .head _) rfl) ?_
   refine zp 1 rfl (q_move rfl rfl) ?_
   refine zp 2 rfl (q_move rfl rfl) ?_
   refine zk 3 (Cl.sel (by exact .take 0 rfl (.nil _))) rfl (q_indexN rfl rfl rfl (stA (by assumption)) (by intro hc; omega)) ?_
   refine zk 4 (Cl.sel (by exact .take 0 rfl (.nil _))) rfl (q_fieldEl rfl rfl (stA (by assumption)) (by intro hc; omega)) ?_
   refine zk 5 (Cl.sel (by exact .take 0 rfl (.nil _))) rfl (q_loadF rfl rfl rfl (stA (by assumption)) (by intro hc; omega) rfl) ?_
   refine zp 7 rfl (q_move rfl rfl) ?_
   refine zp 8 rfl (q_move rfl rfl) ?_
   refine zk 9 (Cl.sel (by exact .take 0 rfl (.nil _))) rfl (q_indexN rfl rfl rfl (stA (by assumption)) (by intro hc; omega)) ?_
   refine zk 10 (Cl.sel (by exact .take 0 rfl (.nil _))) rfl (q_fieldEl rfl rfl (stA (by assumption)) (by intro hc; omega)) ?_
   refine zk 11 (Cl.sel (by exact .take 0 rfl (.nil _))) rfl (q_loadF rfl rfl rfl (stA (by assumption)) (by intro hc; omega) rfl) ?_
   refine aw_q 6 (by kernel_rfl) rfl rfl rfl rfl (q_call (CanCall.mk Tryz.call78) rfl (.k rfl (.k rfl (.nil))) (fun _ w1 hw => callq hw (near_spec x (nth t k).at_ hx hc w1 (stb_arg hw hw0)))) (by intro hb; exact (Cl.sel (by exact .take 0 rfl (.nil _)))) ?_
   refine zp 12 rfl (q_neq rfl rfl rfl) ?_
   refine aw_end (by kernel_rfl) ?_
   refine post_then ?_
   refine cw_cond rfl (fun h2 => ?_) (fun h2 => ?_)
   · have e1 : holdsC x.wl x.at_ t = false := by unfold holdsC; exact all_no hk' (by simpa using h2)
     refine zr (za rfl (nP (cw_ret (post_blk_r (post_then_r (post_then_r (post_blk_r (post_then_r (post_ret1 rfl (resOk_tmp rfl) ?_)))))))))
     exact fun w' hw => ⟨by rw [e1], (Cl.sel (by exact .nil _)) _ hw⟩
   · have e1 : decide (lookC x.wl (x.at_ + (nth t k).at_) = (nth t k).c) = true := by simpa using h2
     refine cw_skip (post_blk (post_then (cw_region (zm rfl ?_))))
     refine zS rfl (q_add rfl rfl rfl (by intro hc; omega)) ?_
     refine za rfl (sw_nil ?_)
     exact post_next (k + 1) (by exact .cons rfl (.cons rfl (.cons rfl .nil))) (fun _ h => h) ⟨by omega, fun j hj => by
       rcases Nat.lt_or_ge j k with h6 | h6
       · exact hbe j h6
       · have : j = k := by omega
         subst this; exact e1⟩ (by omega)
 · have hk' : k = t.length := by simp at h; omega
   subst hk'
   have e1 : holdsC x.wl x.at_ t = true := by unfold holdsC; exact all_yes hbe
   refine cw_exit (post_then_x (post_then_x (post_blk_eq (post_then (zr (za rfl (nP (cw_ret (post_ret1 rfl (resOk_tmp rfl) ?_)))))))))
   exact fun w' hw => ⟨by rw [e1], (Cl.sel (by exact .nil _)) _ hw⟩
end Go.Proofs.YtkmbliojafefdaaGreatDoor

set_option autoImplicit false
set_option maxRecDepth 100000
namespace Go.Proofs.YtkmbliojafefdaaGreatDoor
open Go.Sx
open Enc (enc val)
theorem rankR_spec (a : Int) (h : -1000 ≤ a ∧ a ≤ 1000) (w : World) : Calls Tryz.prog 207 #[.int .i64 a] w fun e w' => e = .returned (.int .i64 (rankC a)) ∧ Cl w [] [] w' := by
 refine calls_cw (vs := [_]) Tryz.func207 rfl Tryz.ntmps207 rfl (Cl.start0 w) (zr (za rfl (nP (cw_seq (cw_seq (cw_region (zm rfl (zS rfl (q_lss rfl rfl rfl) (sw_nil (post_then ?_))))))))))
 refine cw_cond rfl (fun h1 => ?_) (fun h1 => ?_)
 · have h2 : rankC a = -2 * a := by unfold rankC; rw [if_pos (by simpa using h1)]
   refine zr (zm rfl ?_)
   refine zS rfl (q_mul rfl rfl rfl (by intro hc; omega)) ?_
   refine za rfl (nP (cw_ret (post_then_r (post_ret1 rfl (resOk_tmp rfl) ?_))))
   exact fun w' hw => ⟨by rw [h2], hw⟩
 · have h2 : rankC a = 2 * a + 1 := by unfold rankC; rw [if_neg (by simpa using h1)]
   refine sP (zr (zm rfl ?_))
   refine zS rfl (q_mul rfl rfl rfl (by intro hc; omega)) ?_
   refine zS rfl (q_add rfl rfl rfl (by intro hc; omega)) ?_
   refine za rfl (nP (cw_ret (post_ret1 rfl (resOk_tmp rfl) ?_)))
   exact fun w' hw => ⟨by rw [h2], hw⟩
theorem ordBy_step {α : Type} [Inhabited α] {c : α → α → Int} {a b : List α} {k : Nat} (ha : k < a.length) (hb : k < b.length) : ordBy c (a.drop k) (b.drop k) = if c (nth a k) (nth b k) = 0 then ordBy c (a.drop (k + 1)) (b.drop (k + 1)) else c (nth a k) (nth b k) := by
 rw [List.drop_eq_getElem_cons ha, List.drop_eq_getElem_cons hb, nth_get ha, nth_get hb]
 conv => lhs; unfold ordBy
theorem condC_at {p q : Cond} (h : p.at_ ≠ q.at_) : condC p q ≠ 0 ∧ (condC p q < 0 ↔ rankC p.at_ < rankC q.at_) := by
 have h1 : sgn (rankC p.at_ - rankC q.at_) ≠ 0 := fun e => by
   rw [sgn_zero] at e
   exact h (rank_inj (by omega))
 have h2 : condC p q = sgn (rankC p.at_ - rankC q.at_) := by
   rw [condC_lex]; unfold lexC; rw [if_pos h1]
 rw [h2, sgn_neg]
 exact ⟨h1, by omega⟩
theorem condC_c {p q : Cond} (h : p.at_ = q.at_) : condC p q = sgn (p.c - q.c) := by
 rw [condC_lex]; unfold lexC; rw [if_neg (by simp only [h]; simp [sgn])]
theorem earlier_spec (sa sb : Value) (a b : List Cond) (hab : a.length = b.length) (ha : ∀ c ∈ a, CondB c) (hb : ∀ c ∈ b, CondB c) (w : World) (hs : Stb w [] (RdL sa a)) (ht : Stb w [] (RdL sb b)) : Calls Tryz.prog 192 #[sa, sb] w fun e w' => e = .returned (.bool (decide (ordBy condC a b < 0))) ∧ Cl w [] [] w' := by
 have hL := rd_len hs.here
 refine calls_cw (vs := [_, _]) Tryz.func192 rfl Tryz.ntmps192 rfl (Cl.start0 w) (zr (za rfl (nP (cw_seq (cw_seq (cw_region (za rfl (sw_nil (post_then (cw_block ?_))))))))))
 refine cw_loop (S := Nat) (fun k => [(0, [], sa), (1, [], sb), (5, [], .int .i64 k)]) (fun _ => Cl w [] []) (fun k => k ≤ a.length ∧ ordBy condC a b = ordBy condC (a.drop k) (b.drop k)) (fun k => a.length - k) 0 ⟨by omega, by simp⟩ (by exact .cons rfl (.cons rfl (.cons rfl .nil))) (fun _ h => h) ?_
 rintro k ⟨hk, he⟩
 refine cw_seq (zr (zm rfl (zm rfl ?_)))
 refine zS rfl (q_len rfl (.k rfl (.nil)) (stA (by assumption))) ?_
 refine zS rfl (q_lss rfl rfl rfl) (nP ?_)
 refine cw_cond rfl (fun h => ?_) (fun h => ?_)
 · have hk' : k < a.length := by simp at h; omega
   have h1 : -1000 ≤ (nth a k).at_ ∧ (nth a k).at_ ≤ 1000 := ha _ (nth_mem hk')
   have h2 : -1000 ≤ (nth b k).at_ ∧ (nth b k).at_ ≤ 1000 := hb _ (nth_mem (show k < b.length by omega))
   rw [ordBy_step hk' (by omega)] at he
   refine sP (cw_seq (cw_block (cw_seq (cw_seq ?_))))
   refine cw_region_q mixed_Tryz (by kernel_rfl) ?_
   refine zw rfl (zw rfl ?_)
   refine zq rfl (q_indexN rfl rfl rfl (stA (by assumption)) (by intro hc; omega)) ?_
   refine zq rfl (q_fieldEl rfl rfl (stA (by assumption)) (by intro hc; omega)) ?_
   refine zq rfl (q_loadF rfl rfl rfl (stA (by assumption)) (by intro hc; omega) rfl) ?_
   refine zw rfl (zw rfl ?_)
   refine zq rfl (q_indexN rfl rfl rfl (stA (by assumption)) (by intro hc; omega)) ?_
   refine zq rfl (q_fieldEl rfl rfl (stA (by assumption)) (by intro hc; omega)) ?_
   refine zq rfl (q_loadF rfl rfl rfl (stA (by assumption)) (by intro hc; omega) rfl) ?_
   refine zq rfl (q_neq rfl rfl rfl) (qw_end (post_then ?_))
   refine cw_cond rfl (fun h3 => ?_) (fun h3 => ?_)
   · have h4 : (nth a k).at_ ≠ (nth b k).at_ := by simpa using h3
     obtain ⟨c1, c2⟩ := condC_at h4
     rw [if_neg c1] at he
     refine cw_seq ?_
     refine cw_region_q mixed_Tryz (by kernel_rfl) ?_
     refine zw rfl (zw rfl ?_)
     refine zq rfl (q_indexN rfl rfl rfl (stA (by assumption)) (by intro hc; omega)) ?_
     refine zq rfl (q_fieldEl rfl rfl (stA (by assumption)) (by intro hc; omega)) ?_
     refine zq rfl (q_loadF rfl rfl rfl (stA (by assumption)) (by intro hc; omega) rfl) ?_
     refine qw_step rfl rfl rfl (q_call (CanCall.mk Tryz.call207) rfl (.k rfl (.nil)) (fun _ w hw => callq hw (rankR_spec _ (by assumption) w))) ?_
     refine zw rfl (zw rfl ?_)
     refine zq rfl (q_indexN rfl rfl rfl (stA (by assumption)) (by intro hc; omega)) ?_
     refine zq rfl (q_fieldEl rfl rfl (stA (by assumption)) (by intro hc; omega)) ?_
     refine zq rfl (q_loadF rfl rfl rfl (stA (by assumption)) (by intro hc; omega) rfl) ?_
     refine qw_step rfl rfl rfl (q_call (CanCall.mk Tryz.call207) rfl (.k rfl (.nil)) (fun _ w hw => callq hw (rankR_spec _ (by assumption) w))) ?_
     refine zq rfl (q_lss rfl rfl rfl) (zq rfl (q_assign rfl rfl) (qw_end (post_then (cw_ret (post_then_r (post_blk_r (post_then_r (post_then_r (post_blk_r (post_then_r (post_ret1 rfl (resOk_tmp rfl) ?_)))))))))))
     exact fun w' hw => ⟨by rw [he, decide_eq_decide.2 c2], hw⟩
   · have h4 : (nth a k).at_ = (nth b k).at_ := by simpa using h3
     have h5 := condC_c h4
     rw [h5] at he
     refine sP (cw_seq ?_)
     refine cw_region_q mixed_Tryz (by kernel_rfl) ?_
     refine zw rfl (zw rfl ?_)
     refine zq rfl (q_indexN rfl rfl rfl (stA (by assumption)) (by intro hc; omega)) ?_
     refine zq rfl (q_fieldEl rfl rfl (stA (by assumption)) (by intro hc; omega)) ?_
     refine zq rfl (q_loadF rfl rfl rfl (stA (by assumption)) (by intro hc; omega) rfl) ?_
     refine zw rfl (zw rfl ?_)
     refine zq rfl (q_indexN rfl rfl rfl (stA (by assumption)) (by intro hc; omega)) ?_
     refine zq rfl (q_fieldEl rfl rfl (stA (by assumption)) (by intro hc; omega)) ?_
     refine zq rfl (q_loadF rfl rfl rfl (stA (by assumption)) (by intro hc; omega) rfl) ?_
     refine zq rfl (q_neq rfl rfl rfl) (qw_end (post_then ?_))
     refine cw_cond rfl (fun h6 => ?_) (fun h6 => ?_)
     · have h7 : (nth a k).c ≠ (nth b k).c := by simpa using h6
       rw [if_neg (by rw [sgn_zero]; omega)] at he
       refine cw_seq ?_
       refine cw_region_q mixed_Tryz (by kernel_rfl) ?_
       refine zw rfl (zw rfl ?_)
       refine zq rfl (q_indexN rfl rfl rfl (stA (by assumption)) (by intro hc; omega)) ?_
       refine zq rfl (q_fieldEl rfl rfl (stA (by assumption)) (by intro hc; omega)) ?_
       refine zq rfl (q_loadF rfl rfl rfl (stA (by assumption)) (by intro hc; omega) rfl) ?_
       refine zw rfl (zw rfl ?_)
       refine zq rfl (q_indexN rfl rfl rfl (stA (by assumption)) (by intro hc; omega)) ?_
       refine zq rfl (q_fieldEl rfl rfl (stA (by assumption)) (by intro hc; omega)) ?_
       refine zq rfl (q_loadF rfl rfl rfl (stA (by assumption)) (by intro hc; omega) rfl) ?_
       refine zq rfl (q_lss rfl rfl rfl) (zq rfl (q_assign rfl rfl) (qw_end (post_then (cw_ret (post_blk_r (post_then_r (post_then_r (post_blk_r (post_then_r (post_ret1 rfl (resOk_tmp rfl) ?_))))))))))
       have hd : decide (sgn ((nth a k).c - (nth b k).c) < 0) = decide ((nth a k).c < (nth b k).c) := decide_eq_decide.2 (by rw [sgn_neg]; omega)
       exact fun w' hw => ⟨by rw [he, hd], hw⟩
     · have h7 : (nth a k).c = (nth b k).c := by simpa using h6
       rw [if_pos (by rw [sgn_zero]; omega)] at he
       refine cw_skip (post_blk (post_then (cw_region (zm rfl ?_))))
       refine zS rfl (q_add rfl rfl rfl (by intro hc; omega)) ?_
       refine za rfl (sw_nil ?_)
       exact post_next (k + 1) (by exact .cons rfl (.cons rfl (.cons rfl .nil))) (fun _ h => h) ⟨by omega, he⟩ (by omega)
 · have hk' : k = a.length := by simp at h; omega
   have h1 : ordBy condC a b = 0 := by
     rw [he, hk', List.drop_length, List.drop_eq_nil_of_le (by omega)]; rfl
   rw [h1]
   refine cw_exit (post_then_x (post_then_x (post_blk_eq (post_then (zr (za rfl (nP (cw_ret (post_ret1 rfl (resOk_tmp rfl) ?_)))))))))
   exact fun w' hw => ⟨rfl, hw⟩
def XR.x (e : XR) : XL := ⟨e.w, e.at_, e.p, e.wl, e.pl⟩
def RxIn (e : XR) (w : World) : Prop := RdL e.w.v e.wl w ∧ RdL e.p.v e.pl w
structure RxOk (e : XR) : Prop where
 small : e.pl.length ≤ 1000
 at0 : 0 ≤ e.at_ ∧ e.at_ ≤ 1000
 in_ : e.at_ < e.wl.length
theorem split_spec (sv sc : Value) (l : List XR) (t : List Cond) (hl : l.length ≤ 1000000) (hok : ∀ e ∈ l, RxOk e) (ht : ∀ c ∈ t, CondB c) (w : World) (hs : Stb w [] (RdL sv l)) (hc : Stb w [] (RdL sc t)) (hin : Stb w [] fun w' => ∀ u ∈ l, RxIn u w') :
   Calls Tryz.prog 158 #[sv, sc] w fun e w' => ∃ y : SlV × SlV, e = .returned (.tuple #[y.1.v, y.2.v]) ∧ True ∧ Cl w [] [ownL 58 y.1.v (l.filter fun e => holdsC e.wl e.at_ t), ownL 58 y.2.v (l.filter fun e => !holdsC e.wl e.at_ t)] w' := by
 have hL := rd_len hs.here
 refine calls_cw (vs := [_, _]) Tryz.func158 rfl Tryz.ntmps158 rfl (Cl.start0 w) (zr (za rfl (za rfl (nP (cw_seq (cw_region (za rfl (za rfl (sw_nil (post_then (cw_seq (cw_seq (cw_region (za rfl (sw_nil (post_then (cw_block ?_)))))))))))))))))
 refine cw_loop (S := Nat × SlV × SlV) (fun y => [(0, [], sv), (1, [], sc), (6, [], y.2.1.v), (7, [], y.2.2.v), (8, [], .int .i64 y.1)]) (fun y => Cl w [] [ownL 58 y.2.1.v ((l.take y.1).filter fun e => holdsC e.wl e.at_ t), ownL 58 y.2.2.v ((l.take y.1).filter fun e => !holdsC e.wl e.at_ t)]) (fun y => y.1 ≤ l.length) (fun y => l.length - y.1) (0, ⟨none, 0, 0⟩, ⟨none, 0, 0⟩) (by simp) (by exact .cons rfl (.cons rfl (.cons rfl (.cons rfl (.cons rfl .nil))))) (fun w' h => Cl.addNil 58 (Cl.addNil 58 ((Cl.sel (by exact .nil _)) _ h))) ?_
 rintro ⟨k, sa, sb⟩ hk
 dsimp only at hk ⊢
 have z1 := List.length_filter_le (fun e : XR => holdsC e.wl e.at_ t) (l.take k)
 have z2 := List.length_filter_le (fun e : XR => !holdsC e.wl e.at_ t) (l.take k)
 rw [List.length_take] at z1 z2
 refine cw_seq (zr (zm rfl (zm rfl ?_)))
 refine zS rfl (q_len rfl (.k rfl (.nil)) (stA (by assumption))) ?_
 refine zS rfl (q_lss rfl rfl rfl) (nP ?_)
 refine cw_cond rfl (fun h => ?_) (fun h => ?_)
 · have hk' : k < l.length := by simp at h; omega
   have hx := nth_mem hk'
   have f1 : ∀ p : XR → Bool, (l.take (k + 1)).filter p = (l.take k).filter p ++ if p (nth l k) then [nth l k] else [] := fun p => by
     rw [List.take_succ_eq_append_getElem hk', ← nth_get hk', List.filter_append]
     congr 1
     by_cases h : p (nth l k) <;> simp [h]
   refine sP (cw_seq (cw_block (zr (zm rfl (zm rfl (zm rfl ?_))))))
   refine zS rfl (q_indexN rfl rfl rfl (stA (by assumption)) (by intro hc; omega)) ?_
   refine zS rfl (q_loadEl rfl rfl rfl (stA (by assumption)) (by intro hc; omega)) ?_
   refine sw_step rfl rfl rfl (q_call (CanCall.mk Tryz.call35) rfl (.k rfl (.k rfl (.nil))) (fun _ w1 hw => callq hw (holdsR_spec _ t (nth l k) ⟨(hok _ hx).at0.1, by have := (hok _ hx).at0.2; omega⟩ ht w1 (stb_arg hw hc) (stb_arg hw (stb_map hin fun _ h => (h _ hx).1))))) ?_
   refine nP ?_
   refine cw_cond rfl (fun h2 => ?_) (fun h2 => ?_)
   · have e1 := f1 fun e => holdsC e.wl e.at_ t
     have e2 := f1 fun e => !holdsC e.wl e.at_ t
     rw [if_pos h2] at e1
     rw [if_neg (by rw [h2]; simp), List.append_nil] at e2
     refine cw_region (zm rfl (zm rfl (zm rfl ?_)))
     refine zS rfl (q_indexN rfl rfl rfl (stA (by assumption)) (by intro hc; omega)) ?_
     refine zS rfl (q_loadEl rfl rfl rfl (stA (by assumption)) (by intro hc; omega)) ?_
     refine sw_x rfl rfl rfl (e_buildL (α := XR) (l := [nth l k]) rfl (.k rfl (.nil)) rfl rfl rfl rfl) (fun s26 => ?_)
     refine sw_x rfl rfl rfl (e_append (i := 1) rfl (.k rfl (.k rfl (.nil))) rfl rfl (rdO (by exact .head _)) (by first | omega | (simp only [List.length_set, List.length_append, List.length_cons, List.length_nil, List.length_replicate, List.length_take, List.length_drop, List.length_map]; omega)) rfl) (fun s27 => ?_)
     refine za rfl (sw_nil (post_blk (post_then (cw_region (zm rfl ?_)))))
     refine zS rfl (q_add rfl rfl rfl (by intro hc; omega)) ?_
     refine za rfl (sw_nil ?_)
     exact post_next (k + 1, s27, sb) (by exact .cons rfl (.cons rfl (.cons rfl (.cons rfl (.cons rfl .nil))))) (fun w' h => by simp only; rw [e1, e2]; exact (Cl.sel (by exact .take 1 rfl (.take 1 rfl (.nil _)))) _ h) (by simp only; omega) (by simp only; omega)
   · have e1 := f1 fun e => holdsC e.wl e.at_ t
     have e2 := f1 fun e => !holdsC e.wl e.at_ t
     rw [if_neg (by rw [h2]; simp), List.append_nil] at e1
     rw [if_pos (by rw [h2]; rfl)] at e2
     refine cw_region (zm rfl (zm rfl (zm rfl ?_)))
     refine zS rfl (q_indexN rfl rfl rfl (stA (by assumption)) (by intro hc; omega)) ?_
     refine zS rfl (q_loadEl rfl rfl rfl (stA (by assumption)) (by intro hc; omega)) ?_
     refine sw_x rfl rfl rfl (e_buildL (α := XR) (l := [nth l k]) rfl (.k rfl (.nil)) rfl rfl rfl rfl) (fun s33 => ?_)
     refine sw_x rfl rfl rfl (e_append (i := 2) rfl (.k rfl (.k rfl (.nil))) rfl rfl (rdO (by exact .head _)) (by first | omega | (simp only [List.length_set, List.length_append, List.length_cons, List.length_nil, List.length_replicate, List.length_take, List.length_drop, List.length_map]; omega)) rfl) (fun s34 => ?_)
     refine za rfl (sw_nil (post_blk (post_then (cw_region (zm rfl ?_)))))
     refine zS rfl (q_add rfl rfl rfl (by intro hc; omega)) ?_
     refine za rfl (sw_nil ?_)
     exact post_next (k + 1, sa, s34) (by exact .cons rfl (.cons rfl (.cons rfl (.cons rfl (.cons rfl .nil))))) (fun w' h => by simp only; rw [e1, e2]; exact (Cl.sel (by exact .take 1 rfl (.take 1 rfl (.nil _)))) _ h) (by simp only; omega) (by simp only; omega)
 · have hk' : k = l.length := by simp at h; omega
   subst hk'
   rw [List.take_length]
   refine cw_exit (post_then_x (post_then_x (post_blk_eq (post_then (zr (zm rfl (zm rfl (za rfl (za rfl (nP (cw_ret (post_ret2 rfl (resOk_tmp rfl) (resOk_tmp rfl) ?_))))))))))))
   exact fun w' hw => ⟨(sa, sb), rfl, trivial, hw⟩
theorem bestR_spec (sv : Value) (l : List XR) (hl : l.length ≤ 1000000) (hok : ∀ e ∈ l, RxOk e) (w : World) (hs : Stb w [] (RdL sv l)) (hin : Stb w [] fun w' => ∀ u ∈ l, RxIn u w') :
   Calls Tryz.prog 156 #[sv] w fun e w' => ∃ y : SlV, e = .returned (.tuple #[y.v, .int .i64 (mostC (l.map XR.x)).m]) ∧ True ∧ Cl w [] [ownL 9 y.v (mostC (l.map XR.x)).b] w' := by
 obtain ⟨lx, hlx⟩ : ∃ lx, l.map XR.x = lx := ⟨_, rfl⟩
 have hln : lx.length = l.length := by rw [← hlx]; simp
 have hxi : Stb w [] fun w' => ∀ u ∈ lx, ExIn u w' := stb_map hin fun w' h u hu => by
   rw [← hlx] at hu
   obtain ⟨e, he, rfl⟩ := List.mem_map.1 hu
   exact h e he
 have hnx : ∀ k, k < l.length → nth lx k = (nth l k).x := fun k hk => by
   rw [nth_get (by omega), nth_get hk]; simp [← hlx]
 rw [hlx]
 refine calls_cw (vs := [_]) Tryz.func156 rfl Tryz.ntmps156 rfl (Cl.start0 w) (zr (za rfl (za rfl (nP (cw_seq (cw_region (za rfl (sw_nil (post_then (cw_seq (cw_region (za rfl (sw_nil (post_then (cw_seq (cw_seq (cw_region (za rfl (sw_nil (post_then (cw_block ?_)))))))))))))))))))))
 refine cw_loop (S := Nat) (fun k => [(0, [], sv), (4, [], ((lx.take k).foldl (mostStep lx) ⟨⟨none, 0, 0⟩, [], 0⟩).s.v), (5, [], .int .i64 ((lx.take k).foldl (mostStep lx) ⟨⟨none, 0, 0⟩, [], 0⟩).m), (6, [], .int .i64 k)]) (fun _ => Cl w [] []) (fun k => k ≤ l.length) (fun k => l.length - k) 0 (Nat.zero_le _) (by exact .cons rfl (.cons rfl (.cons rfl (.cons rfl .nil)))) (fun _ h => h) ?_
 intro i hi
 refine cw_seq (zr (zm rfl (zm rfl ?_)))
 refine zS rfl (q_len rfl (.k rfl (.nil)) (stA (by assumption))) ?_
 refine zS rfl (q_lss rfl rfl rfl) (nP ?_)
 refine cw_cond rfl (fun h => ?_) (fun h => ?_)
 · have hi' : i < l.length := by simp at h; omega
   obtain ⟨x, hx⟩ : ∃ x, nth l i = x := ⟨_, rfl⟩
   have hxm : x ∈ l := by rw [← hx]; exact nth_mem hi'
   have hxr : Stb w [] (RdL x.p.v x.pl) := stb_map hin fun _ h => (h x hxm).2
   have hfold := take_fold (mostStep lx) (⟨⟨none, 0, 0⟩, [], 0⟩ : MS) (show i < lx.length by omega)
   have hrd : Stb w [] (RdL ((lx.take i).foldl (mostStep lx) ⟨⟨none, 0, 0⟩, [], 0⟩).s.v ((lx.take i).foldl (mostStep lx) ⟨⟨none, 0, 0⟩, [], 0⟩).b) := stb_map hxi fun _ h => most_rd h (by omega)
   obtain ⟨S, hS⟩ : ∃ S, (lx.take i).foldl (mostStep lx) ⟨⟨none, 0, 0⟩, [], 0⟩ = S := ⟨_, rfl⟩
   rw [hS] at hfold hrd ⊢
   rw [hnx i hi', hx] at hfold
   refine sP (cw_seq (cw_block (zr (za rfl (nP (cw_seq (cw_seq (cw_region (za rfl (sw_nil (post_then (cw_block ?_))))))))))))
   refine cw_loop (S := Nat) (fun k => [(0, [], sv), (4, [], S.s.v), (5, [], .int .i64 S.m), (6, [], .int .i64 i), (7, [], .int .i64 (cnt (lx.take k) x.pl)), (8, [], .int .i64 k)]) (fun _ => Cl w [] []) (fun k => k ≤ l.length) (fun k => l.length - k) 0 (Nat.zero_le _) (by exact .cons rfl (.cons rfl (.cons rfl (.cons rfl (.cons rfl (.cons rfl .nil)))))) (fun _ h => h) ?_
   intro k hk
   have hcl := cnt_le (lx.take k) x.pl
   rw [List.length_take] at hcl
   refine cw_seq (zr (zm rfl (zm rfl ?_)))
   refine zS rfl (q_len rfl (.k rfl (.nil)) (stA (by assumption))) ?_
   refine zS rfl (q_lss rfl rfl rfl) (nP ?_)
   refine cw_cond rfl (fun h2 => ?_) (fun h2 => ?_)
   · have hk' : k < l.length := by simp at h2; omega
     obtain ⟨y, hy⟩ : ∃ y, nth l k = y := ⟨_, rfl⟩
     have hym : y ∈ l := by rw [← hy]; exact nth_mem hk'
     have hyr : Stb w [] (RdL y.p.v y.pl) := stb_map hin fun _ h => (h y hym).2
     have hcs := cnt_succ (show k < lx.length by omega) x.pl
     rw [hnx k hk', hy, show y.x.pl = y.pl from rfl] at hcs
     refine sP (cw_seq (cw_block (cw_seq (cw_region_a (Cl w [] []) [] mixed_Tryz ?_))))
     refine zp 0 rfl (q_move rfl rfl) ?_
     refine zp 1 rfl (q_move rfl rfl) ?_
     refine zk 2 (Cl.sel (by exact .nil _)) rfl (q_indexN rfl rfl rfl (stA (by assumption)) (by intro hc; omega)) ?_
     refine zk 3 (Cl.sel (by exact .nil _)) rfl (q_fieldEl rfl rfl (stA (by assumption)) (by intro hc; omega)) ?_
     refine zk 4 (Cl.sel (by exact .nil _)) rfl (q_loadF rfl rfl rfl (stA (by assumption)) (by intro hc; omega) rfl) ?_
     refine zp 5 rfl (q_move rfl rfl) ?_
     refine zp 6 rfl (q_move rfl rfl) ?_
     refine zk 7 (Cl.sel (by exact .nil _)) rfl (q_indexN rfl rfl rfl (stA (by assumption)) (by intro hc; omega)) ?_
     refine zk 8 (Cl.sel (by exact .nil _)) rfl (q_fieldEl rfl rfl (stA (by assumption)) (by intro hc; omega)) ?_
     refine zk 9 (Cl.sel (by exact .nil _)) rfl (q_loadF rfl rfl rfl (stA (by assumption)) (by intro hc; omega) rfl) ?_
     rw [hy, hx]
     refine aw_q 10 (by kernel_rfl) rfl rfl rfl rfl (q_call (CanCall.mk Tryz.call38) rfl (.k rfl (.k rfl (.nil))) (fun _ w1 hw => callq hw (order_spec _ _ y.pl x.pl w1 (stb_arg hw hyr) (stb_arg hw hxr)))) (by intro hb; exact (Cl.sel (by exact .nil _))) ?_
     refine zp 11 rfl (q_eql rfl rfl rfl) ?_
     refine aw_end (by kernel_rfl) ?_
     refine post_then ?_
     refine cw_cond rfl (fun h3 => ?_) (fun h3 => ?_)
     · have e1 : y.pl = x.pl := (ordL_eq _ _).1 (by simpa using h3)
       rw [if_pos e1] at hcs
       refine cw_region (zm rfl ?_)
       refine zS rfl (q_add rfl rfl rfl (by intro hc; omega)) ?_
       refine za rfl (sw_nil (post_blk (post_then (cw_region (zm rfl ?_)))))
       refine zS rfl (q_add rfl rfl rfl (by intro hc; omega)) ?_
       refine za rfl (sw_nil ?_)
       exact post_next (k + 1) (by rw [hcs]; exact (by exact .cons rfl (.cons rfl (.cons rfl (.cons rfl (.cons rfl (.cons rfl .nil))))))) (fun _ h => h) (by omega) (by omega)
     · have e1 : ¬ y.pl = x.pl := fun e => by
         have := (ordL_eq _ _).2 e
         simp [this] at h3
       rw [if_neg e1] at hcs
       refine cw_skip (post_blk (post_then (cw_region (zm rfl ?_))))
       refine zS rfl (q_add rfl rfl rfl (by intro hc; omega)) ?_
       refine za rfl (sw_nil ?_)
       exact post_next (k + 1) (by rw [hcs]; exact (by exact .cons rfl (.cons rfl (.cons rfl (.cons rfl (.cons rfl (.cons rfl .nil))))))) (fun _ h => h) (by omega) (by omega)
   · have hk' : k = l.length := by simp at h2; omega
     subst hk'
     rw [← hln, List.take_length]
     have hxr2 : Stb w [] (RdL (nth l i).p.v x.pl) := by rw [hx]; exact hxr
     refine cw_exit (post_then_x (post_then_x (post_blk_eq (post_then (zr (zm rfl (zm rfl (zS rfl (q_gtr rfl rfl rfl) (zm rfl (zm rfl (zm rfl (zS rfl (q_eql rfl rfl rfl) (zm rfl (zm rfl (zm rfl ?_)))))))))))))))
     refine zS rfl (q_indexN rfl rfl rfl (stA (by assumption)) (by intro hc; omega)) ?_
     refine zS rfl (q_fieldEl rfl rfl (stA (by assumption)) (by intro hc; omega)) ?_
     refine zS rfl (q_loadF rfl rfl rfl (stA (by assumption)) (by intro hc; omega) rfl) ?_
     refine zm rfl ?_
     refine sw_step rfl rfl rfl (q_call (CanCall.mk Tryz.call38) rfl (.k rfl (.k rfl (.nil))) (fun _ w hw => callq hw (order_spec _ _ _ _ w (by exact stb_arg hw (by assumption)) (by exact stb_arg hw (by assumption))))) ?_
     refine zS rfl (q_lss rfl rfl rfl) (zS rfl (q_and2 rfl rfl rfl) (zS rfl (q_or2 rfl rfl rfl) (nP ?_)))
     refine cw_cond rfl (fun h3 => ?_) (fun h3 => ?_)
     · have hst : mostStep lx S x.x = ⟨x.p, x.pl, cnt lx x.pl⟩ := by
         unfold mostStep
         rw [if_pos]
         · rfl
         simp only [Bool.or_eq_true, Bool.and_eq_true, decide_eq_true_eq] at h3
         exact h3
       rw [hst] at hfold
       refine cw_region (zm rfl (zm rfl ?_))
       refine zS rfl (q_indexN rfl rfl rfl (stA (by assumption)) (by intro hc; omega)) ?_
       refine zS rfl (q_fieldEl rfl rfl (stA (by assumption)) (by intro hc; omega)) ?_
       refine zS rfl (q_loadF rfl rfl rfl (stA (by assumption)) (by intro hc; omega) rfl) ?_
       refine zm rfl (za rfl (za rfl (sw_nil (post_blk (post_then (cw_region (zm rfl ?_)))))))
       refine zS rfl (q_add rfl rfl rfl (by intro hc; omega)) ?_
       refine za rfl (sw_nil ?_)
       rw [hx]
       exact post_next (i + 1) (by rw [hfold]; exact (by exact .cons rfl (.cons rfl (.cons rfl (.cons rfl .nil))))) (fun _ h => (Cl.sel (by exact .nil _)) _ h) (by omega) (by omega)
     · have hst : mostStep lx S x.x = S := by
         unfold mostStep
         rw [if_neg]
         intro h4
         have : (decide (S.m < (cnt lx x.pl : Int)) || (decide ((cnt lx x.pl : Int) = S.m) && decide (ordL x.pl S.b < 0))) = true := by
           simp only [Bool.or_eq_true, Bool.and_eq_true, decide_eq_true_eq]; exact h4
         rw [this] at h3; cases h3
       rw [hst] at hfold
       refine cw_skip (post_blk (post_then (cw_region (zm rfl ?_))))
       refine zS rfl (q_add rfl rfl rfl (by intro hc; omega)) ?_
       refine za rfl (sw_nil ?_)
       exact post_next (i + 1) (by rw [hfold]; exact (by exact .cons rfl (.cons rfl (.cons rfl (.cons rfl .nil))))) (fun _ h => (Cl.sel (by exact .nil _)) _ h) (by omega) (by omega)
 · have hk' : i = l.length := by simp at h; omega
   subst hk'
   have hrd : Stb w [] (RdL (mostC lx).s.v (mostC lx).b) := stb_map hxi fun _ h => most_rdL h
   rw [← hln, List.take_length]
   have hmm : lx.foldl (mostStep lx) ⟨⟨none, 0, 0⟩, [], 0⟩ = mostC lx := rfl
   rw [hmm]
   have hsm : (mostC lx).b.length ≤ 1000 := by
     rcases most_in lx with e | ⟨e, he, h2⟩
     · rw [e]; simp
     · rw [h2]
       rw [← hlx] at he
       obtain ⟨e', he', rfl⟩ := List.mem_map.1 he
       exact (hok e' he').small
   obtain ⟨M, hM⟩ : ∃ M, mostC lx = M := ⟨_, rfl⟩
   rw [hM] at hrd hsm ⊢
   refine cw_c (C' := Cl w [] [ownL 9 (SlV.v ⟨none, 0, 0⟩) ([] : List ByteArray)]) (fun w' h => h.addNil (α := ByteArray) 9) (cw_exit (post_then_x (post_then_x (post_blk_eq (post_then (zr (zm rfl ?_)))))))
   refine sw_x rfl rfl rfl (e_append (α := ByteArray) (i := 0) rfl (.k rfl (.k rfl (.nil))) rfl rfl (stA (by assumption)) (by simp only [List.length_nil]; omega) rfl) (fun s60 => ?_)
   refine zm rfl (za rfl (za rfl (nP (cw_ret (post_ret2 rfl (resOk_tmp rfl) (resOk_tmp rfl) ?_)))))
   exact fun w' hw => ⟨s60, rfl, trivial, hw⟩
end Go.Proofs.YtkmbliojafefdaaGreatDoor

set_option autoImplicit false
set_option maxRecDepth 100000
namespace Go.Proofs.YtkmbliojafefdaaGreatDoor
open Go.Sx
open Enc (enc val)
theorem candsL_all (x : XR) (r : Int) : ((cands x.x r).map TT.list).length = (cands x.x r).length := by simp
theorem testsR_spec (x : XR) (r : Int) (hr : 1 ≤ r ∧ r ≤ 3) (hx : RxOk x) (w : World) (hw0 : Stb w [] (RdL x.w.v x.wl)) :
   Calls Tryz.prog 191 #[val x, .int .i64 r] w fun e w' => ∃ y : SlV × List SlV, e = .returned y.1.v ∧ True ∧ Cl w [] [ownL 62 y.1.v y.2, Sx.frz (RdR y.2 ((cands x.x r).map TT.list))] w' := by
 have hx0 := hx.at0
 have hall : ((cands x.x r).map TT.list).length ≤ 49 := by rw [candsL_all]; exact cands_len hr
 obtain ⟨A, hA⟩ : ∃ A, (cands x.x r).map TT.list = A := ⟨_, rfl⟩
 rw [hA] at hall ⊢
 refine calls_cw (vs := [_, _]) Tryz.func191 rfl Tryz.ntmps191 rfl (Cl.start0 w) (zr ?_)
 refine sw_x rfl rfl rfl (e_box rfl rfl rfl) (fun b2 => ?_)
 refine za rfl (nP (zr (za rfl (sw_nil (post_then (cw_seq (cw_seq (cw_region (zm rfl ?_)))))))))
 refine zS rfl (q_neg rfl rfl (by intro hc; omega)) ?_
 refine za rfl (nP (cw_block ?_))
 refine cw_loop (S := Int × Nat × SlV × List SlV × List (List Cond)) (fun y => [(1, [], .int .i64 r), (2, [], .pointer (some ⟨b2, 0, none⟩)), (5, [], y.2.2.1.v), (6, [], .int .i64 y.1)]) (fun y => Cl w [] [ownL 62 y.2.2.1.v y.2.2.2.1, Sx.frz (RdR y.2.2.2.1 y.2.2.2.2), blk b2 (enc x) 58]) (fun y => -r ≤ y.1 ∧ y.1 + y.2.1 = r + 1 ∧ y.2.2.2.1.length = y.2.2.2.2.length ∧ y.2.2.2.2 ++ (candL x.x r y.1 y.2.1).map TT.list = A) (fun y => y.2.1) (-r, (2 * r + 1).toNat, ⟨none, 0, 0⟩, [], []) ⟨by simp only; omega, by simp only; omega, rfl, hA⟩ (by exact .cons rfl (.cons rfl (.cons rfl (.cons rfl .nil)))) (fun w' h => ?_) ?_
 · exact (Cl.sel (by exact .take 1 rfl (.take 0 rfl (.take 0 rfl (.nil _))))) _ (Cl.frz (H := []) (Cl.addNil (α := SlV) 62 h) fun w bs _ => (⟨rfl, fun i hi => by simp at hi⟩ : RdR ([] : List SlV) ([] : List (List Cond)) w))
 rintro ⟨a, n, so, vs, L⟩ ⟨ha, han, hvl, hLA⟩
 dsimp only at ha han hvl hLA ⊢
 have hLl : L.length ≤ 49 := by
   have := congrArg List.length hLA
   simp only [List.length_append] at this; omega
 refine cw_seq (zr (zm rfl (zm rfl (zS rfl (q_leq rfl rfl rfl) (nP ?_)))))
 refine cw_cond rfl (fun h => ?_) (fun h => ?_)
 · obtain ⟨m, rfl⟩ : ∃ m, n = m + 1 := ⟨n - 1, by simp at h; omega⟩
   refine sP (cw_seq (cw_block (cw_seq (zr (zm rfl (zS rfl (q_eql rfl rfl rfl) (nP ?_)))))))
   refine cw_cond rfl (fun h2 => ?_) (fun h2 => ?_)
   · have h3 : a = 0 := by simpa using h2
     unfold candL at hLA
     rw [if_pos h3] at hLA
     refine cw_exit (post_then_x (post_blk_eq (post_then (cw_region (zm rfl ?_)))))
     refine zS rfl (q_add rfl rfl rfl (by intro hc; omega)) ?_
     refine za rfl (sw_nil ?_)
     exact post_next (a + 1, m, so, vs, L) (by exact .cons rfl (.cons rfl (.cons rfl (.cons rfl .nil)))) (fun _ h => h) ⟨by simp only; omega, by simp only; omega, hvl, hLA⟩ (by simp only; omega)
   · have h3 : ¬ a = 0 := by simpa using h2
     unfold candL at hLA
     rw [if_neg h3] at hLA
     refine sP (zr (zm rfl ?_))
     refine zS rfl (q_loadA rfl rfl (by exact .tail _ (.tail _ (.head _))) rfl) ?_
     refine zm rfl ?_
     refine sw_step rfl rfl rfl (q_call (CanCall.mk Tryz.call78) rfl (.k rfl (.k rfl (.nil))) (fun _ w1 hw => callq hw (near_spec x a (by omega) (by omega) w1 (stb_arg hw hw0)))) ?_
     refine zS rfl (q_build rfl (.k rfl (.k rfl (.nil))) rfl) ?_
     refine sw_x rfl rfl rfl (e_alloc rfl) (fun b7 => ?_)
     refine sw_eff0 rfl rfl (e_store (i := 0) rfl rfl rfl rfl rfl rfl rfl rfl) (nP (zr (zm rfl ?_)))
     refine zS rfl (q_loadA rfl rfl (by exact .head _) rfl) ?_
     refine sw_x rfl rfl rfl (e_buildL (α := Cond) (l := [cOne x.x a]) rfl (.k rfl (.nil)) rfl rfl rfl rfl) (fun s25 => ?_)
     refine sw_x rfl rfl rfl (e_build1 (α := SlV) rfl rfl rfl rfl) (fun s26 => ?_)
     refine sw_x rfl rfl rfl (e_append (i := 3) rfl (.k rfl (.k rfl (.nil))) rfl rfl (rdO (by exact .head _)) (by first | omega | (simp only [List.length_set, List.length_append, List.length_cons, List.length_nil, List.length_replicate, List.length_take, List.length_drop, List.length_map]; omega)) rfl) (fun s27 => ?_)
     refine za rfl (nP (zr (zm rfl ?_)))
     refine zS rfl (q_add rfl rfl rfl (by intro hc; omega)) ?_
     refine za rfl (nP (cw_block ?_))
     have hl1 : TT.list ⟨a, lookC x.x.wl (x.x.at_ + a), 0, 0⟩ = [cOne x.x a] := rfl
     rw [List.map_cons, hl1, List.map_append] at hLA
     refine cw_loop (S := Int × Nat × SlV × List SlV × List (List Cond)) (fun y => [(1, [], .int .i64 r), (2, [], .pointer (some ⟨b2, 0, none⟩)), (5, [], y.2.2.1.v), (6, [], .int .i64 a), (7, [], .pointer (some ⟨b7, 0, none⟩)), (8, [], .int .i64 y.1)]) (fun y => Cl w [] [ownL 62 y.2.2.1.v y.2.2.2.1, Sx.frz (RdR y.2.2.2.1 y.2.2.2.2), blk b7 (enc (cOne x.x a)) 109, blk b2 (enc x) 58]) (fun y => -r ≤ y.1 ∧ y.1 ≤ r + 1 ∧ y.2.1 = (r + 1 - y.1).toNat ∧ y.2.2.2.1.length = y.2.2.2.2.length ∧ y.2.2.2.2 ++ ((candB x.x a y.1 y.2.1).map TT.list ++ (candL x.x r (a + 1) m).map TT.list) = A) (fun y => y.2.1) (a + 1, (r - a).toNat, s27, vs ++ [s25], L ++ [[cOne x.x a]]) ⟨by simp only; omega, by simp only; omega, by simp only; omega, by simp [hvl], by simp only [List.append_assoc]; exact hLA⟩ (by exact .cons rfl (.cons rfl (.cons rfl (.cons rfl (.cons rfl (.cons rfl .nil)))))) (fun w' h => ?_) ?_
     · have h1 : Cl w [] ([ownL 109 s25.v [cOne x.x a], Sx.frz (RdR vs L)] ++ [ownL 62 s27.v (vs ++ [s25]), blk b7 (enc (cOne x.x a)) 109, blk b2 (enc x) 58]) w' := (Cl.sel (by exact .take 1 rfl (.take 3 rfl (.take 2 rfl (.take 1 rfl (.take 1 rfl (.nil _))))))) _ h
       exact (Cl.sel (by exact .take 1 rfl (.take 0 rfl (.take 0 rfl (.take 0 rfl (.nil _)))))) _ (Cl.frz (R := RdR (vs ++ [s25]) (L ++ [[cOne x.x a]])) h1 fun w bs ⟨_, _, _, k1, _, _, _, k2, _⟩ => rdR_snoc (frz_here k2) (ownL.rd k1))
     clear hLA hvl hLl
     rintro ⟨b, n2, so, vs, L⟩ ⟨hb1, hb2, hn2, hvl, hLA⟩
     dsimp only at hb1 hb2 hn2 hvl hLA ⊢
     have hLl : L.length ≤ 49 := by
       have := congrArg List.length hLA
       simp only [List.length_append] at this; omega
     refine cw_seq (zr (zm rfl (zm rfl (zS rfl (q_leq rfl rfl rfl) (nP ?_)))))
     refine cw_cond rfl (fun h4 => ?_) (fun h4 => ?_)
     · obtain ⟨k, rfl⟩ : ∃ k, n2 = k + 1 := ⟨n2 - 1, by simp at h4; omega⟩
       have h4b : b ≤ r := by simpa using h4
       refine sP (cw_seq (cw_block (zr (zm rfl (zS rfl (q_neq rfl rfl rfl) (nP ?_))))))
       refine cw_cond rfl (fun h5 => ?_) (fun h5 => ?_)
       · have h6 : ¬ b = 0 := by simpa using h5
         unfold candB at hLA
         rw [if_neg h6] at hLA
         have hl2 : TT.list ⟨a, lookC x.x.wl (x.x.at_ + a), b, lookC x.x.wl (x.x.at_ + b)⟩ = [cOne x.x a, cOne x.x b] := by unfold TT.list; rw [if_neg h6]; rfl
         rw [List.map_cons, hl2] at hLA
         refine cw_region_a (Cl w [] [ownL 62 so.v vs, Sx.frz (RdR vs L), blk b7 (enc (cOne x.x a)) 109, blk b2 (enc x) 58]) [9] mixed_Tryz ?_
         refine zp 0 rfl (q_move rfl rfl) ?_
         refine zk 1 (Cl.sel (by exact .take 0 rfl (.take 0 rfl (.take 0 rfl (.take 0 rfl (.nil _)))))) rfl (q_loadA rfl rfl (by exact .tail _ (.tail _ (.head _))) rfl) ?_
         refine zp 2 rfl (q_move rfl rfl) ?_
         refine zk 3 (Cl.sel (by exact .take 0 rfl (.take 0 rfl (.take 0 rfl (.take 0 rfl (.nil _)))))) rfl (q_loadA rfl rfl (by exact .tail _ (.tail _ (.tail _ (.head _)))) rfl) ?_
         refine zp 4 rfl (q_move rfl rfl) ?_
         refine aw_q 5 (by kernel_rfl) rfl rfl rfl rfl (q_call (CanCall.mk Tryz.call78) rfl (.k rfl (.k rfl (.nil))) (fun _ w1 hw => callq hw (near_spec x b (by omega) (by omega) w1 (stb_arg hw hw0)))) (by intro hb; exact (Cl.sel (by exact .take 0 rfl (.take 0 rfl (.take 0 rfl (.take 0 rfl (.nil _))))))) ?_
         refine zp 6 rfl (q_build rfl (.k rfl (.k rfl (.nil))) rfl) ?_
         refine aw_x 7 (by kernel_rfl) rfl rfl rfl rfl (e_buildL (α := Cond) (l := [cOne x.x a, cOne x.x b]) rfl (.k rfl (.k rfl (.nil))) rfl rfl rfl rfl) (by intro hb; exact fun _ => (Cl.sel (by exact .take 1 rfl (.take 1 rfl (.take 1 rfl (.take 1 rfl (.nil _))))))) (fun s44 => ?_)
         refine aw_x 8 (by kernel_rfl) rfl rfl rfl rfl (e_build1 (α := SlV) rfl rfl rfl rfl) (by intro hb; exact fun _ => (Cl.sel (by exact .take 2 rfl (.take 2 rfl (.take 2 rfl (.take 2 rfl (.nil _))))))) (fun s45 => ?_)
         refine aw_x 9 (by kernel_rfl) rfl rfl rfl rfl (e_append (i := 2) rfl (.k rfl (.k rfl (.nil))) rfl rfl (rdO (by exact .head _)) (by first | omega | (simp only [List.length_set, List.length_append, List.length_cons, List.length_nil, List.length_replicate, List.length_take, List.length_drop, List.length_map]; omega)) rfl) (by intro hb; (exact absurd hb (by decide))) (fun s46 => ?_)
         refine zp 10 rfl (q_assign rfl rfl) ?_
         refine aw_end (by kernel_rfl) ?_
         refine post_blk (post_then (cw_region (zm rfl ?_)))
         refine zS rfl (q_add rfl rfl rfl (by intro hc; omega)) ?_
         refine za rfl (sw_nil ?_)
         refine post_next (b + 1, k, s46, vs ++ [s44], L ++ [[cOne x.x a, cOne x.x b]]) (by exact .cons rfl (.cons rfl (.cons rfl (.cons rfl (.cons rfl (.cons rfl .nil)))))) (fun w' h => ?_) ⟨by simp only; omega, by simp only; omega, by simp only; omega, by simp [hvl], by simp only [List.append_assoc]; exact hLA⟩ (by simp only; omega)
         have h1 : Cl w [] ([ownL 109 s44.v [cOne x.x a, cOne x.x b], Sx.frz (RdR vs L)] ++ [ownL 62 s46.v (vs ++ [s44]), blk b7 (enc (cOne x.x a)) 109, blk b2 (enc x) 58]) w' := (Cl.sel (by exact .take 1 rfl (.take 2 rfl (.take 1 rfl (.take 1 rfl (.take 1 rfl (.nil _))))))) _ h
         exact (Cl.sel (by exact .take 1 rfl (.take 0 rfl (.take 0 rfl (.take 0 rfl (.nil _)))))) _ (Cl.frz (R := RdR (vs ++ [s44]) (L ++ [[cOne x.x a, cOne x.x b]])) h1 fun w bs ⟨_, _, _, k1, _, _, _, k2, _⟩ => rdR_snoc (frz_here k2) (ownL.rd k1))
       · have h6 : b = 0 := by simpa using h5
         unfold candB at hLA
         rw [if_pos h6] at hLA
         refine cw_skip (post_blk (post_then (cw_region (zm rfl ?_))))
         refine zS rfl (q_add rfl rfl rfl (by intro hc; omega)) ?_
         refine za rfl (sw_nil ?_)
         exact post_next (b + 1, k, so, vs, L) (by exact .cons rfl (.cons rfl (.cons rfl (.cons rfl (.cons rfl (.cons rfl .nil)))))) (fun _ h => h) ⟨by simp only; omega, by simp only; omega, by simp only; omega, hvl, hLA⟩ (by simp only; omega)
     · have h5 : n2 = 0 := by simp at h4; omega
       subst h5
       refine cw_exit (post_then_x (post_then_x (post_blk_eq (post_blk (post_then (cw_region (zm rfl ?_)))))))
       refine zS rfl (q_add rfl rfl rfl (by intro hc; omega)) ?_
       refine za rfl (sw_nil ?_)
       exact post_next (a + 1, m, so, vs, L) (by exact .cons rfl (.cons rfl (.cons rfl (.cons rfl .nil)))) (fun w' h => (Cl.sel (by exact .take 0 rfl (.take 0 rfl (.take 1 rfl (.nil _))))) _ h) ⟨by simp only; omega, by simp only; omega, hvl, hLA⟩ (by simp only; omega)
 · have h3 : n = 0 := by simp at h; omega
   subst h3
   have h4 : L = A := by rw [← hLA]; simp [candL]
   subst h4
   refine cw_exit (post_then_x (post_then_x (post_blk_eq (post_then (zr (zm rfl (za rfl (nP (cw_ret (post_ret1 rfl (resOk_tmp rfl) ?_))))))))))
   exact fun w' h => ⟨(so, vs), rfl, trivial, (Cl.sel (by exact .take 0 rfl (.take 0 rfl (.nil _)))) _ h⟩
end Go.Proofs.YtkmbliojafefdaaGreatDoor

set_option autoImplicit false
set_option maxRecDepth 100000
namespace Go.Proofs.YtkmbliojafefdaaGreatDoor
open Go.Sx
open Enc (enc val)
theorem candB_in {e : XL} {a : Int} {t : TT} (h1 : t.a1 = a) (h2 : t.c1 = lookC e.wl (e.at_ + a)) (h3 : t.a2 ≠ 0) (h4 : t.c2 = lookC e.wl (e.at_ + t.a2)) : ∀ {n : Nat} {b : Int}, b ≤ t.a2 → t.a2 < b + n → t ∈ candB e a b n
 | 0, b, g1, g2 => by omega
 | n + 1, b, g1, g2 => by
   unfold candB
   by_cases hb : b = 0
   · rw [if_pos hb]
     exact candB_in h1 h2 h3 h4 (by omega) (by omega)
   · rw [if_neg hb]
     by_cases e1 : t.a2 = b
     · obtain ⟨a1, c1, a2, c2⟩ := t
       simp only at h1 h2 h4 e1
       subst h1; subst e1
       rw [h2, h4]; exact .head _
     · exact .tail _ (candB_in h1 h2 h3 h4 (by omega) (by omega))
theorem candL_in {e : XL} {r : Int} {t : TT} (h : CandOk e r t) : ∀ {n : Nat} {a : Int}, a + n = r + 1 → a ≤ t.a1 → t ∈ candL e r a n
 | 0, a, g1, g2 => by have := h.b1; omega
 | n + 1, a, g1, g2 => by
   have hb := h.b1
   unfold candL
   by_cases ha : a = 0
   · rw [if_pos ha]
     exact candL_in h (by omega) (by omega)
   · rw [if_neg ha]
     by_cases e1 : t.a1 = a
     · rcases h.sh with ⟨u1, u2⟩ | ⟨u1, u2, u3, u4⟩
       · have hc := h.c1
         obtain ⟨a1, c1, a2, c2⟩ := t
         simp only at e1 u1 u2 hc
         subst e1; subst u1; subst u2
         rw [hc]; exact .head _
       · exact .tail _ (List.mem_append_left _ (candB_in e1 (by rw [h.c1, e1]) u1 u4 (by omega) (by omega)))
     · exact .tail _ (List.mem_append_right _ (candL_in h (by omega) (by omega)))
theorem cands_in {e : XL} {r : Int} {t : TT} (hr : 1 ≤ r) (h : CandOk e r t) : t ∈ cands e r := candL_in h (by omega) h.b1.1
theorem held_iff {e e' : XL} {r : Int} {t : TT} (hr : 1 ≤ r) (h : t ∈ cands e r) : t ∈ cands e' r ↔ holdsC e'.wl e'.at_ t.list = true := by
 have hk := cands_ok hr h
 refine ⟨fun h' => (cands_ok hr h').holds, fun h' => cands_in hr ?_⟩
 unfold holdsC TT.list at h'
 rcases hk.sh with ⟨u1, u2⟩ | ⟨u1, u2, u3, u4⟩
 · rw [if_pos u1] at h'
   simp at h'
   exact ⟨hk.b1, h'.symm, .inl ⟨u1, u2⟩⟩
 · rw [if_neg u1] at h'
   simp at h'
   exact ⟨hk.b1, h'.1.symm, .inr ⟨u1, u2, u3, h'.2.symm⟩⟩
def holdL (l : List XL) (t : TT) : List XL := l.filter fun e => holdsC e.wl e.at_ t.list
def tlyR (l : List XL) (t : TT) : Tly := ⟨t, (mostC (holdL l t)).s, (holdL l t).length, (mostC (holdL l t)).m, (mostC (holdL l t)).b⟩
theorem tlyR_eq {l : List XL} {r : Int} {e : XL} {t : TT} (hr : 1 ≤ r) (h : t ∈ cands e r) : tlyOf l r t = tlyR l t := by
 have : heldC l r t = holdL l t := by
   unfold heldC holdL
   apply List.filter_congr
   intro e' _
   have := held_iff (e' := e') hr h
   by_cases h2 : t ∈ cands e' r
   · simp [h2, this.1 h2]
   · have h3 : holdsC e'.wl e'.at_ t.list = false := by
       cases h4 : holdsC e'.wl e'.at_ t.list with
       | false => rfl
       | true => exact absurd (this.2 h4) h2
     simp [h2, h3]
 unfold tlyOf tlyR
 rw [this]
def chStep (l : List XL) (least : Int) (s : Option Tly) (t : TT) : Option Tly := if (tlyR l t).n < least then s else match s with
 | none => some (tlyR l t)
 | some v => if betC (tlyR l t) v < 0 then some (tlyR l t) else some v
theorem best_fold {l : List XL} {r least : Int} (hr : 1 ≤ r) : bestC l r least = (l.flatMap fun e => cands e r).foldl (chStep l least) none := by
 have key : ∀ (T : List TT) (v : Tly), (∀ t ∈ T, tlyOf l r t = tlyR l t) → T.foldl (chStep l least) (some v) = some (((T.map (tlyOf l r)).filter fun x => decide (least ≤ x.n)).foldl (fun m x => if betC x m < 0 then x else m) v) := by
   intro T
   induction T with
   | nil => intro v _; rfl
   | cons t T ih =>
     intro v h
     have ht := h t (.head _)
     rw [List.foldl_cons, List.map_cons, ht]
     unfold chStep
     by_cases h1 : (tlyR l t).n < least
     · rw [if_pos h1, List.filter_cons_of_neg (by simp; omega)]
       exact ih v fun u hu => h u (.tail _ hu)
     · rw [if_neg h1, List.filter_cons_of_pos (by simp; omega), List.foldl_cons]
       dsimp only
       split
       · exact ih _ fun u hu => h u (.tail _ hu)
       · exact ih _ fun u hu => h u (.tail _ hu)
 have key2 : ∀ T : List TT, (∀ t ∈ T, tlyOf l r t = tlyR l t) → T.foldl (chStep l least) none = if ((T.map (tlyOf l r)).filter fun x => decide (least ≤ x.n)) = [] then none else some (minBy betC ((T.map (tlyOf l r)).filter fun x => decide (least ≤ x.n))) := by
   intro T
   induction T with
   | nil => intro _; rfl
   | cons t T ih =>
     intro h
     have ht := h t (.head _)
     rw [List.foldl_cons, List.map_cons, ht]
     unfold chStep
     by_cases h1 : (tlyR l t).n < least
     · rw [if_pos h1, List.filter_cons_of_neg (by simp; omega)]
       exact ih fun u hu => h u (.tail _ hu)
     · rw [if_neg h1, List.filter_cons_of_pos (by simp; omega), if_neg (by simp)]
       have := key T (tlyR l t) fun u hu => h u (.tail _ hu)
       exact this.trans (by unfold minBy; simp [nth])
 unfold bestC tallies
 rw [key2]
 intro t ht
 obtain ⟨e, _, he⟩ := List.mem_flatMap.1 ht
 exact tlyR_eq hr he
theorem betC_lt (a b : Tly) : betC a b < 0 ↔ b.m * a.n - a.m * b.n < 0 ∨ (b.m * a.n - a.m * b.n = 0 ∧ (b.n < a.n ∨ (b.n = a.n ∧ (a.t.list.length < b.t.list.length ∨ (a.t.list.length = b.t.list.length ∧ ordBy condC a.t.list b.t.list < 0))))) := by
 rw [betC_lex]
 unfold lexC ratC
 dsimp only
 generalize b.m * a.n - a.m * b.n = c
 generalize ordBy condC a.t.list b.t.list = d
 have s1 := @sgn_zero c
 have s2 := @sgn_neg c
 have s3 := @sgn_zero (-a.n - -b.n)
 have s4 := @sgn_neg (-a.n - -b.n)
 have s5 := @sgn_zero ((a.t.list.length : Int) - b.t.list.length)
 have s6 := @sgn_neg ((a.t.list.length : Int) - b.t.list.length)
 split
 · omega
 · split
   · omega
   · split <;> omega
end Go.Proofs.YtkmbliojafefdaaGreatDoor

set_option autoImplicit false
set_option maxRecDepth 100000
set_option maxHeartbeats 1000000
namespace Go.Proofs.YtkmbliojafefdaaGreatDoor
open Go.Sx
open Enc (enc val)
structure ChSt (S : Option Tly) (q : Chc) (n m : Int) : Prop where
 nn : 0 ≤ n ∧ n ≤ 1000000
 mm : 0 ≤ m ∧ m ≤ 1000000
 bd : ∀ c ∈ q.tl, CondB c
 some : ∀ v, S = some v → q.tl = v.t.list ∧ q.pl = v.pl ∧ n = v.n ∧ m = v.m
theorem chc_default (w : World) : ChcIn default w := ⟨rd_nil0 w, rd_nil0 w⟩
theorem rx_filter {l : List XR} {p : XR → Bool} {w : World} (h : Stb w [] fun w' => ∀ u ∈ l, RxIn u w') : Stb w [] fun w' => ∀ u ∈ l.filter p, RxIn u w' := stb_map h fun _ h u hu => h u (List.mem_filter.1 hu).1
theorem holdL_x (l : List XR) (t : TT) : (l.filter fun e => holdsC e.wl e.at_ t.list).map XR.x = holdL (l.map XR.x) t := by
 unfold holdL; rw [List.filter_map]; rfl
theorem choose_spec2 (sv : Value) (l : List XR) (o : Lrn) (ho : LrnOk o) (hl : l.length ≤ 1000000) (hok : ∀ e ∈ l, RxOk e) (w : World) (hs : Stb w [] (RdL sv l)) (hin : Stb w [] fun w' => ∀ u ∈ l, RxIn u w') :
   Calls Tryz.prog 157 #[sv, val o] w fun e w' => ∃ y : Chc, e = .returned (.tuple #[val y, .bool (bestC (l.map XR.x) o.reach o.least).isSome]) ∧ (∀ v, bestC (l.map XR.x) o.reach o.least = some v → y.tl = v.t.list ∧ y.pl = v.pl) ∧ Cl w [] [Sx.frz (ChcIn y)] w' := by
 have hL := rd_len hs.here
 have hr := ho.reach
 have ho1 := ho.least
 obtain ⟨lx, hlx⟩ : ∃ lx, l.map XR.x = lx := ⟨_, rfl⟩
 have hln : lx.length = l.length := by rw [← hlx]; simp
 have hnx : ∀ k, k < l.length → nth lx k = (nth l k).x := fun k hk => by
   rw [nth_get (by omega), nth_get hk]; simp [← hlx]
 rw [hlx]
 obtain ⟨B, hB⟩ : ∃ B, bestC lx o.reach o.least = B := ⟨_, rfl⟩
 rw [hB]
 rw [best_fold hr.1] at hB
 refine calls_cw (vs := [_, _]) Tryz.func157 rfl Tryz.ntmps157 rfl (Cl.start0 w) (zr ?_)
 refine sw_x rfl rfl rfl (e_box rfl rfl rfl) (fun b3 => ?_)
 refine sw_x rfl rfl rfl (e_alloc rfl) (fun b4 => ?_)
 refine za rfl (nP (zr ?_))
 refine sw_x rfl rfl rfl (e_alloc rfl) (fun b6 => ?_)
 refine nP (zr (za rfl (sw_nil (post_then (cw_seq (cw_region (za rfl (za rfl (sw_nil (post_then (cw_seq (cw_seq (cw_region (za rfl (sw_nil (post_then (cw_block ?_)))))))))))))))))
 refine cw_loop (S := Nat × Option Tly × Chc × Int × Int) (fun y => [(0, [], sv), (3, [], .pointer (some ⟨b3, 0, none⟩)), (4, [], .pointer (some ⟨b4, 0, none⟩)), (6, [], .pointer (some ⟨b6, 0, none⟩)), (7, [], .bool y.2.1.isSome), (8, [], .int .i64 y.2.2.2.1), (9, [], .int .i64 y.2.2.2.2), (10, [], .int .i64 y.1)]) (fun y => Cl w [] [blk b6 (enc y.2.2.1) 64, Sx.frz (ChcIn y.2.2.1), blk b4 (enc (default : Chc)) 64, blk b3 (enc o) 40]) (fun y => y.1 ≤ l.length ∧ ChSt y.2.1 y.2.2.1 y.2.2.2.1 y.2.2.2.2 ∧ ((lx.drop y.1).flatMap fun e => cands e o.reach).foldl (chStep lx o.least) y.2.1 = B) (fun y => l.length - y.1) (0, none, default, 0, 0) ⟨Nat.zero_le _, ⟨by simp, by simp, fun c hc => by simp [show (default : Chc).tl = [] from rfl] at hc, fun v hv => by cases hv⟩, hB⟩ (by exact .cons rfl (.cons rfl (.cons rfl (.cons rfl (.cons rfl (.cons rfl (.cons rfl (.cons rfl .nil)))))))) (fun w' h => (Cl.sel (by exact .take 1 rfl (.take 0 rfl (.take 0 rfl (.take 0 rfl (.nil _)))))) _ (Cl.frz (H := []) (R := ChcIn default) h fun w _ _ => chc_default w)) ?_
 rintro ⟨i, S, q, n, m⟩ ⟨hi, hS, hF⟩
 dsimp only at hi hS hF ⊢
 refine cw_seq (zr (zm rfl (zm rfl ?_)))
 refine zS rfl (q_len rfl (.k rfl (.nil)) (stA (by assumption))) ?_
 refine zS rfl (q_lss rfl rfl rfl) (nP ?_)
 refine cw_cond rfl (fun h => ?_) (fun h => ?_)
 · have hi' : i < l.length := by simp at h; omega
   obtain ⟨x, hx⟩ : ∃ x, nth l i = x := ⟨_, rfl⟩
   have hxm : x ∈ l := by rw [← hx]; exact nth_mem hi'
   have hxo := hok x hxm
   have hxr : Stb w [] (RdL x.w.v x.wl) := stb_map hin fun _ h => (h x hxm).1
   rw [List.drop_eq_getElem_cons (show i < lx.length by omega), ← nth_get (show i < lx.length by omega), hnx i hi', hx, List.flatMap_cons, List.foldl_append] at hF
   refine sP (cw_seq (cw_block (cw_seq (cw_region_a (Cl w [] [blk b6 (enc q) 64, Sx.frz (ChcIn q), blk b4 (enc (default : Chc)) 64, blk b3 (enc o) 40]) [] mixed_Tryz ?_))))
   refine zp 0 rfl (q_move rfl rfl) ?_
   refine zp 1 rfl (q_move rfl rfl) ?_
   refine zk 2 (Cl.sel (by exact .take 0 rfl (.take 0 rfl (.take 0 rfl (.take 0 rfl (.nil _)))))) rfl (q_indexN rfl rfl rfl (stA (by assumption)) (by intro hc; omega)) ?_
   refine zk 3 (Cl.sel (by exact .take 0 rfl (.take 0 rfl (.take 0 rfl (.take 0 rfl (.nil _)))))) rfl (q_loadEl rfl rfl rfl (stA (by assumption)) (by intro hc; omega)) ?_
   refine zk 4 (Cl.sel (by exact .take 0 rfl (.take 0 rfl (.take 0 rfl (.take 0 rfl (.nil _)))))) rfl (q_fieldAddr rfl rfl) ?_
   refine zk 5 (Cl.sel (by exact .take 0 rfl (.take 0 rfl (.take 0 rfl (.take 0 rfl (.nil _)))))) rfl (q_loadC rfl rfl (by exact .tail _ (.tail _ (.tail _ (.head _)))) rfl) ?_
   rw [hx]
   refine aw_x 6 (by kernel_rfl) rfl rfl rfl rfl (e_call (CanCall.mk Tryz.call191) rfl (.k rfl (.k rfl (.nil))) (fun w1 hw => testsR_spec x o.reach hr hxo w1 (stb_arg hw hxr))) (by intro hb; exact fun _ w h => (Cl.sel (by exact .take 2 rfl (.take 2 rfl (.take 2 rfl (.take 2 rfl (.nil _)))))) w h.2) (fun all => ?_)
   refine aw_imp fun _ => ?_
   obtain ⟨sa, vs⟩ := all
   dsimp only
   refine zp 7 rfl (q_assign rfl rfl) ?_
   refine aw_end (by kernel_rfl) ?_
   refine post_then (zr (za rfl (nP (cw_block ?_))))
   obtain ⟨C, hC⟩ : ∃ C, cands x.x o.reach = C := ⟨_, rfl⟩
   rw [hC] at hF ⊢
   have hCl : C.length ≤ 49 := by rw [← hC]; exact cands_len hr
   refine cw_loop (S := Nat × Option Tly × Chc × Int × Int) (fun y => [(0, [], sv), (3, [], .pointer (some ⟨b3, 0, none⟩)), (4, [], .pointer (some ⟨b4, 0, none⟩)), (6, [], .pointer (some ⟨b6, 0, none⟩)), (7, [], .bool y.2.1.isSome), (8, [], .int .i64 y.2.2.2.1), (9, [], .int .i64 y.2.2.2.2), (10, [], .int .i64 i), (11, [], sa.v), (12, [], .int .i64 y.1)]) (fun y => Cl w [] [ownL 62 sa.v vs, Sx.frz (fun w => RdR vs (C.map TT.list) w ∧ ChcIn y.2.2.1 w), blk b6 (enc y.2.2.1) 64, blk b4 (enc (default : Chc)) 64, blk b3 (enc o) 40]) (fun y => y.1 ≤ C.length ∧ ChSt y.2.1 y.2.2.1 y.2.2.2.1 y.2.2.2.2 ∧ ((lx.drop (i + 1)).flatMap fun e => cands e o.reach).foldl (chStep lx o.least) ((C.drop y.1).foldl (chStep lx o.least) y.2.1) = B) (fun y => C.length - y.1) (0, S, q, n, m) ⟨Nat.zero_le _, hS, hF⟩ (by exact .cons rfl (.cons rfl (.cons rfl (.cons rfl (.cons rfl (.cons rfl (.cons rfl (.cons rfl (.cons rfl (.cons rfl .nil)))))))))) (fun w' h => ?_) ?_
   · have h1 : Cl w [] (Sx.frz (RdR vs (C.map TT.list)) :: Sx.frz (ChcIn q) :: [ownL 62 sa.v vs, blk b6 (enc q) 64, blk b4 (enc (default : Chc)) 64, blk b3 (enc o) 40]) w' := (Cl.sel (by exact .take 1 rfl (.take 2 rfl (.take 0 rfl (.take 0 rfl (.take 0 rfl (.take 0 rfl (.nil _)))))))) _ h
     exact (Cl.sel (by exact .take 1 rfl (.take 0 rfl (.take 0 rfl (.take 0 rfl (.take 0 rfl (.nil _))))))) _ h1.frz2
   clear hF hS hnx hxr
   rintro ⟨k, S, q, n, m⟩ ⟨hk, hS, hF⟩
   dsimp only at hk hS hF ⊢
   have hvl : ∀ w', Cl w [] [ownL 62 sa.v vs, Sx.frz (fun w => RdR vs (C.map TT.list) w ∧ ChcIn q w), blk b6 (enc q) 64, blk b4 (enc (default : Chc)) 64, blk b3 (enc o) 40] w' → vs.length = C.length ∧ q.t.len = q.tl.length ∧ ∀ k, k < C.length → (nth vs k).len = (nth (C.map TT.list) k).length := fun w' h => by
     have := rd_frz (R := fun w => RdR vs (C.map TT.list) w ∧ ChcIn q w) h (by exact .tail _ (.head _))
     exact ⟨by simpa using this.1.1, (rd_lens this.2.1).1, fun k hk => (rd_lens (this.1.2 k (by simpa using hk))).1⟩
   refine cw_pureP hvl fun hvl => ?_
   obtain ⟨hvl, hql, hvk⟩ := hvl
   refine cw_seq (zr (zm rfl (zm rfl ?_)))
   refine zS rfl (q_len rfl (.k rfl (.nil)) (rdO (by exact .head _))) ?_
   refine zS rfl (q_lss rfl rfl rfl) (nP ?_)
   refine cw_cond rfl (fun h2 => ?_) (fun h2 => ?_)
   · have hk' : k < C.length := by simp at h2; omega
     obtain ⟨t, ht⟩ : ∃ t, nth C k = t := ⟨_, rfl⟩
     have htm : t ∈ cands x.x o.reach := by rw [hC, ← ht]; exact nth_mem hk'
     have htb : ∀ c ∈ t.list, CondB c := list_bd ((cands_ok hr.1 htm).bd hr)
     have hnl : nth (C.map TT.list) k = t.list := by rw [nth_get (by simpa using hk'), List.getElem_map, ← nth_get hk', ht]
     rw [List.drop_eq_getElem_cons hk', ← nth_get hk', ht, List.foldl_cons] at hF
     obtain ⟨st, hst⟩ : ∃ st, nth vs k = st := ⟨_, rfl⟩
     have hrow : ∀ (H : List Asn) w', Cl w [] H w' → Sx.frz (fun w => RdR vs (C.map TT.list) w ∧ ChcIn q w) ∈ H → Stb w' [] (RdL st.v t.list) := fun H w' h hm => by
       have := stb_row (stb_map (stb_frz h hm) fun _ h => h.1) (i := k) (by simpa using hk')
       rwa [hnl, hst] at this
     have hqrow : ∀ (H : List Asn) w', Cl w [] H w' → Sx.frz (fun w => RdR vs (C.map TT.list) w ∧ ChcIn q w) ∈ H → Stb w' [] (RdL q.t.v q.tl) := fun H w' h hm => stb_map (stb_frz h hm) fun _ h => h.2.1
     have hstl : st.len = t.list.length := by rw [← hst, hvk k hk', hnl]
     obtain ⟨u, hu⟩ : ∃ u, tlyR lx t = u := ⟨_, rfl⟩
     have hhl : (l.filter fun e => holdsC e.wl e.at_ t.list).map XR.x = holdL lx t := by rw [← hlx]; exact holdL_x l t
     have hul : (l.filter fun e => holdsC e.wl e.at_ t.list).length = u.n := by rw [← hu]; unfold tlyR; simp only; rw [← hhl, List.length_map]
     have hum : (mostC (holdL lx t)).m = u.m := by rw [← hu]; rfl
     have hup : (mostC (holdL lx t)).b = u.pl := by rw [← hu]; rfl
     have hut : u.t = t := by rw [← hu]; rfl
     have hfl := List.length_filter_le (fun e : XR => holdsC e.wl e.at_ t.list) l
     have hub := most_bd (holdL lx t)
     rw [hum, ← hhl, List.length_map] at hub
     obtain ⟨hn0, hm0, hbd, hsome⟩ := hS
     refine sP (cw_seq (cw_block (zr (zm rfl (zm rfl ?_)))))
     refine zS rfl (q_indexN rfl rfl rfl (rdO (by exact .head _)) (by intro hc; omega)) ?_
     refine zS rfl (q_loadEl rfl rfl rfl (rdO (by exact .head _)) (by intro hc; omega)) ?_
     refine za rfl (nP (zr (zm rfl (zm rfl ?_))))
     rw [hst]
     refine sw_x rfl rfl rfl (e_call (CanCall.mk Tryz.call158) rfl (.k rfl (.k rfl (.nil))) (fun w1 hw => split_spec sv _ l t.list hl hok htb w1 (stb_arg hw hs) (hrow _ w1 hw (by exact .tail _ (.head _))) (stb_arg hw hin))) (fun yy => ?_)
     refine sw_imp fun _ => ?_
     obtain ⟨si, sj⟩ := yy
     dsimp only
     obtain ⟨li, hli⟩ : ∃ li, (l.filter fun e => holdsC e.wl e.at_ t.list) = li := ⟨_, rfl⟩
     have hiok : ∀ e ∈ li, RxOk e := fun e he => hok e (by rw [← hli] at he; exact (List.mem_filter.1 he).1)
     have hiin : Stb w [] fun w' => ∀ u ∈ li, RxIn u w' := by rw [← hli]; exact rx_filter hin
     rw [hli] at hhl hul hfl hub ⊢
     refine zm rfl (zS rfl (q_extract rfl rfl rfl) (zS rfl (q_extract rfl rfl rfl) (za rfl (za rfl (nP (cw_seq (zr (zm rfl ?_))))))))
     refine zS rfl (q_len rfl (.k rfl (.nil)) (rdO (by exact .head _))) ?_
     refine zS rfl (q_fieldAddr rfl rfl) ?_
     refine zS rfl (q_loadC rfl rfl (by exact .tail _ (.tail _ (.tail _ (.tail _ (.tail _ (.tail _ (.head _))))))) rfl) ?_
     refine zS rfl (q_lss rfl rfl rfl) (nP ?_)
     refine cw_cond rfl (fun h3 => ?_) (fun h3 => ?_)
     · have h4 : u.n < o.least := by simp at h3; omega
       have e1 : chStep lx o.least S t = S := by unfold chStep; rw [hu, if_pos h4]
       rw [e1] at hF
       refine cw_exit (post_then_x (post_blk_eq (post_then (cw_region (zm rfl ?_)))))
       refine zS rfl (q_add rfl rfl rfl (by intro hc; omega)) ?_
       refine za rfl (sw_nil ?_)
       exact post_next (k + 1, S, q, n, m) (by exact .cons rfl (.cons rfl (.cons rfl (.cons rfl (.cons rfl (.cons rfl (.cons rfl (.cons rfl (.cons rfl (.cons rfl .nil)))))))))) (fun w' h => (Cl.sel (by exact .take 2 rfl (.take 2 rfl (.take 2 rfl (.take 2 rfl (.take 2 rfl (.nil _))))))) _ h) ⟨by simp only; omega, ⟨hn0, hm0, hbd, hsome⟩, hF⟩ (by simp only; omega)
     · have h4 : ¬ u.n < o.least := by simp at h3; omega
       refine sP (zr (zm rfl ?_))
       refine sw_x rfl rfl rfl (e_call (CanCall.mk Tryz.call156) rfl (.k rfl (.nil)) (fun w1 hw => bestR_spec _ li (by omega) hiok w1 (by exact stb_own hw (by exact .head _)) (stb_arg hw hiin))) (fun s16 => ?_)
       refine sw_imp fun _ => ?_
       rw [hhl, hum, hup]
       have hnm : 0 ≤ u.m * n ∧ u.m * n ≤ 1000000 * 1000000 := ⟨Int.mul_nonneg hub.1 hn0.1, Int.mul_le_mul (by omega) hn0.2 hn0.1 (by omega)⟩
       have hmn : 0 ≤ m * u.n ∧ m * u.n ≤ 1000000 * 1000000 := ⟨Int.mul_nonneg hm0.1 (by omega), Int.mul_le_mul hm0.2 (by omega) (by omega) (by omega)⟩
       rw [← hul] at hmn
       refine zm rfl (zS rfl (q_extract rfl rfl rfl) (zS rfl (q_extract rfl rfl rfl) (za rfl (za rfl (nP (zr (zm rfl (zm rfl ?_))))))))
       refine zS rfl (q_mul rfl rfl rfl (by intro hc; omega)) ?_
       refine zm rfl (zm rfl ?_)
       refine zS rfl (q_len rfl (.k rfl (.nil)) (rdO (by exact .tail _ (.head _)))) ?_
       refine zS rfl (q_mul rfl rfl rfl (by intro hc; omega)) ?_
       refine zS rfl (q_sub rfl rfl rfl (by intro hc; omega)) ?_
       refine za rfl (nP (zr (zm rfl (zS rfl (q_not rfl rfl) (zm rfl (zm rfl (zS rfl (q_gtr rfl rfl rfl) (zS rfl (q_or2 rfl rfl rfl) (zm rfl (zm rfl (zS rfl (q_eql rfl rfl rfl) (zm rfl (zm rfl ?_)))))))))))))
       refine zS rfl (q_len rfl (.k rfl (.nil)) (rdO (by exact .tail _ (.head _)))) ?_
       refine zm rfl (zS rfl (q_gtr rfl rfl rfl) (zS rfl (q_and2 rfl rfl rfl) (zS rfl (q_or2 rfl rfl rfl) (za rfl (nP (cw_seq (zr (zm rfl (zm rfl (zm rfl (zS rfl (q_eql rfl rfl rfl) (zS rfl (q_and2 rfl rfl rfl) (zm rfl (zm rfl ?_))))))))))))))
       refine zS rfl (q_len rfl (.k rfl (.nil)) (rdO (by exact .tail _ (.head _)))) ?_
       refine zm rfl (zS rfl (q_eql rfl rfl rfl) (zS rfl (q_and2 rfl rfl rfl) (nP ?_)))
       refine cw_cut (S := Bool) (fun y => [(0, [], sv), (3, [], .pointer (some ⟨b3, 0, none⟩)), (4, [], .pointer (some ⟨b4, 0, none⟩)), (6, [], .pointer (some ⟨b6, 0, none⟩)), (7, [], .bool S.isSome), (8, [], .int .i64 n), (9, [], .int .i64 m), (10, [], .int .i64 i), (11, [], sa.v), (12, [], .int .i64 k), (13, [], st.v), (14, [], si.v), (16, [], s16.v), (17, [], .int .i64 u.m), (19, [], .bool y)]) (fun _ => Cl w [] [ownL 9 s16.v u.pl, ownL 58 si.v li, ownL 62 sa.v vs, Sx.frz (fun w => RdR vs (C.map TT.list) w ∧ ChcIn q w), blk b6 (enc q) 64, blk b4 (enc (default : Chc)) 64, blk b3 (enc o) 40]) (fun y => chStep lx o.least S t = if y = true then some u else S) ?_ ?_
       · refine cw_cond rfl (fun h5 => ?_) (fun h5 => ?_)
         · obtain ⟨v, rfl⟩ : ∃ v, S = some v := by cases S with
             | none => simp at h5
             | some v => exact ⟨v, rfl⟩
           obtain ⟨q1, q2, q3, q4⟩ := hsome v rfl
           have hc : u.m * n - m * (li.length : Int) = 0 ∧ (li.length : Int) = n := by
             simp only [Option.isSome_some, Bool.true_and, Bool.and_eq_true, decide_eq_true_eq] at h5
             omega
           refine cw_region (zm rfl (zS rfl (q_lenV rfl (.k rfl (.nil))) (zS rfl (q_fieldAddr rfl rfl) ?_)))
           refine zS rfl (q_loadC rfl rfl (by exact .tail _ (.tail _ (.tail _ (.tail _ (.tail _ (.head _)))))) rfl) ?_
           refine zS rfl (q_lenV rfl (.k rfl (.nil))) (zS rfl (q_lss rfl rfl rfl) (zm rfl (zm rfl (zS rfl (q_lenV rfl (.k rfl (.nil))) (zS rfl (q_fieldAddr rfl rfl) ?_)))))
           refine zS rfl (q_loadC rfl rfl (by exact .tail _ (.tail _ (.tail _ (.tail _ (.tail _ (.head _)))))) rfl) ?_
           refine zS rfl (q_lenV rfl (.k rfl (.nil))) (zS rfl (q_eql rfl rfl rfl) (zm rfl (zm rfl (zS rfl (q_fieldAddr rfl rfl) ?_))))
           refine zS rfl (q_loadC rfl rfl (by exact .tail _ (.tail _ (.tail _ (.tail _ (.tail _ (.head _)))))) rfl) ?_
           refine sw_step rfl rfl rfl (q_call (CanCall.mk Tryz.call192) rfl (.k rfl (.k rfl (.nil))) (fun hcs w1 hw => callq hw (earlier_spec _ _ t.list q.tl (by simp [AllT] at hcs; omega) htb hbd w1 (hrow _ w1 hw (by exact .tail _ (.tail _ (.tail _ (.tail _ (.head _)))))) (hqrow _ w1 hw (by exact .tail _ (.tail _ (.tail _ (.tail _ (.head _))))))))) ?_
           refine zS rfl (q_and2 rfl rfl rfl) (zS rfl (q_or2 rfl rfl rfl) (za rfl (sw_nil ?_)))
           refine post_meet _ (by exact .cons rfl (.cons rfl (.cons rfl (.cons rfl (.cons rfl (.cons rfl (.cons rfl (.cons rfl (.cons rfl (.cons rfl (.cons rfl (.cons rfl (.cons rfl (.cons rfl (.cons rfl .nil))))))))))))))) (fun w' h => (Cl.sel (by exact .take 0 rfl (.take 0 rfl (.take 1 rfl (.take 1 rfl (.take 1 rfl (.take 1 rfl (.take 1 rfl (.nil _))))))))) _ h) ?_
           unfold chStep
           rw [hu, if_neg h4]
           dsimp only
           have hb := betC_lt u v
           rw [hut, ← q1, ← q3, ← q4, ← hul] at hb
           have e1 : m * (li.length : Int) - u.m * n = 0 := by omega
           rw [e1] at hb
           simp only [hstl, hql]
           by_cases g : betC u v < 0
           · rw [if_pos g, if_pos]
             simp only [Bool.or_eq_true, Bool.and_eq_true, decide_eq_true_eq]
             have := hb.1 g
             omega
           · rw [if_neg g, if_neg]
             simp only [Bool.or_eq_true, Bool.and_eq_true, decide_eq_true_eq]
             intro g2
             exact g (hb.2 (by omega))
         · refine cw_skip ?_
           refine post_meet _ (by exact .cons rfl (.cons rfl (.cons rfl (.cons rfl (.cons rfl (.cons rfl (.cons rfl (.cons rfl (.cons rfl (.cons rfl (.cons rfl (.cons rfl (.cons rfl (.cons rfl (.cons rfl .nil))))))))))))))) (fun w' h => (Cl.sel (by exact .take 0 rfl (.take 0 rfl (.take 1 rfl (.take 1 rfl (.take 1 rfl (.take 1 rfl (.take 1 rfl (.nil _))))))))) _ h) ?_
           unfold chStep
           rw [hu, if_neg h4]
           cases S with
           | none => simp
           | some v =>
             obtain ⟨q1, q2, q3, q4⟩ := hsome v rfl
             dsimp only
             have hb := betC_lt u v
             rw [hut, ← q1, ← q3, ← q4, ← hul] at hb
             have h6 : ¬ (u.m * n - m * (li.length : Int) = 0 ∧ (li.length : Int) = n) := by
               intro g
               simp only [Option.isSome_some, Bool.true_and, Bool.and_eq_false_iff, decide_eq_false_iff_not] at h5
               omega
             by_cases g : betC u v < 0
             · rw [if_pos g, if_pos]
               simp only [Option.isSome_some, Bool.not_true, Bool.false_or, Bool.or_eq_true, Bool.and_eq_true, decide_eq_true_eq]
               have := hb.1 g
               omega
             · rw [if_neg g, if_neg]
               simp only [Option.isSome_some, Bool.not_true, Bool.false_or, Bool.or_eq_true, Bool.and_eq_true, decide_eq_true_eq]
               intro g2
               exact g (hb.2 (by omega))
       rintro bt hbt
       refine post_then (zr (zm rfl (nP ?_)))
       refine cw_cond rfl (fun h5 => ?_) (fun h5 => ?_)
       · rw [if_pos h5] at hbt
         rw [hbt] at hF
         refine cw_region (zm rfl (zm rfl (zS rfl (q_build rfl (.k rfl (.k rfl (.nil))) rfl) (zm rfl ?_))))
         refine zS rfl (q_len rfl (.k rfl (.nil)) (rdO (by exact .tail _ (.head _)))) ?_
         refine zm rfl (sw_eff0 rfl rfl (e_store (i := 4) rfl rfl rfl rfl rfl rfl rfl rfl) (za rfl (za rfl (za rfl (sw_nil (post_blk (post_then (cw_region (zm rfl ?_)))))))))
         refine zS rfl (q_add rfl rfl rfl (by intro hc; omega)) ?_
         refine za rfl (sw_nil ?_)
         refine post_next (k + 1, some u, ⟨st, s16, t.list, u.pl⟩, li.length, u.m) (by exact .cons rfl (.cons rfl (.cons rfl (.cons rfl (.cons rfl (.cons rfl (.cons rfl (.cons rfl (.cons rfl (.cons rfl .nil)))))))))) (fun w' h => ?_) ⟨by simp only; omega, ⟨by simp only; omega, by simp only; omega, htb, fun v hv => ?_⟩, hF⟩ (by simp only; omega)
         · have h1 : Cl w [] ([ownL 9 s16.v u.pl, Sx.frz (fun w => RdR vs (C.map TT.list) w ∧ ChcIn q w)] ++ [ownL 62 sa.v vs, blk b6 (enc (⟨st, s16, t.list, u.pl⟩ : Chc)) 64, blk b4 (enc (default : Chc)) 64, blk b3 (enc o) 40]) w' := (Cl.sel (by exact .take 0 rfl (.take 2 rfl (.take 1 rfl (.take 1 rfl (.take 1 rfl (.take 1 rfl (.nil _)))))))) _ h
           exact (Cl.sel (by exact .take 1 rfl (.take 0 rfl (.take 0 rfl (.take 0 rfl (.take 0 rfl (.nil _))))))) _ (Cl.frz (R := fun w => RdR vs (C.map TT.list) w ∧ ChcIn ⟨st, s16, t.list, u.pl⟩ w) h1 fun w bs ⟨_, _, _, k1, _, _, _, k2, _⟩ => by
             have h3 := frz_here k2
             have h4 := h3.1.2 k (by simpa using hk')
             rw [hnl, hst] at h4
             exact ⟨h3.1, h4, ownL.rd k1⟩)
         · cases hv
           exact ⟨by rw [hut], rfl, hul, rfl⟩
       · rw [if_neg (by rw [h5]; simp)] at hbt
         rw [hbt] at hF
         refine cw_skip (post_blk (post_then (cw_region (zm rfl ?_))))
         refine zS rfl (q_add rfl rfl rfl (by intro hc; omega)) ?_
         refine za rfl (sw_nil ?_)
         exact post_next (k + 1, S, q, n, m) (by exact .cons rfl (.cons rfl (.cons rfl (.cons rfl (.cons rfl (.cons rfl (.cons rfl (.cons rfl (.cons rfl (.cons rfl .nil)))))))))) (fun w' h => (Cl.sel (by exact .take 2 rfl (.take 2 rfl (.take 2 rfl (.take 2 rfl (.take 2 rfl (.nil _))))))) _ h) ⟨by simp only; omega, ⟨hn0, hm0, hbd, hsome⟩, hF⟩ (by simp only; omega)
   · have hk' : k = C.length := by simp at h2; omega
     subst hk'
     rw [List.drop_length] at hF
     refine cw_exit (post_then_x (post_then_x (post_blk_eq (post_blk (post_then (cw_region (zm rfl ?_)))))))
     refine zS rfl (q_add rfl rfl rfl (by intro hc; omega)) ?_
     refine za rfl (sw_nil ?_)
     exact post_next (i + 1, S, q, n, m) (by exact .cons rfl (.cons rfl (.cons rfl (.cons rfl (.cons rfl (.cons rfl (.cons rfl (.cons rfl .nil)))))))) (fun w' h => by
       have h1 : Cl w [] (Sx.frz (fun w => RdR vs (C.map TT.list) w ∧ ChcIn q w) :: [blk b6 (enc q) 64, blk b4 (enc (default : Chc)) 64, blk b3 (enc o) 40]) w' := (Cl.sel (by exact .take 1 rfl (.take 1 rfl (.take 1 rfl (.take 1 rfl (.nil _)))))) _ h
       exact (Cl.sel (by exact .take 1 rfl (.take 0 rfl (.take 0 rfl (.take 0 rfl (.nil _)))))) _ (h1.frzM fun _ h => h.2)) ⟨by simp only; omega, hS, hF⟩ (by simp only; omega)
 · have hi' : i = l.length := by simp at h; omega
   subst hi'
   rw [← hln, List.drop_length] at hF
   have hSB : S = B := hF
   subst hSB
   refine cw_exit (post_then_x (post_then_x (post_blk_eq (post_then (zr ?_)))))
   refine zS rfl (q_loadA rfl rfl (by exact .head _) rfl) ?_
   refine zm rfl (sw_eff0 rfl rfl (e_store (i := 2) rfl rfl rfl rfl rfl rfl rfl rfl) (za rfl (nP (cw_ret ?_))))
   refine post_ret2 rfl (resOk_blk (x := _) rfl (by exact .tail _ (.tail _ (.head _))) (by rfl)) (resOk_tmp rfl) ?_
   exact fun w' hw => ⟨q, rfl, fun v hv => ⟨(hS.some v hv).1, (hS.some v hv).2.1⟩, (Cl.sel (by exact .take 1 rfl (.nil _))) _ hw⟩
end Go.Proofs.YtkmbliojafefdaaGreatDoor

set_option autoImplicit false
set_option maxRecDepth 100000
set_option maxHeartbeats 1000000
namespace Go.Proofs.YtkmbliojafefdaaGreatDoor
open Go.Sx
open Enc (enc val)
theorem listR_spec (sv : SlV) (l : List XR) (o : Lrn) (ho : LrnOk o) (hl : l.length ≤ 1000000) (hok : ∀ e ∈ l, RxOk e) (w : World) (hs : Stb w [] (RdL sv.v l)) (hin : Stb w [] fun w' => ∀ u ∈ l, RxIn u w') :
   Calls Tryz.prog 120 #[sv.v, val o] w fun e w' => ∃ y : SlV × List Chc, e = .returned y.1.v ∧ (y.2.map fun u => (u.tl, u.pl)) = listC (l.map XR.x) o ∧ Cl w [] [Sx.frz fun w => RdL y.1.v y.2 w ∧ ∀ u ∈ y.2, ChcIn u w] w' := by
 have hL := rd_len hs.here
 have hmo := ho.most
 refine calls_cw (vs := [_, _]) Tryz.func120 rfl Tryz.ntmps120 rfl (Cl.start0 w) (zr ?_)
 refine sw_x rfl rfl rfl (e_box rfl rfl rfl) (fun b3 => ?_)
 refine za rfl (nP (zr (za rfl (sw_nil (post_then (cw_seq (cw_region (zm rfl (za rfl (sw_nil (post_then (cw_seq ?_))))))))))))
 refine cw_cut (S := SlV × List XR × List Asn × SlV × List Chc) (fun y => [(0, [], sv.v), (3, [], .pointer (some ⟨b3, 0, none⟩)), (5, [], y.2.2.2.1.v), (6, [], y.1.v)]) (fun y => Cl w [] (ownL 64 y.2.2.2.1.v y.2.2.2.2 :: Sx.frz (fun w => ∀ u ∈ y.2.2.2.2, ChcIn u w) :: blk b3 (enc o) 40 :: y.2.2.1)) (fun y => (∀ (H : List Asn) w', Cl w [] H w' → (∀ A ∈ y.2.2.1, A ∈ H) → Stb w' [] (RdL y.1.v y.2.1)) ∧ (∀ e ∈ y.2.1, e ∈ l) ∧ y.2.1.length ≤ l.length ∧ (y.2.2.2.2.length : Int) ≤ o.most ∧ lastC (l.map XR.x) (y.2.1.map XR.x, y.2.2.2.2.map fun u => (u.tl, u.pl)) = listC (l.map XR.x) o) ?_ ?_
 · refine cw_block ?_
   refine cw_loop (S := Nat × SlV × List XR × List Asn × SlV × List Chc) (fun y => [(0, [], sv.v), (3, [], .pointer (some ⟨b3, 0, none⟩)), (5, [], y.2.2.2.2.1.v), (6, [], y.2.1.v)]) (fun y => Cl w [] (ownL 64 y.2.2.2.2.1.v y.2.2.2.2.2 :: Sx.frz (fun w => ∀ u ∈ y.2.2.2.2.2, ChcIn u w) :: blk b3 (enc o) 40 :: y.2.2.2.1)) (fun y => (∀ (H : List Asn) w', Cl w [] H w' → (∀ A ∈ y.2.2.2.1, A ∈ H) → Stb w' [] (RdL y.2.1.v y.2.2.1)) ∧ (∀ e ∈ y.2.2.1, e ∈ l) ∧ y.2.2.1.length ≤ l.length ∧ y.2.2.1.length < y.1 ∧ (y.2.2.2.2.2.length : Int) ≤ o.most ∧ lastC (l.map XR.x) (listF o y.1 (y.2.2.1.map XR.x) (y.2.2.2.2.2.map fun u => (u.tl, u.pl))) = listC (l.map XR.x) o) (fun y => y.1) (l.length + 1, sv, l, [], ⟨none, 0, 0⟩, []) ⟨fun H w' h _ => stb_arg h hs, fun e h => h, Nat.le_refl _, by simp, by simp; omega, by simp only [List.map_nil]; unfold listC; rw [List.length_map]⟩ (by exact .cons rfl (.cons rfl (.cons rfl (.cons rfl .nil)))) (fun w' h => (Cl.sel (by exact .take 1 rfl (.take 0 rfl (.take 0 rfl (.nil _))))) _ (cl_true (R := fun w => ∀ u ∈ ([] : List Chc), ChcIn u w) (fun w u hu => by simp at hu) (Cl.addNil (α := Chc) 64 h))) ?_
   rintro ⟨n, sl, lf, G, so, out⟩ ⟨hG, hsub, hll, hln, hol, hF⟩
   dsimp only at hG hsub hll hln hol hF ⊢
   have hmem : ∀ (A B D : Asn), ∀ X ∈ G, X ∈ A :: B :: D :: G := fun A B D X hX => .tail _ (.tail _ (.tail _ hX))
   have hexo : ∀ e ∈ lf, RxOk e := fun e he => hok e (hsub e he)
   have hexi : Stb w [] fun w' => ∀ u ∈ lf, RxIn u w' := stb_map hin fun _ h u hu => h u (hsub u hu)
   obtain ⟨n, rfl⟩ : ∃ k, n = k + 1 := ⟨n - 1, by omega⟩
   refine cw_seq (zr (zm rfl (zS rfl (q_len (xs := lf) rfl (.k rfl (.nil)) (fun w1 h1 => (hG _ w1 h1 (hmem _ _ _)).here)) (zS rfl (q_gtr rfl rfl rfl) (zm rfl (zm rfl ?_))))))
   refine zS rfl (q_len rfl (.k rfl (.nil)) (rdO (by exact .head _))) ?_
   refine zS rfl (q_fieldAddr rfl rfl) ?_
   refine zS rfl (q_loadC rfl rfl (by exact .tail _ (.tail _ (.head _))) rfl) ?_
   refine zS rfl (q_lss rfl rfl rfl) (zS rfl (q_and2 rfl rfl rfl) (nP ?_))
   refine cw_cond rfl (fun h => ?_) (fun h => ?_)
   · have hc : 0 < lf.length ∧ (out.length : Int) < o.most := by simp at h; omega
     have hF2 := hF
     unfold listF at hF2
     rw [List.length_map, List.length_map, if_pos hc] at hF2
     refine sP (cw_block (cw_seq (zr (zm rfl ?_))))
     refine sw_x rfl rfl rfl (e_call (CanCall.mk Tryz.call156) rfl (.k rfl (.nil)) (fun w1 hw => bestR_spec _ lf (by omega) hexo w1 (hG _ w1 hw (hmem _ _ _)) (stb_arg hw hexi))) (fun s7 => ?_)
     refine sw_imp fun _ => (zm rfl (zS rfl (q_extract rfl rfl rfl) (zS rfl (q_extract rfl rfl rfl) (za rfl (za rfl (nP (zr (zm rfl (zm rfl (zS rfl (q_len (xs := lf) rfl (.k rfl (.nil)) (fun w1 h1 => (hG _ w1 h1 (fun X hX => .tail _ (hmem _ _ _ X hX))).here)) (zS rfl (q_eql rfl rfl rfl) (sw_nil (post_then ?_)))))))))))))
     refine cw_cond rfl (fun h2 => ?_) (fun h2 => ?_)
     · rw [if_pos (by simpa using h2)] at hF2
       refine cw_exit (post_then_x (post_blk_ne rfl (post_then_x (post_blk_eq ?_))))
       exact post_meet (sl, lf, G, so, out) (by exact .cons rfl (.cons rfl (.cons rfl (.cons rfl .nil)))) (fun w' h => h.tail) ⟨hG, hsub, hll, hol, hF2⟩
     · rw [if_neg (by simpa using h2)] at hF2
       refine sP (zr (zm rfl ?_))
       refine zS rfl (q_loadA rfl rfl (by exact .tail _ (.tail _ (.tail _ (.head _)))) rfl) ?_
       refine sw_x rfl rfl rfl (e_call (CanCall.mk Tryz.call157) rfl (.k rfl (.k rfl (.nil))) (fun w1 hw => choose_spec2 _ lf o ho (by omega) hexo w1 (hG _ w1 hw (fun X hX => .tail _ (hmem _ _ _ X hX))) (stb_arg hw hexi))) (fun q => ?_)
       refine sw_imp fun hq => ?_
       obtain ⟨bo, hbo⟩ : ∃ bo, bestC (lf.map XR.x) o.reach o.least = bo := ⟨_, rfl⟩
       rw [hbo]
       rw [hbo] at hF2 hq
       refine zm rfl (zS rfl (q_extract rfl rfl rfl) (zS rfl (q_extract rfl rfl rfl) ?_))
       refine sw_x rfl rfl rfl (e_alloc rfl) (fun b9 => ?_)
       refine sw_eff0 rfl rfl (e_store (i := 0) rfl rfl rfl rfl rfl rfl rfl rfl) (za rfl (nP (cw_seq (zr (zm rfl (zS rfl (q_not rfl rfl) (sw_nil (post_then ?_))))))))
       refine cw_cond rfl (fun h3 => ?_) (fun h3 => ?_)
       · have h4 : bo = none := by cases bo with
           | none => rfl
           | some => simp at h3
         subst h4
         refine cw_exit (post_then_x (post_blk_ne rfl (post_then_x (post_blk_eq ?_))))
         exact post_meet (sl, lf, G, so, out) (by exact .cons rfl (.cons rfl (.cons rfl (.cons rfl .nil)))) (fun w' h => h.tail.tail.tail) ⟨hG, hsub, hll, hol, hF2⟩
       · obtain ⟨u, rfl⟩ : ∃ u, bo = some u := by cases bo with
           | none => simp at h3
           | some u => exact ⟨u, rfl⟩
         obtain ⟨q1, q2⟩ := hq u rfl
         have hdec := best_left ho hbo
         have hub := isT_bd ho.reach (by simp; omega) (best_is hbo)
         have htb := list_bd hub.1
         rw [← q1] at hdec htb
         refine sP (zr (zm rfl ?_))
         refine zS rfl (q_loadA rfl rfl (by exact .head _) rfl) ?_
         refine sw_x rfl rfl rfl (e_buildL (α := Chc) (l := [q]) rfl (.k rfl (.nil)) rfl rfl rfl rfl) (fun s43 => ?_)
         refine sw_x rfl rfl rfl (e_append (i := 4) rfl (.k rfl (.k rfl (.nil))) rfl rfl (rdO (by exact .head _)) (by first | omega | (simp only [List.length_set, List.length_append, List.length_cons, List.length_nil, List.length_replicate, List.length_take, List.length_drop, List.length_map]; omega)) rfl) (fun s44 => ?_)
         refine za rfl (nP (cw_region (zm rfl (zS rfl (q_fieldAddr rfl rfl) ?_))))
         refine zS rfl (q_loadC rfl rfl (by exact .tail _ (.head _)) rfl) ?_
         refine sw_x rfl rfl rfl (e_call (CanCall.mk Tryz.call158) rfl (.k rfl (.k rfl (.nil))) (fun w1 hw => split_spec _ _ lf q.tl (by omega) hexo htb w1 (hG _ w1 hw (fun X hX => List.mem_append_right [_, _, _, _, _, _, _] hX)) (stb_map (stb_frz (R := ChcIn q) hw (by exact .tail _ (.tail _ (.head _)))) fun _ h => h.1) (stb_arg hw hexi))) (fun yy => ?_)
         refine sw_imp fun _ => ?_
         obtain ⟨si, s54⟩ := yy
         dsimp only
         refine zm rfl (zS rfl (q_extract rfl rfl rfl) (zS rfl (q_extract rfl rfl rfl) (za rfl (sw_nil (post_blk ?_)))))
         obtain ⟨lf', hlf'⟩ : ∃ lf', (lf.filter fun e => !holdsC e.wl e.at_ q.tl) = lf' := ⟨_, rfl⟩
         have hsub' : ∀ e ∈ lf', e ∈ lf := fun e he => by rw [← hlf'] at he; exact (List.mem_filter.1 he).1
         have hmf : ((lf.map XR.x).filter fun e => !holdsC e.wl e.at_ q.tl) = lf'.map XR.x := by rw [← hlf', List.filter_map]; rfl
         rw [hmf, List.length_map, List.length_map] at hdec
         have hF3 : lastC (l.map XR.x) (listF o n ((lf.map XR.x).filter fun e => !holdsC e.wl e.at_ u.t.list) ((out.map fun u => (u.tl, u.pl)) ++ [(u.t.list, u.pl)])) = listC (l.map XR.x) o := hF2
         rw [← q1, ← q2, hmf] at hF3
         rw [hlf']
         refine post_next (n, s54, lf', [Sx.frz (RdL s54.v lf')], s44, out ++ [q]) (by exact .cons rfl (.cons rfl (.cons rfl (.cons rfl .nil)))) (fun w' h => ?_) ⟨fun H w' h hm => stb_frz h (hm _ (.head _)), fun e he => hsub e (hsub' e he), by simp only; omega, by simp only; omega, by simp only [List.length_append, List.length_cons, List.length_nil]; omega, by simp only [List.map_append]; exact hF3⟩ (by simp only; omega)
         have h1 : Cl w [] ([Sx.frz (ChcIn q), Sx.frz (fun w => ∀ u ∈ out, ChcIn u w)] ++ [ownL 64 s44.v (out ++ [q]), blk b3 (enc o) 40, ownL 58 s54.v lf']) w' := (Cl.sel (by exact .take 4 rfl (.take 6 rfl (.take 5 rfl (.take 5 rfl (.take 1 rfl (.nil _))))))) _ h
         have h2 := Cl.frz (R := fun w => ∀ z ∈ out ++ [q], ChcIn z w) h1 fun w bs ⟨b1, _, _, k1, b2, _, _, k2, _⟩ z hz => by
           rcases List.mem_append.1 hz with hz | hz
           · exact frz_here k2 z hz
           · simp at hz; subst hz; exact frz_here k1
         have h3 : Cl w [] (ownL 58 s54.v lf' :: [ownL 64 s44.v (out ++ [q]), Sx.frz (fun w => ∀ z ∈ out ++ [q], ChcIn z w), blk b3 (enc o) 40]) w' := (Cl.sel (by exact .take 3 rfl (.take 1 rfl (.take 0 rfl (.take 0 rfl (.nil _)))))) _ h2
         exact (Cl.sel (by exact .take 1 rfl (.take 1 rfl (.take 1 rfl (.take 0 rfl (.nil _)))))) _ h3.frzL
   · have hc : ¬ (0 < lf.length ∧ (out.length : Int) < o.most) := by
       simp at h; omega
     unfold listF at hF
     rw [List.length_map, List.length_map, if_neg hc] at hF
     refine cw_exit (post_then_x (post_then_x (post_blk_eq ?_)))
     exact post_meet (sl, lf, G, so, out) (by exact .cons rfl (.cons rfl (.cons rfl (.cons rfl .nil)))) (fun w' h => h) ⟨hG, hsub, hll, hol, hF⟩
 rintro ⟨sl, lf, G, so, out⟩ ⟨hG, hsub, hll, hol, hF⟩
 refine post_then ?_
 dsimp only at hG hsub hll hol hF ⊢
 have hmem : ∀ (A B D : Asn), ∀ X ∈ G, X ∈ A :: B :: D :: G := fun A B D X hX => .tail _ (.tail _ (.tail _ hX))
 refine cw_seq (zr (zm rfl (zS rfl (q_len (xs := lf) rfl (.k rfl (.nil)) (fun w1 h1 => (hG _ w1 h1 (hmem _ _ _)).here)) (zS rfl (q_eql rfl rfl rfl) (nP ?_)))))
 refine cw_cut (S := SlV × List XR) (fun y => [(5, [], so.v), (6, [], y.1.v)]) (fun y => Cl w [] (ownL 64 so.v out :: Sx.frz (fun w => ∀ u ∈ out, ChcIn u w) :: blk b3 (enc o) 40 :: G)) (fun y => (∀ (H : List Asn) w', Cl w [] H w' → (∀ A ∈ G, A ∈ H) → Stb w' [] (RdL y.1.v y.2)) ∧ y.2 = if lf.length = 0 then l else lf) ?_ ?_
 · refine cw_cond rfl (fun h => ?_) (fun h => ?_)
   · refine cw_region (zm rfl (za rfl (sw_nil ?_)))
     exact post_meet (sv, l) (by exact .cons rfl (.cons rfl .nil)) (fun w' h => h) ⟨fun H w' h _ => stb_arg h hs, by rw [if_pos (by simpa using h)]⟩
   · refine cw_skip ?_
     exact post_meet (sl, lf) (by exact .cons rfl (.cons rfl .nil)) (fun w' h => h) ⟨hG, by rw [if_neg (by simpa using h)]⟩
 rintro ⟨sl2, lf2⟩ ⟨hG2, hlf2⟩
 refine post_then ?_
 dsimp only at hG2 hlf2 ⊢
 have hsub2 : ∀ e ∈ lf2, e ∈ l := by
   rw [hlf2]; split
   · exact fun e h => h
   · exact hsub
 have hll2 : lf2.length ≤ 1000000 := by
   rw [hlf2]; split <;> omega
 have hexo : ∀ e ∈ lf2, RxOk e := fun e he => hok e (hsub2 e he)
 have hexi : Stb w [] fun w' => ∀ u ∈ lf2, RxIn u w' := stb_map hin fun _ h u hu => h u (hsub2 u hu)
 have hF2 : (out.map fun u => (u.tl, u.pl)) ++ [([], (mostC (lf2.map XR.x)).b)] = listC (l.map XR.x) o := by
   rw [← hF, hlf2]
   unfold lastC
   simp only [List.length_map]
   split <;> rfl
 refine zr (zm rfl ?_)
 refine sw_x rfl rfl rfl (e_call (CanCall.mk Tryz.call156) rfl (.k rfl (.nil)) (fun w1 hw => bestR_spec _ lf2 (by omega) hexo w1 (hG2 _ w1 hw (hmem _ _ _)) (stb_arg hw hexi))) (fun s66 => ?_)
 refine sw_imp fun _ => ?_
 obtain ⟨ms, hms⟩ : ∃ ms, mostC (lf2.map XR.x) = ms := ⟨_, rfl⟩
 rw [hms] at hF2 ⊢
 refine zm rfl (zS rfl (q_extract rfl rfl rfl) (zS rfl (q_extract rfl rfl rfl) (za rfl (za rfl (nP (zr (zm rfl (zm rfl (zS rfl (q_build rfl (.k rfl (.nil)) rfl) ?_)))))))))
 refine sw_x rfl rfl rfl (e_buildL (α := Chc) (l := [⟨⟨none, 0, 0⟩, s66, [], ms.b⟩]) rfl (.k rfl (.nil)) rfl rfl rfl rfl) (fun s64 => ?_)
 refine sw_x rfl rfl rfl (e_append (i := 2) rfl (.k rfl (.k rfl (.nil))) rfl rfl (rdO (by exact .head _)) (by first | omega | (simp only [List.length_set, List.length_append, List.length_cons, List.length_nil, List.length_replicate, List.length_take, List.length_drop, List.length_map]; omega)) rfl) (fun s65 => ?_)
 refine za rfl (nP (cw_ret (post_ret1 rfl (resOk_tmp rfl) ?_)))
 refine fun w' h => ⟨(s65, out ++ [⟨⟨none, 0, 0⟩, s66, [], ms.b⟩]), rfl, by rw [← hF2]; simp, ?_⟩
 have h1 : Cl w [] ([ownL 64 s65.v (out ++ [⟨⟨none, 0, 0⟩, s66, [], ms.b⟩]), ownL 9 s66.v ms.b, Sx.frz (fun w => ∀ u ∈ out, ChcIn u w)] ++ []) w' := (Cl.sel (by exact .take 2 rfl (.take 1 rfl (.take 1 rfl (.nil _))))) _ h
 refine Cl.frz h1 fun w bs ⟨b1, _, _, k1, b2, _, _, k2, b3, _, _, k3, _⟩ => ⟨ownL.rd k1, fun u hu => ?_⟩
 rcases List.mem_append.1 hu with hu | hu
 · exact frz_here k3 u hu
 · simp at hu; subst hu; exact ⟨rd_nil0 w, ownL.rd k2⟩
end Go.Proofs.YtkmbliojafefdaaGreatDoor

set_option autoImplicit false
set_option maxRecDepth 100000
set_option maxHeartbeats 1000000
namespace Go.Proofs.YtkmbliojafefdaaGreatDoor
open Go.Sx
open Enc (enc val)
def evR (l : List XR) : List (Rn × XP) := l.map fun e => (nth e.wl e.at_.toNat, plX e.x)
def teachF (q : List (Rn × XP)) (o : Lrn) (c : Rn) : Int × List (List Cond × List ByteArray) := (c.v, listC ((xsC q c).map toXL) o)
theorem sort_ins {s A : List Rn} {c : Rn} {k : Nat} (hA : s = sortR A) (hk : k ≤ s.length) (h1 : ∀ j, j < k → (nth s j).v < c.v) (h2 : k < s.length → c.v < (nth s k).v) : c ∉ A ∧ sortR (A ++ [c]) = s.take k ++ [c] ++ s.drop k := by
 have hp := sortR_asc A
 rw [← hA] at hp
 have hperm := sortR_perm A
 rw [← hA] at hperm
 have hlo : ∀ x ∈ s.take k, x.v < c.v := fun x hx => by
   obtain ⟨j, hj, rfl⟩ := List.getElem_of_mem hx
   have hj2 : j < k ∧ j < s.length := by simp at hj; omega
   rw [List.getElem_take, ← nth_get hj2.2]
   exact h1 j hj2.1
 have hhi : ∀ x ∈ s.drop k, c.v < x.v := fun x hx => by
   obtain ⟨j, hj, rfl⟩ := List.getElem_of_mem hx
   have hj2 : k + j < s.length := by simp at hj; omega
   rw [List.getElem_drop]
   have h3 := h2 (by omega)
   rw [nth_get (by omega)] at h3
   by_cases e : j = 0
   · subst e; exact h3
   · have := (List.pairwise_iff_getElem.1 hp) k (k + j) (by omega) hj2 (by omega)
     omega
 have hc : c ∉ A := fun h => by
   have h3 := hperm.mem_iff.2 h
   rw [← List.take_append_drop k s] at h3
   rcases List.mem_append.1 h3 with h3 | h3
   · have := hlo c h3; omega
   · have := hhi c h3; omega
 refine ⟨hc, asc_eq ((sortR_perm _).trans ?_) (sortR_asc _) ?_⟩
 · have e1 : (A ++ [c]).Perm (s ++ [c]) := hperm.symm.append_right [c]
   refine e1.trans ?_
   conv => lhs; rw [← List.take_append_drop k s]
   rw [List.append_assoc, List.append_assoc]
   exact List.Perm.append_left _ List.perm_append_comm
 · have hp2 := hp
   rw [← List.take_append_drop k s, List.pairwise_append] at hp2
   rw [List.append_assoc, List.pairwise_append]
   refine ⟨hp2.1, ?_, fun x hx y hy => ?_⟩
   · show List.Pairwise _ (c :: s.drop k)
     rw [List.pairwise_cons]
     exact ⟨fun y hy => Int.le_of_lt (hhi y hy), hp2.2.1⟩
   · rcases List.mem_append.1 hy with hy | hy
     · simp at hy; subst hy; exact Int.le_of_lt (hlo x hx)
     · exact hp2.2.2 x hx y hy
theorem bkP_at {bl : List Let} {s : List Rn} {q : List (Rn × XP)} {o : Lrn} (h : bkP bl = s.map (teachF q o)) : bl.length = s.length ∧ ∀ k, k < s.length → (nth bl k).c = (nth s k).v := by
 have h1 : bl.length = s.length := by
   have := congrArg List.length h
   unfold bkP at this
   simpa using this
 refine ⟨h1, fun k hk => ?_⟩
 have h2 := congrArg (fun z => z[k]?) h
 unfold bkP at h2
 simp only [List.getElem?_map, List.getElem?_eq_getElem hk, List.getElem?_eq_getElem (show k < bl.length by omega), Option.map_some, Option.some.injEq] at h2
 rw [nth_get (by omega), nth_get hk]
 exact congrArg Prod.fst h2
theorem own_xs (l : List XR) (c : Rn) : ((l.filter fun e => decide (nth e.wl e.at_.toNat = c)).map XR.x).map plX = xsC (evR l) c := by
 unfold xsC evR
 rw [List.filter_map, List.map_map, List.map_map]
 rfl
theorem evR_len (l : List XR) : (evR l).length = l.length := by simp [evR]
theorem evR_take {l : List XR} {i : Nat} (hi : i < l.length) : (evR l).take (i + 1) = (evR l).take i ++ [(nth (nth l i).wl (nth l i).at_.toNat, plX (nth l i).x)] := by
 have h : i < (evR l).length := by rw [evR_len]; exact hi
 rw [List.take_succ_eq_append_getElem h]
 congr 2
 simp [evR, nth_get hi]
theorem insR_in {acc : List Rn} {c : Rn} (h : c ∈ acc) : insR acc c = acc := by unfold insR; rw [if_pos h]
theorem insR_out {acc : List Rn} {c : Rn} (h : c ∉ acc) : insR acc c = acc ++ [c] := by unfold insR; rw [if_neg h]
theorem rn_eq {a b : Rn} : a = b ↔ a.v = b.v := ⟨fun h => by rw [h], fun h => by cases a; cases b; simp at h; rw [h]⟩
theorem teach_spec (sv : SlV) (l : List XR) (o : Lrn) (ho : LrnOk o) (hl : l.length ≤ 100000) (hok : ∀ e ∈ l, RxOk e) (w : World) (hs : Stb w [] (RdL sv.v l)) (hin : Stb w [] fun w' => ∀ u ∈ l, RxIn u w') :
   Calls Tryz.prog 72 #[sv.v, val o] w fun e w' => ∃ b : Bk, e = .returned (val b) ∧ bkP b.bl = (sortR (abcC (evR l))).map (teachF (evR l) o) ∧ Cl w [] [Sx.frz (BkIn b)] w' := by
 have hL := rd_len hs.here
 obtain ⟨q, hq⟩ : ∃ q, evR l = q := ⟨_, rfl⟩
 have hql : q.length = l.length := by rw [← hq, evR_len]
 rw [hq]
 refine calls_cw (vs := [_, _]) Tryz.func72 rfl Tryz.ntmps72 rfl (Cl.start0 w) (zr ?_)
 refine sw_x rfl rfl rfl (e_box rfl rfl rfl) (fun b3 => ?_)
 refine sw_x rfl rfl rfl (e_alloc rfl) (fun b4 => ?_)
 refine nP (zr ?_)
 refine sw_x rfl rfl rfl (e_alloc rfl) (fun b5 => ?_)
 refine nP (cw_seq (zr (za rfl (sw_nil (post_then (cw_block ?_))))))
 refine cw_loop (S := Nat × SlV × List Let) (fun y => [(0, [], sv.v), (3, [], .pointer (some ⟨b3, 0, none⟩)), (4, [], .pointer (some ⟨b4, 0, none⟩)), (5, [], .pointer (some ⟨b5, 0, none⟩)), (6, [], .int .i64 y.1)]) (fun y => Cl w [] [ownL 61 y.2.1.v y.2.2, Sx.frz (fun w => ∀ L ∈ y.2.2, LetIn L w), blk b5 [y.2.1.v] 45, blk b4 (enc (default : Bk)) 45, blk b3 (enc o) 40]) (fun y => y.1 ≤ l.length ∧ bkP y.2.2 = (sortR (abcC (q.take y.1))).map (teachF q o)) (fun y => l.length - y.1) (0, ⟨none, 0, 0⟩, []) ⟨Nat.zero_le _, rfl⟩ (by exact .cons rfl (.cons rfl (.cons rfl (.cons rfl (.cons rfl .nil))))) (fun w' h => ?_) ?_
 · have h1 : Cl w [] [blk b5 [SlV.v ⟨none, 0, 0⟩] 45, blk b4 (enc (default : Bk)) 45, blk b3 (enc o) 40] w' := (Cl.sel (by exact .take 0 rfl (.take 0 rfl (.take 0 rfl (.nil _))))) _ h
   exact (Cl.sel (by exact .take 1 rfl (.take 0 rfl (.take 0 rfl (.take 0 rfl (.take 0 rfl (.nil _))))))) _ (Cl.frz (H := []) (R := fun w => ∀ L ∈ ([] : List Let), LetIn L w) (Cl.addNil (α := Let) 61 h1) fun w _ _ L hL => by simp at hL)
 rintro ⟨i, so, bl⟩ ⟨hi, hbl⟩
 dsimp only at hi hbl ⊢
 obtain ⟨s, hse⟩ : ∃ s, sortR (abcC (q.take i)) = s := ⟨_, rfl⟩
 rw [hse] at hbl
 obtain ⟨hbs, hbc⟩ := bkP_at hbl
 have hsl : s.length ≤ i := by
   rw [← hse, (sortR_perm _).length_eq]
   have := abc_le (q.take i)
   rw [List.length_take] at this
   omega
 refine cw_seq (zr (zm rfl (zm rfl ?_)))
 refine zS rfl (q_len rfl (.k rfl (.nil)) (stA (by assumption))) ?_
 refine zS rfl (q_lss rfl rfl rfl) (nP ?_)
 refine cw_cond rfl (fun h => ?_) (fun h => ?_)
 · have hi' : i < l.length := by simp at h; omega
   obtain ⟨x, hx⟩ : ∃ x, nth l i = x := ⟨_, rfl⟩
   have hxm : x ∈ l := by rw [← hx]; exact nth_mem hi'
   have hxo := hok x hxm
   have hx0 := hxo.at0
   have hx1 := hxo.in_
   have hxr : Stb w [] (RdL (nth l i).w.v (nth l i).wl) := by rw [hx]; exact stb_map hin fun _ h => (h x hxm).1
   have hx2 : 0 ≤ (nth l i).at_ ∧ (nth l i).at_ < (nth l i).wl.length := by rw [hx]; omega
   obtain ⟨a, hae⟩ : ∃ a : Nat, (nth l i).at_ = a := ⟨(nth l i).at_.toNat, by omega⟩
   obtain ⟨c, hc⟩ : ∃ c, nth (nth l i).wl a = c := ⟨_, rfl⟩
   have htk := evR_take hi'
   rw [hq, hae, Int.toNat_natCast, hc] at htk
   refine sP (cw_seq (cw_block (cw_seq ?_)))
   refine cw_region_q mixed_Tryz (by kernel_rfl) ?_
   refine zw rfl (zw rfl ?_)
   refine zq rfl (q_indexN rfl rfl rfl (stA (by assumption)) (by intro hc; omega)) ?_
   refine zq rfl (q_fieldEl rfl rfl (stA (by assumption)) (by intro hc; omega)) ?_
   refine zq rfl (q_loadF rfl rfl rfl (stA (by assumption)) (by intro hc; omega) rfl) ?_
   refine zw rfl (zw rfl ?_)
   refine zq rfl (q_indexN rfl rfl rfl (stA (by assumption)) (by intro hc; omega)) ?_
   refine zq rfl (q_fieldEl rfl rfl (stA (by assumption)) (by intro hc; omega)) ?_
   refine zq rfl (q_loadF rfl rfl rfl (stA (by assumption)) (by intro hc; omega) rfl) ?_
   refine zq rfl (q_index rfl rfl rfl (stA (by assumption)) (by intro hc; omega)) ?_
   refine zq rfl (q_loadEl rfl rfl rfl (stA (by assumption)) (by intro hc; omega)) ?_
   refine zq rfl (q_assign rfl rfl) (qw_end (post_then (zr (za rfl (nP (cw_seq ?_))))))
   simp only [hae, Int.toNat_natCast, hc]
   refine cw_cut (S := Nat) (fun k => [(0, [], sv.v), (3, [], .pointer (some ⟨b3, 0, none⟩)), (4, [], .pointer (some ⟨b4, 0, none⟩)), (5, [], .pointer (some ⟨b5, 0, none⟩)), (6, [], .int .i64 i), (7, [], .int .i32 c.v), (8, [], .int .i64 k)]) (fun _ => Cl w [] [ownL 61 so.v bl, Sx.frz (fun w => ∀ L ∈ bl, LetIn L w), blk b5 [so.v] 45, blk b4 (enc (default : Bk)) 45, blk b3 (enc o) 40]) (fun k => k ≤ bl.length ∧ (∀ j, j < k → (nth bl j).c < c.v) ∧ (k < bl.length → ¬ (nth bl k).c < c.v)) ?_ ?_
   · refine cw_block ?_
     refine cw_loop (S := Nat) (fun k => [(0, [], sv.v), (3, [], .pointer (some ⟨b3, 0, none⟩)), (4, [], .pointer (some ⟨b4, 0, none⟩)), (5, [], .pointer (some ⟨b5, 0, none⟩)), (6, [], .int .i64 i), (7, [], .int .i32 c.v), (8, [], .int .i64 k)]) (fun _ => Cl w [] [ownL 61 so.v bl, Sx.frz (fun w => ∀ L ∈ bl, LetIn L w), blk b5 [so.v] 45, blk b4 (enc (default : Bk)) 45, blk b3 (enc o) 40]) (fun k => k ≤ bl.length ∧ ∀ j, j < k → (nth bl j).c < c.v) (fun k => bl.length - k) 0 ⟨Nat.zero_le _, fun j hj => by omega⟩ (by exact .cons rfl (.cons rfl (.cons rfl (.cons rfl (.cons rfl (.cons rfl (.cons rfl .nil))))))) (fun w' h => (Cl.sel (by exact .take 0 rfl (.take 0 rfl (.take 0 rfl (.take 0 rfl (.take 0 rfl (.nil _))))))) _ h) ?_
     rintro k ⟨hk, hkl⟩
     refine cw_seq (zr (zm rfl (zS rfl (q_fieldAddr rfl rfl) ?_)))
     refine zS rfl (q_loadC rfl rfl (by exact .tail _ (.tail _ (.head _))) rfl) ?_
     refine zS rfl (q_len rfl (.k rfl (.nil)) (rdO (by exact .head _))) ?_
     refine zS rfl (q_lss rfl rfl rfl) (zm rfl (zS rfl (q_fieldAddr rfl rfl) ?_))
     refine zS rfl (q_loadC rfl rfl (by exact .tail _ (.tail _ (.head _))) rfl) ?_
     refine zm rfl ?_
     refine zS rfl (q_indexN rfl rfl rfl (rdO (by exact .head _)) (by intro hc; (simp only [AllT.iff, List.all_cons, List.all_nil, id, Bool.and_eq_true, Bool.not_eq_true', decide_eq_true_eq, decide_eq_false_iff_not, and_true] at hc; omega))) ?_
     refine zS rfl (q_fieldEl rfl rfl (rdO (by exact .head _)) (by intro hc; (simp only [AllT.iff, List.all_cons, List.all_nil, id, Bool.and_eq_true, Bool.not_eq_true', decide_eq_true_eq, decide_eq_false_iff_not, and_true] at hc; omega))) ?_
     refine zS rfl (q_loadF rfl rfl rfl (rdO (by exact .head _)) (by intro hc; (simp only [AllT.iff, List.all_cons, List.all_nil, id, Bool.and_eq_true, Bool.not_eq_true', decide_eq_true_eq, decide_eq_false_iff_not, and_true] at hc; omega)) rfl) ?_
     refine zm rfl (zS rfl (q_lss rfl rfl rfl) (zS rfl (q_and2 rfl rfl rfl) (nP ?_)))
     refine cw_cond rfl (fun h2 => ?_) (fun h2 => ?_)
     · have h3 : k < bl.length ∧ (nth bl k).c < c.v := by simp at h2; omega
       refine sP (cw_block (cw_region (zm rfl ?_)))
       refine zS rfl (q_add rfl rfl rfl (by intro hc; omega)) ?_
       refine za rfl (sw_nil (post_blk ?_))
       exact post_next (k + 1) (by exact .cons rfl (.cons rfl (.cons rfl (.cons rfl (.cons rfl (.cons rfl (.cons rfl .nil))))))) (fun _ h => h) ⟨by omega, fun j hj => by
         rcases Nat.lt_or_ge j k with g | g
         · exact hkl j g
         · have : j = k := by omega
           subst this; exact h3.2⟩ (by omega)
     · refine cw_exit (post_then_x (post_then_x (post_blk_eq ?_)))
       exact post_meet k (by exact .cons rfl (.cons rfl (.cons rfl (.cons rfl (.cons rfl (.cons rfl (.cons rfl .nil))))))) (fun _ h => h) ⟨hk, hkl, fun g g2 => by simp [g, g2] at h2⟩
   rintro k ⟨hk, hkl, hkh⟩
   refine post_then (cw_seq (zr (zm rfl (zS rfl (q_fieldAddr rfl rfl) ?_))))
   refine zS rfl (q_loadC rfl rfl (by exact .tail _ (.tail _ (.head _))) rfl) ?_
   refine zS rfl (q_len rfl (.k rfl (.nil)) (rdO (by exact .head _))) ?_
   refine zS rfl (q_lss rfl rfl rfl) (zm rfl (zS rfl (q_fieldAddr rfl rfl) ?_))
   refine zS rfl (q_loadC rfl rfl (by exact .tail _ (.tail _ (.head _))) rfl) ?_
   refine zm rfl ?_
   refine zS rfl (q_indexN rfl rfl rfl (rdO (by exact .head _)) (by intro hc; (simp only [AllT.iff, List.all_cons, List.all_nil, id, Bool.and_eq_true, Bool.not_eq_true', decide_eq_true_eq, decide_eq_false_iff_not, and_true] at hc; omega))) ?_
   refine zS rfl (q_fieldEl rfl rfl (rdO (by exact .head _)) (by intro hc; (simp only [AllT.iff, List.all_cons, List.all_nil, id, Bool.and_eq_true, Bool.not_eq_true', decide_eq_true_eq, decide_eq_false_iff_not, and_true] at hc; omega))) ?_
   refine zS rfl (q_loadF rfl rfl rfl (rdO (by exact .head _)) (by intro hc; (simp only [AllT.iff, List.all_cons, List.all_nil, id, Bool.and_eq_true, Bool.not_eq_true', decide_eq_true_eq, decide_eq_false_iff_not, and_true] at hc; omega)) rfl) ?_
   refine zm rfl (zS rfl (q_eql rfl rfl rfl) (zS rfl (q_and2 rfl rfl rfl) (nP ?_)))
   refine cw_cond rfl (fun h2 => ?_) (fun h2 => ?_)
   · have h3 : k < bl.length ∧ (nth bl k).c = c.v := by simpa using h2
     have hin2 : c ∈ abcC (q.take i) := by
       have h4 : nth s k = c := rn_eq.2 (by rw [← hbc k (by omega)]; exact h3.2)
       rw [← h4, ← (sortR_perm _).mem_iff, hse]
       exact nth_mem (by omega)
     refine cw_exit (post_then_x (post_blk_eq (post_then (cw_region (zm rfl ?_)))))
     refine zS rfl (q_add rfl rfl rfl (by intro hc; omega)) ?_
     refine za rfl (sw_nil ?_)
     exact post_next (i + 1, so, bl) (by exact .cons rfl (.cons rfl (.cons rfl (.cons rfl (.cons rfl .nil))))) (fun _ h => h) ⟨by simp only; omega, by simp only; rw [htk, abc_snoc, insR_in hin2, hse]; exact hbl⟩ (by simp only; omega)
   · have h3 : k < bl.length → c.v < (nth bl k).c := fun g => by
       have := hkh g
       by_cases e : (nth bl k).c = c.v
       · simp [g, e] at h2
       · omega
     obtain ⟨hnew, hins⟩ := sort_ins (A := abcC (q.take i)) (c := c) (k := k) hse.symm (by omega) (fun j hj => by rw [← hbc j (by omega)]; exact hkl j hj) (fun g => by rw [← hbc k g]; exact h3 (by omega))
     refine sP (zr (za rfl (nP (cw_seq (cw_seq (cw_region (za rfl (sw_nil (post_then (cw_block ?_))))))))))
     refine cw_loop (S := Nat × SlV) (fun y => [(0, [], sv.v), (3, [], .pointer (some ⟨b3, 0, none⟩)), (4, [], .pointer (some ⟨b4, 0, none⟩)), (5, [], .pointer (some ⟨b5, 0, none⟩)), (6, [], .int .i64 i), (7, [], .int .i32 c.v), (8, [], .int .i64 k), (9, [], y.2.v), (10, [], .int .i64 y.1)]) (fun y => Cl w [] [ownL 58 y.2.v ((l.take y.1).filter fun e => decide (nth e.wl e.at_.toNat = c)), ownL 61 so.v bl, Sx.frz (fun w => ∀ L ∈ bl, LetIn L w), blk b5 [so.v] 45, blk b4 (enc (default : Bk)) 45, blk b3 (enc o) 40]) (fun y => y.1 ≤ l.length) (fun y => l.length - y.1) (0, ⟨none, 0, 0⟩) (Nat.zero_le _) (by exact .cons rfl (.cons rfl (.cons rfl (.cons rfl (.cons rfl (.cons rfl (.cons rfl (.cons rfl (.cons rfl .nil))))))))) (fun w' h => Cl.addNil (α := XR) 58 ((Cl.sel (by exact .take 0 rfl (.take 0 rfl (.take 0 rfl (.take 0 rfl (.take 0 rfl (.nil _))))))) _ h)) ?_
     rintro ⟨j, s9⟩ hj
     dsimp only at hj ⊢
     have z1 := List.length_filter_le (fun e : XR => decide (nth e.wl e.at_.toNat = c)) (l.take j)
     rw [List.length_take] at z1
     refine cw_seq (zr (zm rfl (zm rfl ?_)))
     refine zS rfl (q_len rfl (.k rfl (.nil)) (stA (by assumption))) ?_
     refine zS rfl (q_lss rfl rfl rfl) (nP ?_)
     refine cw_cond rfl (fun h4 => ?_) (fun h4 => ?_)
     · have hj' : j < l.length := by simp at h4; omega
       have hym := nth_mem hj'
       have hyo := hok _ hym
       have hy0 := hyo.at0
       have hy1 := hyo.in_
       have hyr : Stb w [] (RdL (nth l j).w.v (nth l j).wl) := stb_map hin fun _ h => (h _ hym).1
       have f1 : (l.take (j + 1)).filter (fun e : XR => decide (nth e.wl e.at_.toNat = c)) = (l.take j).filter (fun e : XR => decide (nth e.wl e.at_.toNat = c)) ++ if nth (nth l j).wl (nth l j).at_.toNat = c then [nth l j] else [] := by
         rw [List.take_succ_eq_append_getElem hj', ← nth_get hj', List.filter_append]
         congr 1
         by_cases g : nth (nth l j).wl (nth l j).at_.toNat = c <;> simp [g]
       obtain ⟨a2, hae2⟩ : ∃ a : Nat, (nth l j).at_ = a := ⟨(nth l j).at_.toNat, by omega⟩
       rw [hae2, Int.toNat_natCast] at f1
       refine sP (cw_seq (cw_block (cw_seq ?_)))
       refine cw_region_q mixed_Tryz (by kernel_rfl) ?_
       refine zw rfl (zw rfl ?_)
       refine zq rfl (q_indexN rfl rfl rfl (stA (by assumption)) (by intro hc; omega)) ?_
       refine zq rfl (q_fieldEl rfl rfl (stA (by assumption)) (by intro hc; omega)) ?_
       refine zq rfl (q_loadF rfl rfl rfl (stA (by assumption)) (by intro hc; omega) rfl) ?_
       refine zw rfl (zw rfl ?_)
       refine zq rfl (q_indexN rfl rfl rfl (stA (by assumption)) (by intro hc; omega)) ?_
       refine zq rfl (q_fieldEl rfl rfl (stA (by assumption)) (by intro hc; omega)) ?_
       refine zq rfl (q_loadF rfl rfl rfl (stA (by assumption)) (by intro hc; omega) rfl) ?_
       refine zq rfl (q_index rfl rfl rfl (stA (by assumption)) (by intro hc; omega)) ?_
       refine zq rfl (q_loadEl rfl rfl rfl (stA (by assumption)) (by intro hc; omega)) ?_
       refine zw rfl (zq rfl (q_eql rfl rfl rfl) (qw_end (post_then ?_)))
       refine cw_cond rfl (fun h5 => ?_) (fun h5 => ?_)
       · have h6 : nth (nth l j).wl a2 = c := rn_eq.2 (by simpa [hae2] using h5)
         rw [if_pos h6] at f1
         refine cw_region (zm rfl (zm rfl (zm rfl ?_)))
         refine zS rfl (q_indexN rfl rfl rfl (stA (by assumption)) (by intro hc; omega)) ?_
         refine zS rfl (q_loadEl rfl rfl rfl (stA (by assumption)) (by intro hc; omega)) ?_
         refine sw_x rfl rfl rfl (e_buildL (α := XR) (l := [nth l j]) rfl (.k rfl (.nil)) rfl rfl rfl rfl) (fun s87 => ?_)
         refine sw_x rfl rfl rfl (e_append (i := 1) rfl (.k rfl (.k rfl (.nil))) rfl rfl (rdO (by exact .head _)) (by first | omega | (simp only [List.length_set, List.length_append, List.length_cons, List.length_nil, List.length_replicate, List.length_take, List.length_drop, List.length_map]; omega)) rfl) (fun s88 => ?_)
         refine za rfl (sw_nil (post_blk (post_then (cw_region (zm rfl ?_)))))
         refine zS rfl (q_add rfl rfl rfl (by intro hc; omega)) ?_
         refine za rfl (sw_nil ?_)
         exact post_next (j + 1, s88) (by exact .cons rfl (.cons rfl (.cons rfl (.cons rfl (.cons rfl (.cons rfl (.cons rfl (.cons rfl (.cons rfl .nil))))))))) (fun w' h => by simp only; rw [f1]; exact (Cl.sel (by exact .take 1 rfl (.take 1 rfl (.take 1 rfl (.take 1 rfl (.take 1 rfl (.take 1 rfl (.nil _)))))))) _ h) (by simp only; omega) (by simp only; omega)
       · have h6 : ¬ nth (nth l j).wl a2 = c := fun e => by
           simp [hae2, e] at h5
         rw [if_neg h6, List.append_nil] at f1
         refine cw_skip (post_blk (post_then (cw_region (zm rfl ?_))))
         refine zS rfl (q_add rfl rfl rfl (by intro hc; omega)) ?_
         refine za rfl (sw_nil ?_)
         exact post_next (j + 1, s9) (by exact .cons rfl (.cons rfl (.cons rfl (.cons rfl (.cons rfl (.cons rfl (.cons rfl (.cons rfl (.cons rfl .nil))))))))) (fun w' h => by simp only; rw [f1]; exact (Cl.sel (by exact .take 0 rfl (.take 0 rfl (.take 0 rfl (.take 0 rfl (.take 0 rfl (.take 0 rfl (.nil _)))))))) _ h) (by simp only; omega) (by simp only; omega)
     · have hj' : j = l.length := by simp at h4; omega
       subst hj'
       rw [List.take_length] at z1 ⊢
       obtain ⟨own, hown⟩ : ∃ own, l.filter (fun e : XR => decide (nth e.wl e.at_.toNat = c)) = own := ⟨_, rfl⟩
       have hpl := own_xs l c
       rw [hown, hq] at hpl
       have hsub : ∀ e ∈ own, e ∈ l := fun e he => by rw [← hown] at he; exact (List.mem_filter.1 he).1
       rw [hown] at z1 ⊢
       have hlc := listC_pl hpl o
       refine cw_exit (post_then_x (post_then_x (post_blk_eq (post_then (zr (zm rfl (zm rfl ?_)))))))
       refine zS rfl (q_loadA rfl rfl (by exact .tail _ (.tail _ (.tail _ (.tail _ (.tail _ (.head _)))))) rfl) ?_
       refine sw_x rfl rfl rfl (e_call (CanCall.mk Tryz.call120) rfl (.k rfl (.k rfl (.nil))) (fun w1 hw => listR_spec s9 own o ho (by omega) (fun e he => hok e (hsub e he)) w1 (by exact stb_own hw (by exact .head _)) (stb_map (stb_arg hw hin) fun _ h u hu => h u (hsub u hu)))) (fun y => ?_)
       refine sw_imp fun hy => ?_
       obtain ⟨sy, cy⟩ := y
       rw [hlc] at hy
       dsimp only at hy ⊢
       refine zS rfl (q_build rfl (.k rfl (.k rfl (.nil))) rfl) ?_
       refine sw_x rfl rfl rfl (e_alloc rfl) (fun b11 => ?_)
       refine sw_eff0 rfl rfl (e_store (i := 0) rfl rfl rfl rfl rfl rfl rfl rfl) (nP ?_)
       refine cw_c (C' := Cl w [] [ownL 61 (SlV.v ⟨none, 0, 0⟩) ([] : List Let), blk b11 (enc (⟨c.v, sy, cy⟩ : Let)) 61, Sx.frz (fun w => RdL sy.v cy w ∧ ∀ u ∈ cy, ChcIn u w), ownL 61 so.v bl, Sx.frz (fun w => ∀ L ∈ bl, LetIn L w), blk b5 [so.v] 45, blk b4 (enc (default : Bk)) 45, blk b3 (enc o) 40]) (fun w' h => Cl.addNil (α := Let) 61 ((Cl.sel (by exact .take 0 rfl (.take 0 rfl (.take 1 rfl (.take 1 rfl (.take 1 rfl (.take 1 rfl (.take 1 rfl (.nil _))))))))) _ h)) ?_
       have hfinal : bkP (bl.take k ++ [⟨c.v, sy, cy⟩] ++ bl.drop k) = (sortR (abcC (q.take (i + 1)))).map (teachF q o) := by
         rw [htk, abc_snoc, insR_out hnew, hins]
         unfold bkP at hbl ⊢
         simp only [List.map_append, List.map_take, List.map_drop, hbl, List.map_cons, List.map_nil, hy]
         rfl
       have hmemo : ∀ (s106 : SlV) w', Cl w [] ([Sx.frz (fun w => RdL sy.v cy w ∧ ∀ u ∈ cy, ChcIn u w), Sx.frz (fun w => ∀ L ∈ bl, LetIn L w)] ++ [ownL 61 s106.v (bl.take k ++ [⟨c.v, sy, cy⟩] ++ bl.drop k), blk b5 [s106.v] 45, blk b4 (enc (default : Bk)) 45, blk b3 (enc o) 40]) w' → Cl w [] [ownL 61 s106.v (bl.take k ++ [⟨c.v, sy, cy⟩] ++ bl.drop k), Sx.frz (fun w => ∀ L ∈ bl.take k ++ [⟨c.v, sy, cy⟩] ++ bl.drop k, LetIn L w), blk b5 [s106.v] 45, blk b4 (enc (default : Bk)) 45, blk b3 (enc o) 40] w' := fun s106 w' h => by
         exact (Cl.sel (by exact .take 1 rfl (.take 0 rfl (.take 0 rfl (.take 0 rfl (.take 0 rfl (.nil _))))))) _ (Cl.frz (R := fun w => ∀ L ∈ bl.take k ++ [⟨c.v, sy, cy⟩] ++ bl.drop k, LetIn L w) h fun w bs ⟨_, _, _, k1, _, _, _, k2, _⟩ L hL => by
           rcases List.mem_append.1 hL with hL | hL
           · rcases List.mem_append.1 hL with hL | hL
             · exact frz_here k2 L (List.mem_of_mem_take hL)
             · simp at hL; subst hL; exact frz_here k1
           · exact frz_here k2 L (List.mem_of_mem_drop hL))
       refine cw_region_a (Cl w [] [blk b11 (enc (⟨c.v, sy, cy⟩ : Let)) 61, ownL 61 so.v bl, blk b5 [so.v] 45]) [14] mixed_Tryz ?_
       refine zk 0 (Cl.sel (by exact .take 1 rfl (.take 2 rfl (.take 3 rfl (.nil _))))) rfl (q_fieldAddr rfl rfl) ?_
       refine zk 1 (Cl.sel (by exact .take 1 rfl (.take 2 rfl (.take 3 rfl (.nil _))))) rfl (q_loadC rfl rfl (by exact .tail _ (.tail _ (.head _))) rfl) ?_
       refine zp 2 rfl (q_move rfl rfl) ?_
       refine zk 3 (Cl.sel (by exact .take 1 rfl (.take 2 rfl (.take 3 rfl (.nil _))))) rfl (q_sliceH rfl rfl rfl (rdO (by exact .tail _ (.head _))) (by intro hc; omega)) ?_
       refine zk 5 (Cl.sel (by exact .take 1 rfl (.take 2 rfl (.take 3 rfl (.nil _))))) rfl (q_loadA rfl rfl (by exact .head _) rfl) ?_
       refine zk 8 (Cl.sel (by exact .take 1 rfl (.take 2 rfl (.take 3 rfl (.nil _))))) rfl (q_fieldAddr rfl rfl) ?_
       refine zk 9 (Cl.sel (by exact .take 1 rfl (.take 2 rfl (.take 3 rfl (.nil _))))) rfl (q_loadC rfl rfl (by exact .tail _ (.tail _ (.head _))) rfl) ?_
       refine zp 10 rfl (q_move rfl rfl) ?_
       refine zk 11 (Cl.sel (by exact .take 1 rfl (.take 2 rfl (.take 3 rfl (.nil _))))) rfl (q_sliceL rfl rfl rfl (rdO (by exact .tail _ (.head _))) (by intro hc; omega)) ?_
       refine aw_two 4 6 (by kernel_rfl) ?_ ?_
       · refine at_x 4 rfl rfl rfl rfl (e_append (α := Let) (i := 0) (r := bl.take k) rfl (.k rfl (.k rfl (.nil))) rfl rfl (fun w1 h1 => by have := rd_sub (rd_own (e := 61) (l := bl) h1 (by exact .tail _ (.tail _ (.tail _ (.head _))))) (Nat.zero_le k) hk; rwa [List.drop_zero] at this) (by simp only [List.length_nil, List.length_take]; omega) rfl) (by intro hb; exact fun _ => (Cl.sel (by exact .take 1 rfl (.take 2 rfl (.take 3 rfl (.nil _)))))) (fun s98 => ?_)
         refine aw_x 6 (by kernel_rfl) rfl rfl rfl rfl (e_buildL (α := Let) (l := [⟨c.v, sy, cy⟩]) rfl (.k rfl (.nil)) rfl rfl rfl rfl) (by intro hb; exact fun _ => (Cl.sel (by exact .take 2 rfl (.take 3 rfl (.take 4 rfl (.nil _)))))) (fun s100 => ?_)
         refine aw_x 7 (by kernel_rfl) rfl rfl rfl rfl (e_append (α := Let) (i := 1) rfl (.k rfl (.k rfl (.nil))) rfl rfl (rdO (by exact .head _)) (by simp only [List.length_nil, List.length_take, List.length_append, List.length_cons]; omega) rfl) (by intro hb; exact fun _ => (Cl.sel (by exact .take 2 rfl (.take 3 rfl (.take 4 rfl (.nil _)))))) (fun s101 => ?_)
         refine aw_x 12 (by kernel_rfl) rfl rfl rfl rfl (e_append (α := Let) (i := 1) (r := bl.drop k) rfl (.k rfl (.k rfl (.nil))) rfl rfl (fun w1 h1 => by have := rd_sub (rd_own (e := 61) (l := bl) h1 (by exact .tail _ (.tail _ (.tail _ (.tail _ (.head _)))))) hk (Nat.le_refl _); rwa [List.take_length] at this) (by simp only [List.length_nil, List.length_take, List.length_append, List.length_cons, List.length_drop]; omega) rfl) (by intro hb; exact fun _ => (Cl.sel (by exact .take 2 rfl (.take 3 rfl (.take 4 rfl (.nil _)))))) (fun s106 => ?_)
         refine zk 13 (Cl.sel (by exact .take 2 rfl (.take 3 rfl (.take 4 rfl (.nil _))))) rfl (q_fieldAddr rfl rfl) ?_
         refine aw_one0 14 (by kernel_rfl) rfl rfl rfl (e_store (i := 6) rfl rfl rfl rfl rfl rfl rfl rfl) (by intro hb; (exact absurd hb (by decide))) ?_
         refine aw_end (by kernel_rfl) ?_
         refine post_blk (post_then (cw_region (zm rfl ?_)))
         refine zS rfl (q_add rfl rfl rfl (by intro hc; omega)) ?_
         refine za rfl (sw_nil ?_)
         refine post_next (i + 1, s106, bl.take k ++ [⟨c.v, sy, cy⟩] ++ bl.drop k) (by exact .cons rfl (.cons rfl (.cons rfl (.cons rfl (.cons rfl .nil))))) (fun w' h => hmemo s106 w' ((Cl.sel (by exact .take 3 rfl (.take 4 rfl (.take 1 rfl (.take 3 rfl (.take 3 rfl (.take 3 rfl (.nil _)))))))) _ h)) ⟨by simp only; omega, hfinal⟩ (by simp only; omega)
       · refine at_x 6 rfl rfl rfl rfl (e_buildL (α := Let) (l := [⟨c.v, sy, cy⟩]) rfl (.k rfl (.nil)) rfl rfl rfl rfl) (by intro hb; exact fun _ => (Cl.sel (by exact .take 2 rfl (.take 3 rfl (.take 4 rfl (.nil _)))))) (fun s100 => ?_)
         refine aw_x 4 (by kernel_rfl) rfl rfl rfl rfl (e_append (α := Let) (i := 1) (r := bl.take k) rfl (.k rfl (.k rfl (.nil))) rfl rfl (fun w1 h1 => by have := rd_sub (rd_own (e := 61) (l := bl) h1 (by exact .tail _ (.tail _ (.tail _ (.tail _ (.head _)))))) (Nat.zero_le k) hk; rwa [List.drop_zero] at this) (by simp only [List.length_nil, List.length_take]; omega) rfl) (by intro hb; exact fun _ => (Cl.sel (by exact .take 2 rfl (.take 3 rfl (.take 4 rfl (.nil _)))))) (fun s98 => ?_)
         refine aw_x 7 (by kernel_rfl) rfl rfl rfl rfl (e_append (α := Let) (i := 1) rfl (.k rfl (.k rfl (.nil))) rfl rfl (rdO (by exact .head _)) (by simp only [List.length_nil, List.length_take, List.length_append, List.length_cons]; omega) rfl) (by intro hb; exact fun _ => (Cl.sel (by exact .take 2 rfl (.take 3 rfl (.take 4 rfl (.nil _)))))) (fun s101 => ?_)
         refine aw_x 12 (by kernel_rfl) rfl rfl rfl rfl (e_append (α := Let) (i := 1) (r := bl.drop k) rfl (.k rfl (.k rfl (.nil))) rfl rfl (fun w1 h1 => by have := rd_sub (rd_own (e := 61) (l := bl) h1 (by exact .tail _ (.tail _ (.tail _ (.tail _ (.head _)))))) hk (Nat.le_refl _); rwa [List.take_length] at this) (by simp only [List.length_nil, List.length_take, List.length_append, List.length_cons, List.length_drop]; omega) rfl) (by intro hb; exact fun _ => (Cl.sel (by exact .take 2 rfl (.take 3 rfl (.take 4 rfl (.nil _)))))) (fun s106 => ?_)
         refine zk 13 (Cl.sel (by exact .take 2 rfl (.take 3 rfl (.take 4 rfl (.nil _))))) rfl (q_fieldAddr rfl rfl) ?_
         refine aw_one0 14 (by kernel_rfl) rfl rfl rfl (e_store (i := 6) rfl rfl rfl rfl rfl rfl rfl rfl) (by intro hb; (exact absurd hb (by decide))) ?_
         refine aw_end (by kernel_rfl) ?_
         refine post_blk (post_then (cw_region (zm rfl ?_)))
         refine zS rfl (q_add rfl rfl rfl (by intro hc; omega)) ?_
         refine za rfl (sw_nil ?_)
         refine post_next (i + 1, s106, bl.take k ++ [⟨c.v, sy, cy⟩] ++ bl.drop k) (by exact .cons rfl (.cons rfl (.cons rfl (.cons rfl (.cons rfl .nil))))) (fun w' h => hmemo s106 w' ((Cl.sel (by exact .take 3 rfl (.take 4 rfl (.take 1 rfl (.take 3 rfl (.take 3 rfl (.take 3 rfl (.nil _)))))))) _ h)) ⟨by simp only; omega, hfinal⟩ (by simp only; omega)
 · have hi' : i = l.length := by simp at h; omega
   have hs2 : s = sortR (abcC q) := by rw [← hse, hi', ← hql, List.take_length]
   subst hs2
   refine cw_exit (post_then_x (post_then_x (post_blk_eq (post_then (zr ?_)))))
   refine zS rfl (q_loadA rfl rfl (by exact .tail _ (.tail _ (.head _))) rfl) ?_
   refine sw_eff0 rfl rfl (e_store (i := 3) rfl rfl rfl rfl rfl rfl rfl rfl) (nP (cw_ret ?_))
   refine post_ret1 rfl (resOk_blk (x := (⟨so, bl⟩ : Bk)) rfl (by exact .tail _ (.tail _ (.tail _ (.head _)))) (by rfl)) ?_
   refine fun w' h => ⟨⟨so, bl⟩, rfl, hbl, ?_⟩
   have h1 : Cl w [] ([ownL 61 so.v bl, Sx.frz (fun w => ∀ L ∈ bl, LetIn L w)] ++ []) w' := (Cl.sel (by exact .take 0 rfl (.take 0 rfl (.nil _)))) _ h
   exact Cl.frz h1 fun w bs ⟨_, _, _, k1, _, _, _, k2, _⟩ => ⟨ownL.rd k1, frz_here k2⟩
end Go.Proofs.YtkmbliojafefdaaGreatDoor

set_option autoImplicit false
set_option maxRecDepth 100000
namespace Go.Proofs.YtkmbliojafefdaaGreatDoor
open Go.Sx
open Enc (enc val)
structure CdAt (t : List Cond) (m : Nat) : Prop where
 ok : condOk (nth t m) = true
 lt : 0 < m → (nth t (m - 1)).at_ < (nth t m).at_
structure ChAt (rl : List Chc) (j : Nat) : Prop where
 ph : phonesOk (nth rl j).pl 3 = true
 two : (nth rl j).tl.length ≤ 2
 emp : (nth rl j).tl.length = 0 ↔ j + 1 = rl.length
 cs : ∀ m, m < (nth rl j).tl.length → CdAt (nth rl j).tl m
structure LeAt (bl : List Let) (k : Nat) : Prop where
 c : possC (nth bl k).c = true
 lt : 0 < k → (nth bl (k - 1)).c < (nth bl k).c
 l1 : 1 ≤ (nth bl k).rl.length
 l2 : (nth bl k).rl.length ≤ 1000
 rs : ∀ j, j < (nth bl k).rl.length → ChAt (nth bl k).rl j
theorem tests_iff {t : List Cond} : testsOk t = true ↔ ∀ m, m < t.length → CdAt t m := by
 unfold testsOk
 simp only [Bool.and_eq_true, List.all_eq_true]
 constructor
 · intro ⟨h1, h2⟩ m hm
   exact ⟨h1 _ (nth_mem hm), fun h0 => by have := riseB_yes.1 h2 m (by omega) hm; omega⟩
 · intro h
   refine ⟨fun x hx => ?_, riseB_yes.2 fun m h1 h2 => by have := (h m h2).lt (by omega); omega⟩
   obtain ⟨m, hm, rfl⟩ := List.getElem_of_mem hx
   have := (h m hm).ok
   rwa [nth_get hm] at this
theorem chc_iff {rl : List Chc} {j : Nat} : chcOk (decide (j + 1 = rl.length)) (nth rl j) = true ↔ ChAt rl j := by
 unfold chcOk
 simp only [Bool.and_eq_true, beq_iff_eq, decide_eq_true_eq, decide_eq_decide]
 constructor
 · intro ⟨⟨⟨h1, h2⟩, h3⟩, h4⟩
   exact ⟨h4, h2, h1, tests_iff.1 h3⟩
 · intro h
   exact ⟨⟨⟨h.emp, h.two⟩, tests_iff.2 h.cs⟩, h.ph⟩
theorem book_iff {bl : List Let} : bookOk bl = true ↔ ∀ k, k < bl.length → LeAt bl k := by
 unfold bookOk
 simp only [Bool.and_eq_true, List.all_eq_true]
 have key : ∀ L : Let, letOk L = true ↔ possC L.c = true ∧ 1 ≤ L.rl.length ∧ L.rl.length ≤ 1000 ∧ ∀ j, j < L.rl.length → ChAt L.rl j := fun L => by
   unfold letOk
   simp only [Bool.and_eq_true, List.all_eq_true, decide_eq_true_eq, List.mem_range, chc_iff]
   exact ⟨fun h => ⟨h.1.1.1, h.1.1.2, h.1.2, h.2⟩, fun h => ⟨⟨⟨h.1, h.2.1⟩, h.2.2.1⟩, h.2.2.2⟩⟩
 constructor
 · intro ⟨h1, h2⟩ k hk
   obtain ⟨g1, g2, g3, g4⟩ := (key _).1 (h2 _ (nth_mem hk))
   exact ⟨g1, fun h0 => by have := riseB_yes.1 h1 k (by omega) hk; rw [sgn_neg] at this; omega, g2, g3, g4⟩
 · intro h
   refine ⟨riseB_yes.2 fun k h1 h2 => by rw [sgn_neg]; have := (h k h2).lt (by omega); omega, fun L hL => ?_⟩
   obtain ⟨k, hk, rfl⟩ := List.getElem_of_mem hL
   rw [key, ← nth_get hk]
   have := h k hk
   exact ⟨this.c, this.l1, this.l2, this.rs⟩
end Go.Proofs.YtkmbliojafefdaaGreatDoor

set_option autoImplicit false
set_option maxRecDepth 100000
namespace Go.Proofs.YtkmbliojafefdaaGreatDoor
open Go.Sx
open Enc (enc val)
theorem nth_mapL {α β : Type} [Inhabited α] [Inhabited β] (f : α → β) {l : List α} {k : Nat} (hk : k < l.length) : nth (l.map f) k = f (nth l k) := by
 have h1 : k < (l.map f).length := by simpa using hk
 rw [nth_get h1, nth_get hk, List.getElem_map]
structure EvOk (x : Rn × XP) : Prop where
 c : possC x.1.v = true
 ws : ∀ c ∈ x.2.1, possC c.v = true
 ph : phonesOk x.2.2.2 3 = true
structure XlOk (e : XL) : Prop where
 ws : ∀ c ∈ e.wl, possC c.v = true
 ph : phonesOk e.pl 3 = true
theorem look_ok {e : XL} (h : XlOk e) (i : Int) : (decide (lookC e.wl i = 0) || possC (lookC e.wl i)) = true := by
 unfold lookC
 split
 · simp
 · rename_i h1
   have h2 : i.toNat < e.wl.length := by omega
   rw [h.ws _ (nth_mem h2)]; simp
theorem cand_tests {e : XL} {r : Int} {t : TT} (he : XlOk e) (hr : 1 ≤ r ∧ r ≤ 3) (h : CandOk e r t) : testsOk t.list = true ∧ 1 ≤ t.list.length ∧ t.list.length ≤ 2 := by
 have hb := h.b1
 have kk : ∀ a c : Int, -r ≤ a ∧ a ≤ r ∧ a ≠ 0 → c = lookC e.wl (e.at_ + a) → condOk ⟨a, c⟩ = true := fun a c g1 g2 => by
   show (decide (a ≠ 0) && decide (-3 ≤ a) && decide (a ≤ 3) && (decide (c = 0) || possC c)) = true
   rw [g2, look_ok he, Bool.and_true]
   simp only [Bool.and_eq_true, decide_eq_true_eq]
   omega
 have k1 := kk _ _ hb h.c1
 unfold TT.list
 rcases h.sh with ⟨u1, u2⟩ | ⟨u1, u2, u3, u4⟩
 · rw [if_pos u1]
   refine ⟨tests_iff.2 fun m hm => ?_, by simp, by simp⟩
   have : m = 0 := by simp at hm; omega
   subst this
   exact ⟨k1, fun h => by omega⟩
 · rw [if_neg u1]
   have k2 := kk t.a2 t.c2 (by omega) u4
   refine ⟨tests_iff.2 fun m hm => ?_, by simp, by simp⟩
   have : m = 0 ∨ m = 1 := by simp at hm; omega
   rcases this with rfl | rfl
   · exact ⟨k1, fun h => by omega⟩
   · exact ⟨k2, fun _ => u2⟩
theorem most_ok {l : List XL} (h : ∀ e ∈ l, XlOk e) : phonesOk (mostC l).b 3 = true := by
 rcases most_in l with e | ⟨e, he, h2⟩
 · rw [e]; rfl
 · rw [h2]; exact (h e he).ph
structure RuOk (u : List Cond × List ByteArray) : Prop where
 ts : testsOk u.1 = true
 l1 : 1 ≤ u.1.length
 l2 : u.1.length ≤ 2
 ph : phonesOk u.2 3 = true
theorem listF_ok {o : Lrn} (ho : LrnOk o) : ∀ (n : Nat) (lf : List XL) (out : List (List Cond × List ByteArray)), (∀ e ∈ lf, XlOk e) → (∀ u ∈ out, RuOk u) → (out.length : Int) ≤ o.most → (∀ e ∈ (listF o n lf out).1, XlOk e) ∧ (∀ u ∈ (listF o n lf out).2, RuOk u) ∧ ((listF o n lf out).2.length : Int) ≤ o.most
 | 0, lf, out, h1, h2, h3 => ⟨h1, h2, h3⟩
 | n + 1, lf, out, h1, h2, h3 => by
   unfold listF
   split
   · rename_i hc
     split
     · exact ⟨h1, h2, h3⟩
     · cases hb : bestC lf o.reach o.least with
       | none => exact ⟨h1, h2, h3⟩
       | some u =>
         obtain ⟨e, he, t, ht, rfl, _⟩ := best_is hb
         have h4 := cand_tests (h1 e he) ho.reach (cands_ok ho.reach.1 ht)
         refine listF_ok ho n _ _ (fun e he => h1 e (List.mem_filter.1 he).1) (fun u hu => ?_) (by simp only [List.length_append, List.length_cons, List.length_nil]; omega)
         rcases List.mem_append.1 hu with hu | hu
         · exact h2 u hu
         · simp at hu; subst hu
           exact ⟨h4.1, h4.2.1, h4.2.2, most_ok fun e he => h1 e (List.mem_filter.1 he).1⟩
   · exact ⟨h1, h2, h3⟩
theorem listC_ok {o : Lrn} (ho : LrnOk o) {l : List XL} (h : ∀ e ∈ l, XlOk e) : ∃ R b, listC l o = R ++ [([], b)] ∧ (∀ u ∈ R, RuOk u) ∧ (R.length : Int) ≤ o.most ∧ phonesOk b 3 = true := by
 have hm := ho.most
 obtain ⟨h1, h2, h3⟩ := listF_ok ho (l.length + 1) l [] h (fun u hu => by simp at hu) (by simp; omega)
 refine ⟨_, _, rfl, h2, h3, most_ok fun e he => ?_⟩
 split at he
 · exact h e he
 · exact h1 e he
theorem xs_ok {q : List (Rn × XP)} (hq : ∀ x ∈ q, EvOk x) (c : Rn) : ∀ e ∈ (xsC q c).map toXL, XlOk e := by
 intro e he
 obtain ⟨x, hx, rfl⟩ := List.mem_map.1 he
 unfold xsC at hx
 obtain ⟨y, hy, rfl⟩ := List.mem_map.1 hx
 have := hq y (List.mem_filter.1 hy).1
 exact ⟨this.ws, this.ph⟩
theorem abc_ok {q : List (Rn × XP)} (hq : ∀ x ∈ q, EvOk x) {c : Rn} (h : c ∈ sortR (abcC q)) : possC c.v = true := by
 rw [(sortR_perm _).mem_iff, abc_mem] at h
 obtain ⟨y, hy⟩ := List.exists_mem_of_ne_nil _ h
 unfold xsC at hy
 obtain ⟨z, hz, rfl⟩ := List.mem_map.1 hy
 obtain ⟨h1, h2⟩ := List.mem_filter.1 hz
 have h3 := (hq z h1).c
 have h4 : z.1 = c := by simpa using h2
 rw [← h4]; exact h3
theorem abc_lt (q : List (Rn × XP)) : (sortR (abcC q)).Pairwise fun x y => x.v < y.v := by
 have h1 := sortR_asc (abcC q)
 have h2 : (sortR (abcC q)).Nodup := (sortR_perm _).nodup_iff.2 (abc_nodup q)
 refine (h1.and h2).imp fun {x y} ⟨h3, h4⟩ => ?_
 have : x.v ≠ y.v := fun h => h4 (rn_eq.2 h)
 omega
def teachP (q : List (Rn × XP)) (o : Lrn) : List (Int × List (List Cond × List ByteArray)) := (sortR (abcC q)).map fun c => (c.v, listC ((xsC q c).map toXL) o)
theorem book_of {bl : List Let} {q : List (Rn × XP)} {o : Lrn} (ho : LrnOk o) (hq : ∀ x ∈ q, EvOk x) (hb : bkP bl = teachP q o) : bookOk bl = true := by
 have hm := ho.most
 obtain ⟨S, hS⟩ : ∃ S, sortR (abcC q) = S := ⟨_, rfl⟩
 have hlt := abc_lt q
 have hlen : bl.length = S.length := by
   have := congrArg List.length hb
   unfold bkP teachP at this
   rw [List.length_map, List.length_map, hS] at this
   exact this
 have hat : ∀ k, k < bl.length → (nth bl k).c = (nth S k).v ∧ ((nth bl k).rl.map fun u => (u.tl, u.pl)) = listC ((xsC q (nth S k)).map toXL) o := fun k hk => by
   have h1 := congrArg (fun x => x[k]?) hb
   unfold bkP teachP at h1
   rw [hS] at h1
   have hk2 : k < S.length := by omega
   simp only [List.getElem?_map, List.getElem?_eq_getElem hk, List.getElem?_eq_getElem hk2, Option.map_some, Option.some.injEq, Prod.mk.injEq] at h1
   rw [nth_get hk, nth_get hk2]
   exact h1
 rw [hS] at hlt
 refine book_iff.2 fun k hk => ?_
 have hk2 : k < S.length := by omega
 obtain ⟨h1, h2⟩ := hat k hk
 obtain ⟨R, b, g1, g2, g3, g4⟩ := listC_ok ho (xs_ok hq (nth S k))
 rw [g1] at h2
 have hrl : (nth bl k).rl.length = R.length + 1 := by
   have := congrArg List.length h2
   simpa using this
 have hru : ∀ j, j < (nth bl k).rl.length → ((nth (nth bl k).rl j).tl, (nth (nth bl k).rl j).pl) = nth (R ++ [([], b)]) j := fun j hj => by
   rw [← h2, nth_mapL _ hj]
 refine ⟨?_, fun h0 => ?_, by omega, by omega, fun j hj => ?_⟩
 · rw [h1]; exact abc_ok hq (by rw [hS]; exact nth_mem hk2)
 · have h3 := (hat (k - 1) (by omega)).1
   rw [h1, h3, nth_get hk2, nth_get (by omega : k - 1 < S.length)]
   exact List.pairwise_iff_getElem.1 hlt (k - 1) k (by omega) hk2 (by omega)
 · have h3 := hru j hj
   by_cases hj2 : j < R.length
   · have h4 : nth (R ++ [([], b)]) j = nth R j := by
       rw [nth_get (by simp; omega), nth_get hj2, List.getElem_append_left hj2]
     have h5 := g2 _ (nth_mem hj2)
     rw [h4] at h3
     have e1 := congrArg Prod.fst h3
     have e2 := congrArg Prod.snd h3
     dsimp only at e1 e2
     exact ⟨by rw [e2]; exact h5.ph, by rw [e1]; exact h5.l2, by rw [e1]; have := h5.l1; omega, by rw [e1]; exact tests_iff.1 h5.ts⟩
   · have hj3 : j = R.length := by omega
     subst hj3
     have h4 : nth (R ++ [([], b)]) R.length = ([], b) := by
       rw [nth_get (by simp)]; simp
     rw [h4] at h3
     have e1 := congrArg Prod.fst h3
     have e2 := congrArg Prod.snd h3
     dsimp only at e1 e2
     exact ⟨by rw [e2]; exact g4, by rw [e1]; simp, by rw [e1, hrl]; simp, fun m hm => by rw [e1] at hm; simp at hm⟩
def evU (p : List Pr) (u : Sp) : List (Rn × XP) := if alOk p u.word u.pl then evOf (u.word, alP p u.word u.pl) else []
theorem ent_ev (p : List Pr) (l : List Sp) : (entC p l).flatMap evOf = l.flatMap (evU p) := by
 unfold entC
 induction l with
 | nil => rfl
 | cons u l ih =>
   rw [List.flatMap_cons, List.filter_cons]
   unfold evU at *
   by_cases h : alOk p u.word u.pl = true
   · rw [if_pos h, if_pos h, List.map_cons, List.flatMap_cons, ih]
   · rw [if_neg h, if_neg h, ih]; rfl
theorem evOf_len2 (u : ByteArray × List (List ByteArray)) : (evOf u).length = (runes u.1).length := by unfold evOf; simp
theorem prOk_ph {y : Pr} (h : prOk y = true) : phonesOk y.pl 3 = true := by
 unfold prOk at h
 simp only [Bool.and_eq_true] at h
 exact h.1.1.2
theorem evU_ok {p : List Pr} {u : Sp} (hp : ∀ y ∈ p, prOk y = true) (hu : wordOk u.word = true) : ∀ x ∈ evU p u, EvOk x := by
 intro x hx
 unfold evU at hx
 split at hx
 · rename_i h1
   have hw : ∀ c ∈ runes u.word, possC c.v = true := by
     unfold wordOk at hu
     simp only [Bool.and_eq_true, List.all_eq_true] at hu
     exact hu.1.2
   unfold evOf at hx
   obtain ⟨i, hi, rfl⟩ := List.mem_map.1 hx
   rw [List.mem_range] at hi
   have h4 : 0 ≤ leastC p (runes u.word) u.pl := by unfold alOk at h1; simpa using h1
   have h5 := path_ok h4
   have h6 : alP p u.word u.pl = pathC p (runes u.word) u.pl := by unfold alP; rw [if_pos h1]
   have h7 : nth (alP p u.word u.pl) i ∈ pathC p (runes u.word) u.pl := by
     rw [h6]; exact nth_mem (by rw [h5.1]; exact hi)
   obtain ⟨y, hy, h8⟩ := h5.2 _ h7
   exact ⟨hw _ (nth_mem hi), hw, by
     show phonesOk (nth (alP p u.word u.pl) i) 3 = true
     rw [h8]; exact prOk_ph (hp y hy)⟩
 · simp at hx
theorem evs_ok {p : List Pr} {l : List Sp} (hp : ∀ y ∈ p, prOk y = true) (hl : ∀ u ∈ l, wordOk u.word = true) : ∀ x ∈ (entC p l).flatMap evOf, EvOk x := by
 rw [ent_ev]
 intro x hx
 obtain ⟨u, hu, hx⟩ := List.mem_flatMap.1 hx
 exact evU_ok hp (hl u hu) x hx
theorem lexE_zero2 {l : List Sp} (h : lexE l = 0) : l.length ≤ 3000 ∧ ∀ u ∈ l, wordOk u.word = true ∧ phonesOk u.pl 120 = true := by
 unfold lexE at h
 split at h
 · cases h
 · split at h
   · rename_i h1 h2
     simp only [Bool.and_eq_true, List.all_eq_true] at h2
     refine ⟨by omega, fun u hu => ?_⟩
     have := h2.2 u hu
     unfold spOk at this
     simpa using this
   · cases h
end Go.Proofs.YtkmbliojafefdaaGreatDoor

set_option autoImplicit false
set_option maxRecDepth 100000
namespace Go.Proofs.YtkmbliojafefdaaGreatDoor
open Go.Sx
open Enc (enc val)
end Go.Proofs.YtkmbliojafefdaaGreatDoor

set_option autoImplicit false
set_option maxRecDepth 100000
namespace Go.Proofs.YtkmbliojafefdaaGreatDoor
open Go.Sx
open Enc (enc val)
theorem mt_at {bl : List Let} (hr : riseB (fun x y : Let => sgn (x.c - y.c)) bl = true) {c : Int} {k : Nat} (hk : k < bl.length) (hc : (nth bl k).c = c) : mtB bl c = true ∧ mtL bl c = nth bl k := by
 have h1 : mtK bl c = k := by
   unfold mtK
   refine lowB_at (by omega) (fun i hi => ?_) fun _ => ?_
   · have := let_asc hr i k hi hk
     simp only [sgn_neg]; omega
   · simp only [sgn_neg]; omega
 have h2 : mtB bl c = true := by
   unfold mtB; rw [h1, decide_eq_true_eq]
   exact ⟨hk, by rw [sgn_zero]; omega⟩
 exact ⟨h2, by unfold mtL; rw [h2, h1]; rfl⟩
theorem mt_no {bl : List Let} {c : Int} (h : ∀ j, j < bl.length → (nth bl j).c ≠ c) : mtB bl c = false := by
 cases hx : mtB bl c with
 | false => rfl
 | true =>
   exfalso
   unfold mtB at hx
   simp only [decide_eq_true_eq, sgn_zero] at hx
   exact h _ hx.1 (by omega)
theorem rule_no {bl : List Let} {ws : List Rn} {i : Nat} (h : ∀ j, j < bl.length → (nth bl j).c ≠ (nth ws i).v) : ruleN bl ws i = -1 ∧ ruleX bl ws i = default := by
 have := mt_no h
 unfold ruleN ruleX
 rw [this]; exact ⟨rfl, rfl⟩
theorem rule_at {bl : List Let} (hr : riseB (fun x y : Let => sgn (x.c - y.c)) bl = true) {ws : List Rn} {i k j : Nat} (hk : k < bl.length) (hc : (nth bl k).c = (nth ws i).v) (hj : j < (nth bl k).rl.length) (h0 : ∀ m, m < j → holdsC ws i (nth (nth bl k).rl m).tl = false) (h1 : holdsC ws i (nth (nth bl k).rl j).tl = true) : ruleN bl ws i = j ∧ ruleX bl ws i = nth (nth bl k).rl j := by
 obtain ⟨h2, h3⟩ := mt_at hr hk hc
 have h4 : mtI bl ws i = j := by
   unfold mtI
   rw [h2, h3]
   exact idxP_at (p := fun r : Chc => holdsC ws i r.tl) hj h0 h1
 unfold ruleN ruleX
 rw [h2, h4, h3]
 exact ⟨rfl, rfl⟩
theorem refRule_spec (b : Bk) (sw : SlV) (ws : List Rn) (i : Nat) (hi : i < ws.length) (hl : ws.length ≤ 1000000) (hg : BGood b.bl) (w : World) (hb : Stb w [] (BkIn b)) (hs : Stb w [] (RdL sw.v ws)) : Calls Tryz.prog 81 #[val b, sw.v, .int .i64 i] w fun e w' => e = .returned (.tuple #[.int .i64 (ruleN b.bl ws i), (ruleX b.bl ws i).p.v]) ∧ Cl w [] [] w' := by
 have hB := rd_stb hb.here.1
 have hL := rd_len hB.here
 have hLw := rd_len hs.here
 refine calls_cw (vs := [_, _, _]) Tryz.func81 rfl Tryz.ntmps81 rfl (Cl.start0 w) (zr ?_)
 refine sw_x rfl rfl rfl (e_box rfl rfl rfl) (fun b3 => ?_)
 refine za rfl (za rfl (nP (cw_seq (zr (za rfl (sw_nil (post_then (cw_block ?_))))))))
 refine cw_loop (S := Nat) (fun k => [(1, [], sw.v), (2, [], .int .i64 i), (3, [], .pointer (some ⟨b3, 0, none⟩)), (8, [], .int .i64 k)]) (fun _ => Cl w [] [blk b3 [b.b.v] 45]) (fun k => k ≤ b.bl.length ∧ ∀ j, j < k → (nth b.bl j).c ≠ (nth ws i).v) (fun k => b.bl.length - k) 0 ⟨by omega, fun j hj => by omega⟩ (by exact .cons rfl (.cons rfl (.cons rfl (.cons rfl .nil)))) (Cl.sel (by exact .take 0 rfl (.nil _))) ?_
 rintro k ⟨hk, hbe⟩
 refine cw_seq (zr (zm rfl (zS rfl (q_fieldAddr rfl rfl) ?_)))
 refine zS rfl (q_loadC rfl rfl (by exact .head _) rfl) ?_
 refine zS rfl (q_len rfl (.k rfl (.nil)) (stA (by assumption))) ?_
 refine zS rfl (q_lss rfl rfl rfl) (nP ?_)
 refine cw_cond rfl (fun h => ?_) (fun h => ?_)
 · have hk' : k < b.bl.length := by simp at h; omega
   refine sP (cw_seq (cw_block (cw_seq (cw_seq ?_))))
   refine cw_region_q mixed_Tryz (by kernel_rfl) ?_
   refine zq rfl (q_fieldAddr rfl rfl) ?_
   refine zq rfl (q_loadC rfl rfl (by exact .head _) rfl) ?_
   refine zw rfl ?_
   refine zq rfl (q_indexN rfl rfl rfl (stA (by assumption)) (by intro hc; omega)) ?_
   refine zq rfl (q_fieldEl rfl rfl (stA (by assumption)) (by intro hc; omega)) ?_
   refine zq rfl (q_loadF rfl rfl rfl (stA (by assumption)) (by intro hc; omega) rfl) ?_
   refine zw rfl (zw rfl ?_)
   refine zq rfl (q_indexN rfl rfl rfl (stA (by assumption)) (by intro hc; omega)) ?_
   refine zq rfl (q_loadF rfl rfl rfl (stA (by assumption)) (by intro hc; omega) rfl) ?_
   refine zq rfl (q_neq rfl rfl rfl) (qw_end (post_then ?_))
   refine cw_cond rfl (fun h2 => ?_) (fun h2 => ?_)
   · have h3 : (nth b.bl k).c ≠ (nth ws i).v := by simpa using h2
     refine cw_exit (post_then_x (post_blk_eq (post_then (cw_region (zm rfl ?_)))))
     refine zS rfl (q_add rfl rfl rfl (by intro hc; omega)) ?_
     refine za rfl (sw_nil ?_)
     exact post_next (k + 1) (by exact .cons rfl (.cons rfl (.cons rfl (.cons rfl .nil)))) (Cl.sel (by exact .take 0 rfl (.nil _))) ⟨by omega, fun j hj => by
       rcases Nat.lt_or_ge j k with h6 | h6
       · exact hbe j h6
       · have : j = k := by omega
         subst this; exact h3⟩ (by omega)
   · have hc : (nth b.bl k).c = (nth ws i).v := by simpa using h2
     have hLi := hb.here.2 _ (nth_mem hk')
     have hR := rd_stb hLi.1
     have hRl := rd_len hR.here
     refine sP (zr (za rfl (nP (cw_block ?_))))
     refine cw_loop (S := Nat) (fun j => [(1, [], sw.v), (2, [], .int .i64 i), (3, [], .pointer (some ⟨b3, 0, none⟩)), (8, [], .int .i64 k), (9, [], .int .i64 j)]) (fun _ => Cl w [] [blk b3 [b.b.v] 45]) (fun j => j ≤ (nth b.bl k).rl.length ∧ ∀ m, m < j → holdsC ws i (nth (nth b.bl k).rl m).tl = false) (fun j => (nth b.bl k).rl.length - j) 0 ⟨by omega, fun j hj => by omega⟩ (by exact .cons rfl (.cons rfl (.cons rfl (.cons rfl (.cons rfl .nil))))) (Cl.sel (by exact .take 0 rfl (.nil _))) ?_
     rintro j ⟨hj, hbj⟩
     refine cw_seq (zr (zm rfl (zS rfl (q_fieldAddr rfl rfl) ?_)))
     refine zS rfl (q_loadC rfl rfl (by exact .head _) rfl) ?_
     refine zm rfl ?_
     refine zS rfl (q_indexN rfl rfl rfl (stA (by assumption)) (by intro hc; omega)) ?_
     refine zS rfl (q_fieldEl rfl rfl (stA (by assumption)) (by intro hc; omega)) ?_
     refine zS rfl (q_loadF rfl rfl rfl (stA (by assumption)) (by intro hc; omega) rfl) ?_
     refine zS rfl (q_len rfl (.k rfl (.nil)) (stA (by assumption))) ?_
     refine zS rfl (q_lss rfl rfl rfl) (nP ?_)
     refine cw_cond rfl (fun h4 => ?_) (fun h4 => ?_)
     · have hj' : j < (nth b.bl k).rl.length := by simp at h4; omega
       have hC := hLi.2 _ (nth_mem hj')
       have hC1 := rd_stb hC.1
       have hir := hg.inr _ (nth_mem hk') _ (nth_mem hj')
       have hx : 0 ≤ (i : Int) ∧ (i : Int) ≤ 1000000 := by omega
       have hra := fun h0 h1 => rule_at hg.rise (ws := ws) (i := i) hk' hc hj' h0 h1
       obtain ⟨r, hr⟩ : ∃ r, nth (nth b.bl k).rl j = r := ⟨_, rfl⟩
       rw [hr] at hC1 hir hra
       refine sP (cw_seq (cw_block (zr (zS rfl (q_fieldAddr rfl rfl) ?_))))
       refine zS rfl (q_loadC rfl rfl (by exact .head _) rfl) ?_
       refine zm rfl ?_
       refine zS rfl (q_indexN rfl rfl rfl (stA (by assumption)) (by intro hc; omega)) ?_
       refine zS rfl (q_fieldEl rfl rfl (stA (by assumption)) (by intro hc; omega)) ?_
       refine zS rfl (q_loadF rfl rfl rfl (stA (by assumption)) (by intro hc; omega) rfl) ?_
       refine zm rfl ?_
       refine zS rfl (q_indexN rfl rfl rfl (stA (by assumption)) (by intro hc; omega)) ?_
       refine zS rfl (q_loadEl rfl rfl rfl (stA (by assumption)) (by intro hc; omega)) ?_
       rw [hr]
       refine sw_x rfl rfl rfl (e_alloc rfl) (fun b10 => ?_)
       refine sw_eff0 rfl rfl (e_store (i := 0) rfl rfl rfl rfl rfl rfl rfl rfl) (nP (zr (zS rfl (q_fieldAddr rfl rfl) ?_)))
       refine zS rfl (q_loadC rfl rfl (by exact .head _) rfl) ?_
       refine zm rfl (zm rfl (zS rfl (q_build rfl (.k rfl (.k rfl (.nil))) rfl) ?_))
       refine sw_step rfl rfl rfl (q_call (CanCall.mk Tryz.call35) rfl (.k rfl (.k rfl (.nil))) (fun _ w1 hw => callq hw (holdsR_spec _ r.tl ⟨sw, (i : Int), ⟨none, 0, 0⟩, ws, []⟩ hx (fun c hc => by have := hir c hc; unfold CondB; omega) w1 (stb_arg hw hC1) (stb_arg hw hs)))) ?_
       refine nP ?_
       refine cw_cond rfl (fun h5 => ?_) (fun h5 => ?_)
       · obtain ⟨e1, e2⟩ := hra hbj h5
         refine cw_seq ?_
         refine cw_region_q mixed_Tryz (by kernel_rfl) ?_
         refine zw rfl (zq rfl (q_fieldAddr rfl rfl) ?_)
         refine zq rfl (q_loadC rfl rfl (by exact .head _) rfl) ?_
         refine zq rfl (q_assign rfl rfl) (zq rfl (q_assign rfl rfl) (qw_end (post_then (cw_ret (post_blk_r (post_then_r (post_then_r (post_blk_r (post_blk_r (post_then_r (post_then_r (post_blk_r (post_then_r (post_ret2 rfl (resOk_tmp rfl) (resOk_tmp rfl) ?_))))))))))))))
         exact fun w' hw => ⟨by rw [e1, e2], (Cl.sel (by exact .nil _)) _ hw⟩
       · have e1 : holdsC ws i r.tl = false := by simpa using h5
         refine cw_skip (post_blk (post_then (cw_region (zm rfl ?_))))
         refine zS rfl (q_add rfl rfl rfl (by intro hc; omega)) ?_
         refine za rfl (sw_nil ?_)
         exact post_next (j + 1) (by exact .cons rfl (.cons rfl (.cons rfl (.cons rfl (.cons rfl .nil))))) (Cl.sel (by exact .take 1 rfl (.nil _))) ⟨by omega, fun m hm => by
           rcases Nat.lt_or_ge m j with h6 | h6
           · exact hbj m h6
           · have : m = j := by omega
             subst this; rw [hr]; exact e1⟩ (by omega)
     · exfalso
       have hj' : j = (nth b.bl k).rl.length := by simp at h4; omega
       obtain ⟨r, h5, h6⟩ := hg.last _ (nth_mem hk')
       obtain ⟨m, hm, rfl⟩ := List.getElem_of_mem h5
       have := hbj m (by omega)
       rw [nth_get hm, h6] at this
       simp [holdsC] at this
 · have hk' : k = b.bl.length := by simp at h; omega
   subst hk'
   obtain ⟨e1, e2⟩ := rule_no hbe
   refine cw_exit (post_then_x (post_then_x (post_blk_eq (post_then (zr (za rfl (za rfl (nP (cw_ret (post_ret2 rfl (resOk_tmp rfl) (resOk_tmp rfl) ?_))))))))))
   exact fun w' hw => ⟨by rw [e1, e2]; rfl, (Cl.sel (by exact .nil _)) _ hw⟩
end Go.Proofs.YtkmbliojafefdaaGreatDoor

set_option autoImplicit false
set_option maxRecDepth 100000
namespace Go.Proofs.YtkmbliojafefdaaGreatDoor
open Go.Sx
open Enc (enc val)
end Go.Proofs.YtkmbliojafefdaaGreatDoor
