import Derived.Test.YtkmbliojafefdaaGreatDoorWD6
import Derived.Laws.Concat
import Derived.Test.YtkmbliojafefdaaGreatDoorRows
import Derived.LaidMore
import Derived.Lay
import Derived.Stop.Joined
import Derived.Test.YtkmbliojafefdaaGreatDoorVFewest1

set_option autoImplicit false
set_option linter.unusedSimpArgs false
set_option linter.unusedVariables false
set_option maxRecDepth 100000
namespace Go.Proofs.YtkmbliojafefdaaGreatDoor
open Go.Sx
open Enc (enc val)
structure FgAt (a : List Fgn) (k : Nat) : Prop where
  ph : phonesOk [(nth a k).phone] 1 = true
  lt : 0 < k → sLt (nth a (k - 1)).phone (nth a k).phone = true
  l1 : 1 ≤ (nth a k).sl.length
  l5 : (nth a k).sl.length ≤ 5
  st : ∀ j, j < (nth a k).sl.length → phonesOk (nth (nth a k).sl j) 3 = true
theorem lt_asym {x y : ByteArray} (h : sLt y x = true) : sLt x y = false ∧ ¬ x = y := by
  refine ⟨?_, fun e => ?_⟩
  · cases h2 : sLt x y with
    | false => rfl
    | true => have := sLt_trans h h2; rw [sLt_irr] at this; cases this
  · subst e; rw [sLt_irr] at h; cases h
theorem lt_of {x y : ByteArray} (h : sLt x y = false ∧ ¬ x = y) : sLt y x = true := by
  rcases sLt_tri x y with h1 | h1 | h1
  · rw [h1] at h; cases h.1
  · exact absurd h1 h.2
  · exact h1
end Go.Proofs.YtkmbliojafefdaaGreatDoor

set_option autoImplicit false
set_option maxRecDepth 100000
namespace Go.Proofs.YtkmbliojafefdaaGreatDoor
open Go.Sx
open Enc (enc val)
theorem all_no {α : Type} [Inhabited α] {p : α → Bool} {l : List α} {k : Nat} (hk : k < l.length) (h : p (nth l k) = false) : l.all p = false := by
  rw [List.all_eq_false]; exact ⟨_, nth_mem hk, by simp [h]⟩
theorem all_yes {α : Type} [Inhabited α] {p : α → Bool} {l : List α} (h : ∀ k, k < l.length → p (nth l k) = true) : l.all p = true := by
  rw [List.all_eq_true]
  intro x hx
  obtain ⟨k, hk, rfl⟩ := List.getElem_of_mem hx
  have := h k hk
  rwa [nth_get hk] at this
end Go.Proofs.YtkmbliojafefdaaGreatDoor

set_option autoImplicit false
set_option maxRecDepth 100000
namespace Go.Proofs.YtkmbliojafefdaaGreatDoor
open Go.Sx
open Enc (enc val)
def lawLex (l : List Sp) (most : Int) : Bool := !(decide (most < l.length) && decide (l.length ≤ 3000) || decide (3500 < l.length)) && l.all fun u => decide (u.word.size ≤ 60) && lawPh u.pl 130
theorem lawLex_spec (sv : Value) (l : List Sp) (most : Int) (hz : ∀ u ∈ l, u.word.size ≤ 9223372036854775807) (w : World) (hs : Stb w [] (RdL sv l)) (hp : Stb w [] fun w' => ∀ u ∈ l, SpIn u w') : Calls Tryz.prog 27 #[sv, .int .i64 most] w fun e w' => e = .returned (.bool (lawLex l most)) ∧ Cl w [] [] w' := by
  have hL := rd_len hs.here
  refine calls_cw (vs := [_, _]) Tryz.func27 rfl Tryz.ntmps27 rfl (Cl.start0 w) (cw_seq (cw_region (sr rfl rfl rfl ((q_assign rfl rfl)) (sw_nil (post_then (cw_seq (cw_seq (cw_region (sr rfl rfl rfl ((q_move rfl rfl)) ?_)))))))))
  refine sr rfl rfl rfl ((q_len rfl (.cons rfl inferInstance (.nil)) (by exact fun w hw => Stb.cl (by assumption) hw))) ?_
  refine sr rfl rfl rfl ((q_move rfl rfl)) (sr rfl rfl rfl ((q_gtr rfl rfl rfl)) (sr rfl rfl rfl ((q_move rfl rfl)) (sr rfl rfl rfl ((q_move rfl rfl)) ?_)))
  refine sr rfl rfl rfl ((q_len rfl (.cons rfl inferInstance (.nil)) (by exact fun w hw => Stb.cl (by assumption) hw))) ?_
  refine sr rfl rfl rfl ((q_leq rfl rfl rfl)) (sr rfl rfl rfl ((q_and2 rfl rfl rfl)) (sr rfl rfl rfl ((q_move rfl rfl)) (sr rfl rfl rfl ((q_move rfl rfl)) ?_)))
  refine sr rfl rfl rfl ((q_len rfl (.cons rfl inferInstance (.nil)) (by exact fun w hw => Stb.cl (by assumption) hw))) ?_
  refine sr rfl rfl rfl ((q_gtr rfl rfl rfl)) (sr rfl rfl rfl ((q_or2 rfl rfl rfl)) (sw_nil (post_then ?_)))
  refine cw_cond rfl (fun h => ?_) (fun h => ?_)
  · skip
    have e1 : lawLex l most = false := by
      unfold lawLex
      simp at h
      rcases h with h | h
      · rw [decide_eq_true (by omega : most < l.length), decide_eq_true (by omega : l.length ≤ 3000)]; simp
      · rw [decide_eq_true (by omega : 3500 < l.length)]; simp
    refine cw_seq (cw_region (sr rfl rfl rfl ((q_assign rfl rfl)) (sw_nil (post_then (cw_ret (post_then_r (post_ret1 rfl (resOk_tmp rfl) ?_)))))))
    exact fun w' hw => ⟨by rw [e1], (fun w h => Cl.sel (by exact .nil _) w h) _ hw⟩
  · skip
    have e0 : (!(decide (most < l.length) && decide (l.length ≤ 3000) || decide (3500 < l.length))) = true := by
      simp at h
      simp; omega
    refine cw_skip (post_then (cw_seq (cw_seq (cw_region (sr rfl rfl rfl ((q_assign rfl rfl)) (sw_nil (post_then (cw_block ?_))))))))
    refine cw_loop (S := Nat) (fun k => [(0, [], sv), (5, [], .int .i64 k)]) (fun _ => Cl w [] []) (fun k => k ≤ l.length ∧ ∀ i, i < k → (decide ((nth l i).word.size ≤ 60) && lawPh (nth l i).pl 130) = true) (fun k => l.length - k) 0 ⟨by omega, fun j hj => by omega⟩ (by exact .cons rfl (.cons rfl .nil)) (fun w h => Cl.sel (by exact .nil _) w h) ?_
    rintro k ⟨hk, hbe⟩
    refine cw_seq (cw_seq (cw_region (sr rfl rfl rfl ((q_move rfl rfl)) (sr rfl rfl rfl ((q_move rfl rfl)) ?_))))
    refine sr rfl rfl rfl ((q_len rfl (.cons rfl inferInstance (.nil)) (by exact fun w hw => Stb.cl (by assumption) hw))) ?_
    refine sr rfl rfl rfl ((q_lss rfl rfl rfl)) (sw_nil (post_then ?_))
    refine cw_cond rfl (fun h2 => ?_) (fun h2 => ?_)
    · skip
      have hk' : k < l.length := by simp at h2; omega
      have hx := rd_stb (hp.here _ (nth_mem hk'))
      have hzk := hz _ (nth_mem hk')
      refine cw_skip (post_then (cw_seq (cw_block (cw_seq (cw_region (sr rfl rfl rfl ((q_move rfl rfl)) (sr rfl rfl rfl ((q_move rfl rfl)) ?_)))))))
      refine sr rfl rfl rfl ((q_indexN rfl rfl rfl (by exact fun w hw => Stb.cl (by assumption) hw) (by intro hc; omega))) ?_
      refine sr rfl rfl rfl ((q_fieldEl rfl rfl (by exact fun w hw => Stb.cl (by assumption) hw) (by intro hc; omega))) ?_
      refine sr rfl rfl rfl ((q_loadF rfl rfl rfl (by exact fun w hw => Stb.cl (by assumption) hw) (by intro hc; omega) rfl)) ?_
      refine sr rfl rfl rfl ((q_lenS rfl (.cons rfl inferInstance (.nil)) Tryz.underlying9)) (sr rfl rfl rfl ((q_gtr rfl rfl rfl)) (sr rfl rfl rfl ((q_move rfl rfl)) (sr rfl rfl rfl ((q_move rfl rfl)) (sr rfl rfl rfl ((q_move rfl rfl)) ?_))))
      refine sr rfl rfl rfl ((q_indexN rfl rfl rfl (by exact fun w hw => Stb.cl (by assumption) hw) (by intro hc; omega))) ?_
      refine sr rfl rfl rfl ((q_fieldEl rfl rfl (by exact fun w hw => Stb.cl (by assumption) hw) (by intro hc; omega))) ?_
      refine sr rfl rfl rfl ((q_loadF rfl rfl rfl (by exact fun w hw => Stb.cl (by assumption) hw) (by intro hc; omega) rfl)) ?_
      refine sw_step rfl rfl rfl (q_call (CanCall.mk Tryz.call18) rfl (.cons rfl inferInstance (.cons rfl inferInstance (.nil))) (fun _ w hw => callq hw (lawPhones_spec _ _ _ (by omega) w (by exact stb_arg hw (by assumption))))) ?_
      refine sr rfl rfl rfl ((q_not rfl rfl)) (sr rfl rfl rfl ((q_or2 rfl rfl rfl)) (sw_nil (post_then ?_)))
      refine cw_cond rfl (fun h3 => ?_) (fun h3 => ?_)
      · skip
        have e1 : lawLex l most = false := by
          unfold lawLex
          rw [all_no hk' (by
            cases q1 : lawPh (nth l k).pl 130 <;> simp [q1] at h3 ⊢; omega)]
          simp
        refine cw_seq (cw_region (sr rfl rfl rfl ((q_assign rfl rfl)) (sw_nil (post_then (cw_ret (post_blk_r (post_then_r (post_then_r (post_blk_r (post_then_r (post_ret1 rfl (resOk_tmp rfl) ?_)))))))))))
        exact fun w' hw => ⟨by rw [e1], (fun w h => Cl.sel (by exact .nil _) w h) _ hw⟩
      · skip
        have e1 : (decide ((nth l k).word.size ≤ 60) && lawPh (nth l k).pl 130) = true := by
          cases q1 : lawPh (nth l k).pl 130 <;> simp [q1] at h3 ⊢; omega
        refine cw_skip (post_blk (post_then (cw_region (sr rfl rfl rfl ((q_move rfl rfl)) ?_))))
        refine sr rfl rfl rfl ((q_add rfl rfl rfl (by intro hc; omega))) ?_
        refine sr rfl rfl rfl ((q_assign rfl rfl)) (sw_nil ?_)
        exact post_next (k + 1) (by exact .cons rfl (.cons rfl .nil)) (fun w h => Cl.sel (by exact .nil _) w h) ⟨by omega, fun i hi => by
          rcases Nat.lt_or_ge i k with h6 | h6
          · exact hbe i h6
          · have : i = k := by omega
            subst this; exact e1⟩ (by omega)
    · skip
      have hk' : k = l.length := by simp at h2; omega
      subst hk'
      have e1 : lawLex l most = true := by unfold lawLex; rw [all_yes hbe, e0]; rfl
      refine cw_exit (post_then_x (post_then_x (post_blk_eq (post_then (cw_seq (cw_region (sr rfl rfl rfl ((q_assign rfl rfl)) (sw_nil (post_then (cw_ret (post_ret1 rfl (resOk_tmp rfl) ?_)))))))))))
      exact fun w' hw => ⟨by rw [e1], (fun w h => Cl.sel (by exact .nil _) w h) _ hw⟩
theorem lawLex_z {l : List Sp} {most : Int} (h : lawLex l most = true) : ∀ u ∈ l, u.word.size ≤ 60 ∧ u.pl.length ≤ 130 ∧ ∀ b ∈ u.pl, b.size ≤ 12 := fun u hu => by
  unfold lawLex lawPh at h
  simp only [Bool.and_eq_true, List.all_eq_true, decide_eq_true_eq] at h
  have := h.2 u hu
  exact ⟨this.1, by omega, this.2.2⟩
structure PrAt (p : List Pr) (k : Nat) : Prop where
  ok : prOk (nth p k) = true
  lt : 0 < k → (nth p (k - 1)).c < (nth p k).c ∨ (nth p (k - 1)).c = (nth p k).c ∧ ordL (nth p (k - 1)).pl (nth p k).pl < 0
def lexOk (l : List Sp) : Bool := riseB spC l && l.all spOk
structure SpAt (l : List Sp) (k : Nat) : Prop where
  ok : spOk (nth l k) = true
  lt : 0 < k → sLt (nth l (k - 1)).word (nth l k).word = true
theorem lex_iff {l : List Sp} : lexOk l = true ↔ ∀ k, k < l.length → SpAt l k := by
  unfold lexOk
  simp only [Bool.and_eq_true, List.all_eq_true]
  constructor
  · intro ⟨h1, h2⟩ k hk
    exact ⟨h2 _ (nth_mem hk), fun h0 => cmpS_neg.1 (riseB_yes.1 h1 k (by omega) hk)⟩
  · intro h
    refine ⟨riseB_yes.2 fun k h1 h2 => cmpS_neg.2 ((h k h2).lt (by omega)), fun L hL => ?_⟩
    obtain ⟨k, hk, rfl⟩ := List.getElem_of_mem hL
    rw [← nth_get hk]
    exact (h k hk).ok
theorem refLexicon_spec (sv : Value) (l : List Sp) (hz : ∀ u ∈ l, u.word.size ≤ 1000 ∧ ∀ b ∈ u.pl, b.size ≤ 9223372036854775807) (w : World) (hT : Stb w [] Tab) (hs : Stb w [] (RdL sv l)) (hp : Stb w [] fun w' => ∀ u ∈ l, SpIn u w') : Calls Tryz.prog 51 #[sv] w fun e w' => e = .returned (.bool (lexOk l)) ∧ Cl w [] [] w' := by
  have hL := rd_len hs.here
  refine calls_cw (vs := [_]) Tryz.func51 rfl Tryz.ntmps51 rfl (Cl.start0 w) (cw_seq (cw_region (sr rfl rfl rfl ((q_assign rfl rfl)) (sw_nil (post_then (cw_seq (cw_seq (cw_region (sr rfl rfl rfl ((q_assign rfl rfl)) (sw_nil (post_then (cw_block ?_))))))))))))
  refine cw_loop (S := Nat) (fun k => [(0, [], sv), (3, [], .int .i64 k)]) (fun _ => Cl w [] []) (fun k => k ≤ l.length ∧ ∀ j, j < k → SpAt l j) (fun k => l.length - k) 0 ⟨by omega, fun j hj => by omega⟩ (by exact .cons rfl (.cons rfl .nil)) (fun w h => Cl.sel (by exact .nil _) w h) ?_
  rintro k ⟨hk, hbe⟩
  refine cw_seq (cw_seq (cw_region (sr rfl rfl rfl ((q_move rfl rfl)) (sr rfl rfl rfl ((q_move rfl rfl)) ?_))))
  refine sr rfl rfl rfl ((q_len rfl (.cons rfl inferInstance (.nil)) (by exact fun w hw => Stb.cl (by assumption) hw))) ?_
  refine sr rfl rfl rfl ((q_lss rfl rfl rfl)) (sw_nil (post_then ?_))
  refine cw_cond rfl (fun h => ?_) (fun h => ?_)
  · skip
    have hk' : k < l.length := by simp at h; omega
    have hno : ¬ SpAt l k → lexOk l = false := fun hn => by
      cases hx : lexOk l with
      | false => rfl
      | true => exact absurd (lex_iff.1 hx k hk') hn
    have e1 : 0 < k → ((k : Int) - 1).toNat = k - 1 := fun h0 => by omega
    have hx := rd_stb (hp.here _ (nth_mem hk'))
    obtain ⟨hzw, hzk⟩ := hz _ (nth_mem hk')
    refine cw_skip (post_then (cw_seq (cw_block (cw_seq (cw_region (sr rfl rfl rfl ((q_move rfl rfl)) (sr rfl rfl rfl ((q_move rfl rfl)) ?_)))))))
    refine sr rfl rfl rfl ((q_indexN rfl rfl rfl (by exact fun w hw => Stb.cl (by assumption) hw) (by intro hc; omega))) ?_
    refine sr rfl rfl rfl ((q_fieldEl rfl rfl (by exact fun w hw => Stb.cl (by assumption) hw) (by intro hc; omega))) ?_
    refine sr rfl rfl rfl ((q_loadF rfl rfl rfl (by exact fun w hw => Stb.cl (by assumption) hw) (by intro hc; omega) rfl)) ?_
    refine sw_x rfl rfl rfl (e_call (CanCall.mk Tryz.call21) rfl (.cons rfl inferInstance (.nil)) (fun w hw => refLetters_spec _ w (by omega) (stb_arg hw (by assumption)))) (fun x18 => ?_)
    refine sw_imp (fun hx18 => ?_)
    refine sr rfl rfl rfl ((q_move rfl rfl)) (sr rfl rfl rfl ((q_extract rfl rfl rfl)) (sr rfl rfl rfl ((q_extract rfl rfl rfl)) (sr rfl rfl rfl ((q_assign rfl rfl)) (sr rfl rfl rfl ((q_assign rfl rfl)) (sw_nil (post_then (cw_seq ?_)))))))
    refine cw_region_q mixed_Tryz (by kernel_rfl) ?_
    refine qr rfl rfl rfl ((q_move rfl rfl)) (qr rfl rfl rfl ((q_not rfl rfl)) (qr rfl rfl rfl ((q_move rfl rfl)) (qr rfl rfl rfl ((q_move rfl rfl)) (qr rfl rfl rfl ((q_move rfl rfl)) ?_))))
    refine qr rfl rfl rfl ((q_indexN rfl rfl rfl (by exact fun w hw => Stb.cl (by assumption) hw) (by intro hc; omega))) ?_
    refine qr rfl rfl rfl ((q_fieldEl rfl rfl (by exact fun w hw => Stb.cl (by assumption) hw) (by intro hc; omega))) ?_
    refine qr rfl rfl rfl ((q_loadF rfl rfl rfl (by exact fun w hw => Stb.cl (by assumption) hw) (by intro hc; omega) rfl)) ?_
    refine qw_step rfl rfl rfl (q_call (CanCall.mk Tryz.call23) rfl (.cons rfl inferInstance (.cons rfl inferInstance (.nil))) (fun _ w hw => callq hw (refPhones_spec _ _ _ w (by exact stb_arg hw (by assumption)) (by assumption)))) ?_
    refine qr rfl rfl rfl ((q_not rfl rfl)) (qr rfl rfl rfl ((q_or2 rfl rfl rfl)) (qr rfl rfl rfl ((q_move rfl rfl)) (qr rfl rfl rfl ((q_move rfl rfl)) (qr rfl rfl rfl ((q_gtr rfl rfl rfl)) (qr rfl rfl rfl ((q_move rfl rfl)) (qr rfl rfl rfl ((q_move rfl rfl)) (qr rfl rfl rfl ((q_move rfl rfl)) ?_)))))))
    refine qr rfl rfl rfl ((q_indexN rfl rfl rfl (by exact fun w hw => Stb.cl (by assumption) hw) (by intro hc; omega))) ?_
    refine qr rfl rfl rfl ((q_fieldEl rfl rfl (by exact fun w hw => Stb.cl (by assumption) hw) (by intro hc; omega))) ?_
    refine qr rfl rfl rfl ((q_loadF rfl rfl rfl (by exact fun w hw => Stb.cl (by assumption) hw) (by intro hc; omega) rfl)) ?_
    refine qr rfl rfl rfl ((q_move rfl rfl)) (qr rfl rfl rfl ((q_move rfl rfl)) ?_)
    refine qr rfl rfl rfl ((q_sub rfl rfl rfl (by intro hc; omega))) ?_
    refine qr rfl rfl rfl ((q_index rfl rfl rfl (by exact fun w hw => Stb.cl (by assumption) hw) (by intro hc; (simp only [AllT.iff, List.all_cons, List.all_nil, id, Bool.and_eq_true, Bool.not_eq_true', decide_eq_true_eq, decide_eq_false_iff_not, and_true] at hc; omega)))) ?_
    refine qr rfl rfl rfl ((q_fieldEl rfl rfl (by exact fun w hw => Stb.cl (by assumption) hw) (by intro hc; omega))) ?_
    refine qr rfl rfl rfl ((q_loadF rfl rfl rfl (by exact fun w hw => Stb.cl (by assumption) hw) (by intro hc; omega) rfl)) ?_
    refine qr rfl rfl rfl ((q_leqStr rfl rfl rfl Tryz.underlying9)) (qr rfl rfl rfl ((q_and2 rfl rfl rfl)) (qr rfl rfl rfl ((q_or2 rfl rfl rfl)) (qw_end (post_then ?_))))
    refine cw_cond rfl (fun h2 => ?_) (fun h2 => ?_)
    · skip
      have hf : lexOk l = false := hno fun hh => by
        have f1 := hh.ok
        unfold spOk at f1
        simp only [Bool.and_eq_true] at f1
        by_cases hk0 : 0 < k
        · have f2 := hh.lt hk0
          rw [e1 hk0] at h2
          have f6 := lt_asym f2
          simp [f1, f6, hk0] at h2
        · have hk1 : k = 0 := by omega
          subst hk1
          simp [f1] at h2
      refine cw_seq (cw_region (sr rfl rfl rfl ((q_assign rfl rfl)) (sw_nil (post_then (cw_ret (post_blk_r (post_then_r (post_then_r (post_blk_r (post_then_r (post_ret1 rfl (resOk_tmp rfl) ?_)))))))))))
      exact fun w' hw => ⟨by rw [hf], (fun w h => Cl.sel (by exact .nil _) w h) _ hw⟩
    · skip
      have h9 : SpAt l k := by
        by_cases hk0 : 0 < k
        · rw [e1 hk0] at h2
          simp [hk0] at h2
          exact ⟨by unfold spOk; rw [h2.1.1, h2.1.2]; rfl, fun _ => lt_of h2.2⟩
        · have hk1 : k = 0 := by omega
          subst hk1
          simp at h2
          exact ⟨by unfold spOk; rw [h2.1, h2.2]; rfl, fun _ => by omega⟩
      refine cw_skip (post_blk (post_then (cw_region (sr rfl rfl rfl ((q_move rfl rfl)) ?_))))
      refine sr rfl rfl rfl ((q_add rfl rfl rfl (by intro hc; omega))) ?_
      refine sr rfl rfl rfl ((q_assign rfl rfl)) (sw_nil ?_)
      exact post_next (k + 1) (by exact .cons rfl (.cons rfl .nil)) (fun w h => Cl.sel (by exact .nil _) w h) ⟨by omega, fun i hi => by
        rcases Nat.lt_or_ge i k with h6 | h6
        · exact hbe i h6
        · have : i = k := by omega
          subst this; exact h9⟩ (by omega)
  · skip
    have hk' : k = l.length := by simp at h; omega
    subst hk'
    have hf : lexOk l = true := lex_iff.2 hbe
    refine cw_exit (post_then_x (post_then_x (post_blk_eq (post_then (cw_seq (cw_region (sr rfl rfl rfl ((q_assign rfl rfl)) (sw_nil (post_then (cw_ret (post_ret1 rfl (resOk_tmp rfl) ?_)))))))))))
    exact fun w' hw => ⟨by rw [hf], (fun w h => Cl.sel (by exact .nil _) w h) _ hw⟩
end Go.Proofs.YtkmbliojafefdaaGreatDoor

set_option autoImplicit false
set_option linter.unusedSectionVars false
namespace Go.Proofs.YtkmbliojafefdaaGreatDoor
section
variable (ok : Nat → Nat → Bool) (n : Nat)
/-- The least 1 + f k for an entry from i to k, k from i + 1 to i + c; -1: none. -/
def bestK (f : Nat → Int) (i : Nat) : Nat → Int
  | 0 => -1
  | c + 1 => if ok i (i + (c + 1)) = true ∧ 0 ≤ f (i + (c + 1)) ∧ (bestK f i c < 0 ∨ 1 + f (i + (c + 1)) < bestK f i c) then 1 + f (i + (c + 1)) else bestK f i c
/-- The least numbers of parts from n - q on, one behind the other. -/
def partsT : Nat → List Int
  | 0 => [0]
  | q + 1 => bestK ok (fun k => ((partsT q)[k - (n - q)]?).getD 0) (n - (q + 1)) (q + 1) :: partsT q
def partsD (i : Nat) : Int := ((partsT ok n (n - i))[0]?).getD 0
variable {ok n}
theorem partsT_at : ∀ {q j : Nat}, q ≤ n → j ≤ q → ((partsT ok n q)[j]?).getD 0 = partsD ok n (n - q + j)
  | 0, j, hq, hj => by
    have : j = 0 := by omega
    subst this
    unfold partsD
    rw [show n - (n - 0 + 0) = 0 by omega]
  | q + 1, 0, hq, hj => by
    unfold partsD
    rw [show n - (n - (q + 1) + 0) = q + 1 by omega]
  | q + 1, j + 1, hq, hj => by
    have := partsT_at (q := q) (j := j) (by omega) (by omega)
    rw [show n - (q + 1) + (j + 1) = n - q + j by omega, ← this]
    simp [partsT]
theorem partsD_end : partsD ok n n = 0 := by unfold partsD; rw [Nat.sub_self]; rfl
theorem bestK_congr {f g : Nat → Int} {i : Nat} : ∀ {c : Nat}, (∀ k, i < k → k ≤ i + c → f k = g k) → bestK ok f i c = bestK ok g i c
  | 0, _ => rfl
  | c + 1, h => by
    have h1 := bestK_congr (f := f) (g := g) (c := c) fun k a b => h k a (by omega)
    unfold bestK
    rw [h1, h (i + (c + 1)) (by omega) (by omega)]
theorem partsD_step {i : Nat} (h : i < n) : partsD ok n i = bestK ok (partsD ok n) i (n - i) := by
  obtain ⟨q, hq⟩ : ∃ q, n - i = q + 1 := ⟨n - i - 1, by omega⟩
  have hi : i = n - (q + 1) := by omega
  unfold partsD
  rw [hq]
  rw [partsT]
  simp only [List.getElem?_cons_zero, Option.getD_some]
  rw [← hi]
  refine bestK_congr fun k a b => ?_
  have := partsT_at (ok := ok) (n := n) (q := q) (j := k - (n - q)) (by omega) (by omega)
  rw [show n - q + (k - (n - q)) = k by omega] at this
  exact this
/-- What bestK is. -/
theorem bestK_spec {f : Nat → Int} {i : Nat} : ∀ c, (bestK ok f i c = -1 ∧ ∀ k, i < k → k ≤ i + c → ok i k = true → f k < 0) ∨ ∃ k, i < k ∧ k ≤ i + c ∧ ok i k = true ∧ 0 ≤ f k ∧ bestK ok f i c = 1 + f k ∧ ∀ k', i < k' → k' ≤ i + c → ok i k' = true → 0 ≤ f k' → bestK ok f i c ≤ 1 + f k'
  | 0 => .inl ⟨rfl, fun k a b => by omega⟩
  | c + 1 => by
    unfold bestK
    split
    · rename_i h
      refine .inr ⟨i + (c + 1), by omega, Nat.le_refl _, h.1, h.2.1, rfl, fun k' a b h2 h3 => ?_⟩
      rcases Nat.lt_or_ge k' (i + (c + 1)) with h4 | h4
      · rcases bestK_spec (f := f) (i := i) c with ⟨h5, h6⟩ | ⟨k, h5, h6, h7, h8, h9, h10⟩
        · have := h6 k' a (by omega) h2; omega
        · have := h10 k' a (by omega) h2 h3; omega
      · have : k' = i + (c + 1) := by omega
        subst this; exact Int.le_refl _
    · rename_i h
      rcases bestK_spec (f := f) (i := i) c with ⟨h5, h6⟩ | ⟨k, h5, h6, h7, h8, h9, h10⟩
      · refine .inl ⟨h5, fun k a b h2 => ?_⟩
        rcases Nat.lt_or_ge k (i + (c + 1)) with h4 | h4
        · exact h6 k a (by omega) h2
        · have : k = i + (c + 1) := by omega
          subst this
          rcases Int.lt_or_le (f (i + (c + 1))) 0 with h7 | h7
          · exact h7
          · exact absurd ⟨h2, h7, .inl (by omega)⟩ h
      · refine .inr ⟨k, h5, by omega, h7, h8, h9, fun k' a b h2 h3 => ?_⟩
        rcases Nat.lt_or_ge k' (i + (c + 1)) with h4 | h4
        · exact h10 k' a (by omega) h2 h3
        · have : k' = i + (c + 1) := by omega
          subst this
          rcases Int.lt_or_le (1 + f (i + (c + 1))) (bestK ok f i c) with h11 | h11
          · exact absurd ⟨h2, h3, .inr h11⟩ h
          · exact h11
variable (ok) in
/-- The program's way: from lim down; the least number (0: none) and the end of the first part. -/
def bestD (f : Nat → Int) (i lim : Nat) : Nat → Int × Nat
  | 0 => (0, 0)
  | c + 1 => if ok i (lim - c) = true ∧ 0 ≤ f (lim - c) ∧ ((bestD f i lim c).1 = 0 ∨ 1 + f (lim - c) < (bestD f i lim c).1) then (1 + f (lim - c), lim - c) else bestD f i lim c
theorem bestD_spec {f : Nat → Int} {i lim : Nat} : ∀ c, c + i ≤ lim → (bestD ok f i lim c = (0, 0) ∧ ∀ k, lim - c < k → k ≤ lim → ok i k = true → f k < 0) ∨ ∃ k, lim - c < k ∧ k ≤ lim ∧ ok i k = true ∧ 0 ≤ f k ∧ bestD ok f i lim c = (1 + f k, k) ∧ (∀ k', lim - c < k' → k' ≤ lim → ok i k' = true → 0 ≤ f k' → 1 + f k ≤ 1 + f k') ∧ ∀ k', k < k' → k' ≤ lim → ok i k' = true → 0 ≤ f k' → 1 + f k < 1 + f k'
  | 0, _ => .inl ⟨rfl, fun k a b => by omega⟩
  | c + 1, hc => by
    have ih := bestD_spec (f := f) (i := i) (lim := lim) c (by omega)
    unfold bestD
    split
    · rename_i h
      refine .inr ⟨lim - c, by omega, by omega, h.1, h.2.1, rfl, fun k' a b h2 h3 => ?_, fun k' a b h2 h3 => ?_⟩
      · rcases Nat.lt_or_ge (lim - c) k' with h4 | h4
        · rcases ih with ⟨h5, h6⟩ | ⟨k, h5, h6, h7, h8, h9, h10, h11⟩
          · have := h6 k' h4 b h2; omega
          · have := h10 k' h4 b h2 h3
            rw [h9] at h
            simp only at h
            omega
        · have : k' = lim - c := by omega
          subst this; exact Int.le_refl _
      · rcases ih with ⟨h5, h6⟩ | ⟨k, h5, h6, h7, h8, h9, h10, h11⟩
        · have := h6 k' a b h2; omega
        · have := h10 k' a b h2 h3
          rw [h9] at h
          simp only at h
          omega
    · rename_i h
      rcases ih with ⟨h5, h6⟩ | ⟨k, h5, h6, h7, h8, h9, h10, h11⟩
      · refine .inl ⟨h5, fun k a b h2 => ?_⟩
        rcases Nat.lt_or_ge (lim - c) k with h4 | h4
        · exact h6 k h4 b h2
        · have : k = lim - c := by omega
          subst this
          rcases Int.lt_or_le (f (lim - c)) 0 with h7 | h7
          · exact h7
          · exact absurd ⟨h2, h7, .inl (by rw [h5])⟩ h
      · refine .inr ⟨k, by omega, h6, h7, h8, h9, fun k' a b h2 h3 => ?_, h11⟩
        rcases Nat.lt_or_ge (lim - c) k' with h4 | h4
        · exact h10 k' h4 b h2 h3
        · have : k' = lim - c := by omega
          subst this
          rcases Int.lt_or_le (1 + f (lim - c)) (1 + f k) with h12 | h12
          · exact absurd ⟨h2, h3, .inr (by rw [h9]; exact h12)⟩ h
          · exact h12
/-- The same number both ways. -/
theorem best_same {f : Nat → Int} {i c : Nat} : (bestD ok f i (i + c) c).1 = (if bestK ok f i c < 0 then 0 else bestK ok f i c) ∧ (0 ≤ bestK ok f i c → i < (bestD ok f i (i + c) c).2 ∧ (bestD ok f i (i + c) c).2 ≤ i + c ∧ ok i (bestD ok f i (i + c) c).2 = true ∧ 0 ≤ f (bestD ok f i (i + c) c).2 ∧ 1 + f (bestD ok f i (i + c) c).2 = bestK ok f i c ∧ ∀ k', (bestD ok f i (i + c) c).2 < k' → k' ≤ i + c → ok i k' = true → 0 ≤ f k' → bestK ok f i c < 1 + f k') := by
  have hd := bestD_spec (ok := ok) (f := f) (i := i) (lim := i + c) c (by omega)
  have hk := bestK_spec (ok := ok) (f := f) (i := i) c
  rw [show i + c - c = i by omega] at hd
  rcases hd with ⟨h1, h2⟩ | ⟨k, h1, h2, h3, h4, h5, h6, h7⟩
  · rcases hk with ⟨g1, g2⟩ | ⟨k, g1, g2, g3, g4, g5, g6⟩
    · rw [h1, g1]
      exact ⟨rfl, fun h => absurd h (by decide)⟩
    · have := h2 k g1 g2 g3; omega
  · rcases hk with ⟨g1, g2⟩ | ⟨k2, g1, g2, g3, g4, g5, g6⟩
    · have := g2 k h1 h2 h3; omega
    · have a1 := g6 k h1 h2 h3 h4
      have a2 := h6 k2 g1 g2 g3 g4
      have a3 : bestK ok f i c = 1 + f k := by omega
      rw [h5, if_neg (by omega), a3]
      exact ⟨rfl, fun _ => ⟨h1, h2, h3, h4, rfl, h7⟩⟩
theorem bestK_bd {f : Nat → Int} {i : Nat} {B : Int} {c : Nat} (hB : 0 ≤ B) (h : ∀ k, i < k → k ≤ i + c → f k ≤ B) : -1 ≤ bestK ok f i c ∧ bestK ok f i c ≤ 1 + B := by
  rcases bestK_spec (ok := ok) (f := f) (i := i) c with ⟨g1, g2⟩ | ⟨k, g1, g2, g3, g4, g5, g6⟩
  · omega
  · have := h k g1 g2; omega
theorem partsD_bd : ∀ {q i : Nat}, i ≤ n → n - i ≤ q → -1 ≤ partsD ok n i ∧ partsD ok n i ≤ ((n - i : Nat) : Int)
  | q, i, hi, hq => by
    induction q generalizing i with
    | zero =>
      have : i = n := by omega
      subst this
      rw [partsD_end]; omega
    | succ q ih =>
      by_cases h : i < n
      · rw [partsD_step h]
        have := bestK_bd (ok := ok) (f := partsD ok n) (i := i) (B := ((n - i - 1 : Nat) : Int)) (c := n - i) (by omega) fun k a b => by
          have := (ih (i := k) (by omega) (by omega)).2; omega
        omega
      · have : i = n := by omega
        subst this
        rw [partsD_end]; omega
variable (ok n) in
def splV (i : Nat) : Int := if i = 0 then bestK ok (partsD ok n) 0 (n - 1) else partsD ok n i
variable (ok n) in
def splX (i : Nat) : Nat := if i = 0 then (bestD ok (partsD ok n) 0 (n - 1) (n - 1)).2 else (bestD ok (partsD ok n) i n (n - i)).2
variable (ok n) in
def splP : Nat → Nat → List (Nat × Nat)
  | 0, _ => []
  | f + 1, i => if i < n then (i, splX ok n i) :: splP f (splX ok n i) else []
theorem splV_pos {i : Nat} (h : 0 < i) : splV ok n i = partsD ok n i := by unfold splV; rw [if_neg (by omega)]
theorem splX_spec {i : Nat} (hi : i < n) (h : 0 ≤ splV ok n i) : i < splX ok n i ∧ splX ok n i ≤ n ∧ (i = 0 → splX ok n i < n) ∧ ok i (splX ok n i) = true ∧ 0 ≤ splV ok n (splX ok n i) ∧ 1 + splV ok n (splX ok n i) = splV ok n i ∧ ∀ k', splX ok n i < k' → k' ≤ n → ¬ (i = 0 ∧ k' = n) → ok i k' = true → 0 ≤ partsD ok n k' → splV ok n i < 1 + partsD ok n k' := by
  unfold splV at h
  by_cases h0 : i = 0
  · subst h0
    rw [if_pos rfl] at h
    have := (best_same (ok := ok) (f := partsD ok n) (i := 0) (c := n - 1)).2 h
    rw [Nat.zero_add] at this
    have e1 : splX ok n 0 = (bestD ok (partsD ok n) 0 (n - 1) (n - 1)).2 := by unfold splX; rw [if_pos rfl]
    have e2 : splV ok n 0 = bestK ok (partsD ok n) 0 (n - 1) := by unfold splV; rw [if_pos rfl]
    rw [← e1, ← e2] at this
    obtain ⟨a1, a2, a3, a4, a5, a6⟩ := this
    rw [splV_pos a1]
    exact ⟨a1, by omega, fun _ => by omega, a3, a4, a5, fun k' b1 b2 b3 b4 b5 => a6 k' b1 (by omega) b4 b5⟩
  · rw [if_neg h0, partsD_step hi] at h
    have := (best_same (ok := ok) (f := partsD ok n) (i := i) (c := n - i)).2 h
    rw [show i + (n - i) = n by omega] at this
    have e1 : splX ok n i = (bestD ok (partsD ok n) i n (n - i)).2 := by unfold splX; rw [if_neg h0]
    have e2 : splV ok n i = bestK ok (partsD ok n) i (n - i) := by unfold splV; rw [if_neg h0, partsD_step hi]
    rw [← e1, ← e2] at this
    obtain ⟨a1, a2, a3, a4, a5, a6⟩ := this
    rw [splV_pos (by omega : 0 < splX ok n i)]
    exact ⟨a1, a2, fun h => absurd h h0, a3, a4, a5, fun k' b1 b2 b3 b4 b5 => a6 k' b1 b2 b4 b5⟩
theorem splP_fuel : ∀ (f g i : Nat), n - i ≤ f → n - i ≤ g → 0 ≤ splV ok n i → splP ok n f i = splP ok n g i
  | 0, 0, _, _, _, _ => rfl
  | 0, g + 1, i, h, _, _ => by simp [splP, show ¬ i < n by omega]
  | f + 1, 0, i, _, h, _ => by simp [splP, show ¬ i < n by omega]
  | f + 1, g + 1, i, h, h', h0 => by
    unfold splP
    by_cases hi : i < n
    · obtain ⟨a1, a2, a3, a4, a5, a6, a7⟩ := splX_spec hi h0
      rw [if_pos hi, if_pos hi, splP_fuel f g _ (by omega) (by omega) a5]
    · rw [if_neg hi, if_neg hi]
theorem splP_len : ∀ (f i : Nat), i ≤ n → n - i ≤ f → 0 ≤ splV ok n i → (0 < n) → ((splP ok n f i).length : Int) = splV ok n i
  | 0, i, hi, h, h0, hn => by
    have : i = n := by omega
    subst this
    rw [splV_pos hn, partsD_end]; rfl
  | f + 1, i, hi, h, h0, hn => by
    unfold splP
    by_cases h1 : i < n
    · obtain ⟨a1, a2, a3, a4, a5, a6, a7⟩ := splX_spec h1 h0
      rw [if_pos h1, List.length_cons]
      have := splP_len f (splX ok n i) a2 (by omega) a5 hn
      omega
    · have : i = n := by omega
      subst this
      rw [if_neg h1, splV_pos hn, partsD_end]; rfl
end
end Go.Proofs.YtkmbliojafefdaaGreatDoor

/- Parts of strings. General lemmas, no program text. -/
set_option autoImplicit false
namespace Go.Sx
open Enc (enc val)
section
variable {P : Program} {n : Fr} {E : Env} {C : World → Prop} {cs : List Bool} {o : Oper}
theorem run_sliceS {t : TypeId} (ht : P.underlying t = some .string) {s : ByteArray} {w : World} {a b : Nat} {lo hi : Option Value} (hb : (Instr.sliceBounds false s.size s.size lo hi none).run P w = .ok (a, b, s.size) w) :
    (Instr.sliceAt t (.string s) lo hi none).run P w = .ok (.string (s.extract a b)) w := by
  have e1 := run_underlying ht w
  simp [Instr.sliceAt, Instr.slice, e1, hb, Result.andThen]
theorem q_sliceS2 {t : TypeId} {x y z : Operand} {cx cy cz : List Bool} {s : ByteArray} {a b : Int} (ho : o.op = .slice t x (some y) (some z) none) (hx : evl E x = some (cx, .string s)) (hy : evl E y = some (cy, .int .i64 a)) (hz : evl E z = some (cz, .int .i64 b))
    [sx : Sub cx cs] [sy : Sub cy cs] [sz' : Sub cz cs] (ht : P.underlying t = some .string) (h : AllT cs → 0 ≤ a ∧ a ≤ b ∧ b ≤ s.size) : OpR P n E C cs o (.string (s.extract a.toNat b.toNat)) :=
  .of_run fun e he hc w hw => by
    obtain ⟨h1, h2, h3⟩ := h hc
    unfold execOp; simp only [ho]
    have e1 := he.eval hx sx hc
    have e2 := he.eval hy sy hc
    have e3 := he.eval hz sz' hc
    have := run_sliceS (P := P) ht (s := s) (w := w) (a := a.toNat) (b := b.toNat) (lo := some (.int .i64 a)) (hi := some (.int .i64 b)) (by
      have f1 := run_sliceBound (P := P) (w := w) .i64 b s.size .sliceAlen (by omega) (by omega)
      have f2 := run_sliceBound (P := P) (w := w) .i64 a b.toNat .sliceB (by omega) (by omega)
      simp [Instr.sliceBounds, f1, f2, Result.andThen])
    simp [e1, e2, e3, this, Result.andThen]
theorem q_addS {t t' : TypeId} {x y : Operand} {cx cy : List Bool} {a b : ByteArray} (ho : o.op = .binOp .add t x y t') (hx : evl E x = some (cx, .string a)) (hy : evl E y = some (cy, .string b)) [sx : Sub cx cs] [sy : Sub cy cs]
    (h : AllT cs → a.size + b.size ≤ 9223372036854775807) : OpR P n E C cs o (.string (a ++ b)) :=
  fun e he hc => bin_run (C := C) (r := .string (a ++ b)) ho hx hy sx sy rfl (fun w => by rw [binOp_string_add]; exact run_string_add_sum (P := P) w a b (h hc)) e he hc
end
end Go.Sx

set_option autoImplicit false
set_option maxRecDepth 100000
namespace Go.Proofs.YtkmbliojafefdaaGreatDoor
open Go.Sx
open Enc (enc val)
def idxW (l : List Sp) (s : ByteArray) : Int := idxP (fun u : Sp => decide (u.word = s)) l
theorem lex_asc {l : List Sp} (h : riseB spC l = true) : ∀ i j, i < j → j < l.length → sLt (nth l i).word (nth l j).word = true := by
  have h1 : ∀ k, 1 ≤ k → k < l.length → sLt (nth l (k - 1)).word (nth l k).word = true := fun k h0 hk => cmpS_neg.1 (riseB_yes.1 h k h0 hk)
  intro i j hij hj
  induction j with
  | zero => omega
  | succ j ih =>
    have h2 := h1 (j + 1) (by omega) hj
    rw [Nat.add_sub_cancel] at h2
    by_cases h3 : i = j
    · rw [h3]; exact h2
    · exact sLt_trans (ih (by omega) (by omega)) h2
theorem halves_sp {l : List Sp} (h : riseB spC l = true) (s : ByteArray) : Halves (fun x : Sp => cmpS x.word s) l := fun i j hij hj hc => by
  rw [cmpS_neg] at hc ⊢
  exact sLt_trans (lex_asc h i j hij hj) hc
theorem holdS_spec (l : List Sp) (s : ByteArray) : CmpT Tryz.prog 164 #[] (.string s) (fun x : Sp => cmpS x.word s) (fun _ => True) l := by
  intro u hu w _
  refine calls_cw (vs := [_, _]) Tryz.func164 rfl Tryz.ntmps164 rfl (Cl.start0 w) (cw_seq (cw_region ?_))
  refine sw_x rfl rfl rfl (e_box rfl rfl rfl) (fun b2 => ?_)
  refine sr rfl rfl rfl ((q_assign rfl rfl)) (sw_nil (post_then (cw_seq (cw_region (sr rfl rfl rfl ((q_fieldAddr rfl rfl)) ?_)))))
  refine sr rfl rfl rfl ((q_loadC rfl rfl (by exact .head _) rfl)) ?_
  refine sr rfl rfl rfl ((q_move rfl rfl)) (sw_step rfl rfl rfl (q_call (CanCall.mk Tryz.call94) rfl (.cons rfl inferInstance (.cons rfl inferInstance (.nil))) (fun _ w hw => callq hw (strCmp_spec _ _ w))) (sr rfl rfl rfl ((q_assign rfl rfl)) (sw_nil (post_then (cw_ret (post_ret1 rfl (resOk_tmp rfl) ?_))))))
  exact fun w' hw => ⟨rfl, (fun w h => Cl.sel (by exact .nil _) w h) _ hw⟩
theorem idxW_low {l : List Sp} (h : riseB spC l = true) (s : ByteArray) : idxW l s = if lowB (fun x : Sp => cmpS x.word s) l < l.length ∧ cmpS (nth l (lowB (fun x : Sp => cmpS x.word s) l)).word s = 0 then (lowB (fun x : Sp => cmpS x.word s) l : Int) else -1 := by
  split
  · rename_i h1
    refine idxP_at (p := fun u : Sp => decide (u.word = s)) h1.1 (fun j hj => ?_) ?_
    · rw [decide_eq_false_iff_not]
      intro e
      have := lex_asc h _ _ hj h1.1
      rw [e, cmpS_zero.1 h1.2, sLt_irr] at this
      cases this
    · rw [decide_eq_true_eq]; exact cmpS_zero.1 h1.2
  · rename_i h1
    refine idxP_none (p := fun u : Sp => decide (u.word = s)) fun j hj => ?_
    rw [decide_eq_false_iff_not]
    intro e
    apply h1
    have hK : lowB (fun x : Sp => cmpS x.word s) l = j := by
      refine lowB_at (by omega) (fun i hi => cmpS_neg.2 (by rw [← e]; exact lex_asc h i j hi hj)) fun _ => ?_
      rw [e, cmpS_self]; decide
    rw [hK]
    exact ⟨hj, by rw [e, cmpS_self]⟩
theorem find_spec (sv : SlV) (l : List Sp) (s : ByteArray) (h : riseB spC l = true) (w : World) (hs : Stb w [] (RdL sv.v l)) : Calls Tryz.prog 137 #[sv.v, .string s] w fun e w' => e = .returned (.int .i64 (idxW l s)) ∧ Cl w [] [] w' := by
  have hL := rd_len hs.here
  refine calls_cw (vs := [_, _]) Tryz.func137 rfl Tryz.ntmps137 rfl (Cl.start0 w) (cw_seq (cw_region (sr rfl rfl rfl ((q_assign rfl rfl)) (sw_nil (post_then (cw_seq (cw_region (sr rfl rfl rfl ((q_move rfl rfl)) (sr rfl rfl rfl ((q_move rfl rfl)) (sw_step rfl rfl rfl (q_call (CanCall.mk Tryz.call163) rfl (.cons rfl inferInstance (.cons rfl inferInstance (.cons rfl inferInstance (.nil)))) (fun _ w hw => callq hw (searchSp_spec _ l s _ _ (fun x : Sp => cmpS x.word s) _ w (stb_arg hw hs) (stb_true w []) (CanCall.mk Tryz.call164) (holdS_spec l s) (halves_sp h s)))) (sr rfl rfl rfl ((q_move rfl rfl)) (sr rfl rfl rfl ((q_extract rfl rfl rfl)) (sr rfl rfl rfl ((q_extract rfl rfl rfl)) (sr rfl rfl rfl ((q_assign rfl rfl)) (sr rfl rfl rfl ((q_assign rfl rfl)) (sw_nil (post_then (cw_seq (cw_seq (cw_region (sr rfl rfl rfl ((q_move rfl rfl)) (sr rfl rfl rfl ((q_not rfl rfl)) (sw_nil (post_then ?_))))))))))))))))))))))))
  refine cw_cond rfl (fun h2 => ?_) (fun h2 => ?_)
  · skip
    have e1 : idxW l s = -1 := by rw [idxW_low h, if_neg (of_decide_eq_false (by simpa only [Bool.not_eq_true'] using h2))]
    refine cw_seq (cw_region (sr rfl rfl rfl ((q_assign rfl rfl)) (sw_nil (post_then (cw_ret (post_then_r (post_ret1 rfl (resOk_tmp rfl) ?_)))))))
    exact fun w' hw => ⟨by rw [e1], (fun w h => Cl.sel (by exact .nil _) w h) _ hw⟩
  · skip
    have e1 : idxW l s = (lowB (fun x : Sp => cmpS x.word s) l : Int) := by rw [idxW_low h, if_pos (of_decide_eq_true (by simpa only [Bool.not_eq_false'] using h2))]
    refine cw_skip (post_then (cw_seq (cw_region (sr rfl rfl rfl ((q_move rfl rfl)) (sr rfl rfl rfl ((q_assign rfl rfl)) (sw_nil (post_then (cw_ret (post_ret1 rfl (resOk_tmp rfl) ?_)))))))))
    exact fun w' hw => ⟨by rw [e1]; rfl, (fun w h => Cl.sel (by exact .nil _) w h) _ hw⟩
def okW (l : List Sp) (s : ByteArray) (i k : Nat) : Bool := decide (0 ≤ idxW l (s.extract i k))
/-- A table while the places from i on are known; place i holds x. -/
def gL (g : Nat → Int) (n i : Nat) (x : Int) : List Int := (List.range (n + 1)).map fun j => if j < i then 0 else if j = i then x else g j
theorem gL_len (g : Nat → Int) (n i : Nat) (x : Int) : (gL g n i x).length = n + 1 := by simp [gL]
theorem gL_nth {g : Nat → Int} {n i j : Nat} {x : Int} (hj : j ≤ n) : nth (gL g n i x) j = if j < i then 0 else if j = i then x else g j := by
  rw [nth_get (by rw [gL_len]; omega)]; simp [gL]
theorem gL_set {g : Nat → Int} {n i : Nat} {x y : Int} : (gL g n i x).set i y = gL g n i y := by
  apply List.ext_getElem (by simp [gL])
  intro j h1 h2
  rw [List.getElem_set]
  have hj : j ≤ n := by rw [gL_len] at h2; omega
  simp only [gL, List.getElem_map, List.getElem_range]
  split
  · rename_i e; subst e; rw [if_neg (by omega), if_pos rfl]
  · rename_i e
    by_cases h3 : j < i
    · rw [if_pos h3, if_pos h3]
    · rw [if_neg h3, if_neg h3, if_neg (by omega), if_neg (by omega)]
theorem gL_next {g : Nat → Int} {n i : Nat} : gL g n (i + 1) (g (i + 1)) = gL g n i 0 := by
  unfold gL
  apply List.map_congr_left
  intro j _
  by_cases h1 : j < i
  · rw [if_pos h1, if_pos (by omega)]
  · by_cases h2 : j = i
    · rw [if_pos (by omega), if_neg h1, if_pos h2]
    · by_cases h3 : j = i + 1
      · rw [if_neg (by omega), if_pos h3, if_neg h1, if_neg h2, h3]
      · rw [if_neg (by omega), if_neg h3, if_neg h1, if_neg h2]
theorem gL_zero {g : Nat → Int} {n : Nat} (h0 : g n = 0) : List.replicate (n + 1) (0 : Int) = gL g n n (g n) := by
  apply List.ext_getElem (by simp [gL])
  intro j h1 h2
  rw [gL_len] at h2
  simp only [List.getElem_replicate, gL, List.getElem_map, List.getElem_range, h0]
  split
  · rfl
  · split
    · rfl
    · omega
end Go.Proofs.YtkmbliojafefdaaGreatDoor

set_option autoImplicit false
set_option maxRecDepth 100000
namespace Go.Proofs.YtkmbliojafefdaaGreatDoor
open Go.Sx
open Enc (enc val)
section
variable (ok : Nat → Nat → Bool) (n : Nat)
/-- Row i behind c steps: the least number (0: none), the end of the first part. -/
def rowF (i c : Nat) : Int × Nat := if i = 0 then bestD ok (partsD ok n) 0 (n - 1) (c - 1) else bestD ok (partsD ok n) i n c
def rowV (i : Nat) : Int := if i = n then 0 else (rowF ok n i (n - i)).1
def rowX (i : Nat) : Int := if i = n then 0 else ((rowF ok n i (n - i)).2 : Int)
variable {ok n}
theorem partsD_pos {j : Nat} (h : j < n) : partsD ok n j = -1 ∨ 1 ≤ partsD ok n j := by
  rw [partsD_step h]
  rcases bestK_spec (ok := ok) (f := partsD ok n) (i := j) (n - j) with ⟨g1, _⟩ | ⟨k, g1, g2, g3, g4, g5, g6⟩
  · exact .inl g1
  · right; omega
theorem rowV_pos {j : Nat} (h0 : 0 < j) (h : j ≤ n) : rowV ok n j = if partsD ok n j < 0 then 0 else partsD ok n j := by
  unfold rowV
  by_cases e : j = n
  · rw [if_pos e, e, partsD_end]; rfl
  · rw [if_neg e]
    unfold rowF
    rw [if_neg (by omega)]
    have := (best_same (ok := ok) (f := partsD ok n) (i := j) (c := n - j)).1
    rw [show j + (n - j) = n by omega] at this
    rw [this, ← partsD_step (by omega)]
theorem rowV_zero (h : 0 < n) : rowV ok n 0 = if splV ok n 0 < 0 then 0 else splV ok n 0 := by
  unfold rowV
  rw [if_neg (by omega)]
  unfold rowF splV
  rw [if_pos rfl, if_pos rfl]
  have := (best_same (ok := ok) (f := partsD ok n) (i := 0) (c := n - 1)).1
  rw [Nat.zero_add] at this
  rw [show n - 0 - 1 = n - 1 by omega, this]
theorem rowX_eq {i : Nat} (h : i < n) : rowX ok n i = (splX ok n i : Int) := by
  unfold rowX splX
  rw [if_neg (by omega)]
  unfold rowF
  by_cases e : i = 0
  · rw [if_pos e, if_pos e, e, show n - 0 - 1 = n - 1 by omega]
  · rw [if_neg e, if_neg e]
theorem rowF_zero (i : Nat) : rowF ok n i 0 = (0, 0) := by
  unfold rowF
  split <;> rfl
theorem rowF_step {i c : Nat} (h0 : ¬ (i = 0 ∧ c = 0)) (hc : i + c < n) : rowF ok n i (c + 1) = if ok i (n - c) = true ∧ 0 ≤ partsD ok n (n - c) ∧ ((rowF ok n i c).1 = 0 ∨ 1 + partsD ok n (n - c) < (rowF ok n i c).1) then (1 + partsD ok n (n - c), n - c) else rowF ok n i c := by
  unfold rowF
  by_cases e : i = 0
  · rw [if_pos e, if_pos e]
    obtain ⟨c', rfl⟩ : ∃ c', c = c' + 1 := ⟨c - 1, by omega⟩
    subst e
    rw [show c' + 1 + 1 - 1 = c' + 1 by omega, show c' + 1 - 1 = c' by omega]
    conv => lhs; rw [bestD]
    rw [show n - 1 - c' = n - (c' + 1) by omega]
  · rw [if_neg e, if_neg e]
    conv => lhs; rw [bestD]
theorem rowF_bd {i c : Nat} (hi : i + c ≤ n) : 0 ≤ (rowF ok n i c).1 ∧ (rowF ok n i c).1 ≤ 1 + (n : Int) := by
  unfold rowF
  have hD : ∀ j, j ≤ n → partsD ok n j ≤ (n : Int) := fun j hj => by have := (partsD_bd (ok := ok) (q := n) hj (by omega)).2; omega
  split
  · rcases Nat.lt_or_ge (n - 1) (c - 1) with h | h
    · omega
    · rcases bestD_spec (ok := ok) (f := partsD ok n) (i := 0) (lim := n - 1) (c - 1) (by omega) with ⟨h1, _⟩ | ⟨k, h1, h2, h3, h4, h5, _, _⟩
      · rw [h1]; simp only; omega
      · rw [h5]; have := hD k (by omega); simp only; omega
  · rcases bestD_spec (ok := ok) (f := partsD ok n) (i := i) (lim := n) c (by omega) with ⟨h1, _⟩ | ⟨k, h1, h2, h3, h4, h5, _, _⟩
    · rw [h1]; simp only; omega
    · rw [h5]; have := hD k (by omega); simp only; omega
end
/-- The parts as strings. -/
def splS (l : List Sp) (s : ByteArray) : List ByteArray := (splP (okW l s) s.size s.size 0).map fun p => s.extract p.1 p.2
theorem split_spec (sv : SlV) (l : List Sp) (s : ByteArray) (hr : riseB spC l = true) (hz : s.size ≤ 1000) (w : World) (hs : Stb w [] (RdL sv.v l)) :
    Calls Tryz.prog 96 #[sv.v, .string s] w fun e w' => ∃ r : SlV, e = .returned r.v ∧ r.addr.isNone = decide (splV (okW l s) s.size 0 < 0) ∧ Cl w [] [ownL 9 r.v (if splV (okW l s) s.size 0 < 0 then [] else splS l s)] w' := by
  have hL := rd_len hs.here
  unfold splS
  obtain ⟨n, hn⟩ : ∃ n, s.size = n := ⟨_, rfl⟩
  obtain ⟨ok, hok⟩ : ∃ ok, okW l s = ok := ⟨_, rfl⟩
  have hbd : ∀ j, j ≤ n → -1 ≤ partsD ok n j ∧ partsD ok n j ≤ ((n - j : Nat) : Int) := fun j hj => partsD_bd (q := n) hj (by omega)
  have hlv := gL_len (rowV ok n) n
  have hlx := gL_len (rowX ok n) n
  have hv0 : rowV ok n n = 0 := by unfold rowV; rw [if_pos rfl]
  have hx0 : rowX ok n n = 0 := by unfold rowX; rw [if_pos rfl]
  rw [hok, hn]
  refine calls_cw (vs := [_, _]) Tryz.func96 rfl Tryz.ntmps96 rfl (Cl.start0 w) (cw_seq (cw_region (sr rfl rfl rfl ((q_assign rfl rfl)) (sw_nil (post_then (cw_seq (cw_region (sr rfl rfl rfl ((q_move rfl rfl)) (sr rfl rfl rfl ((q_lenS rfl (.cons rfl inferInstance (.nil)) Tryz.underlying9)) ?_)))))))))
  refine sr rfl rfl rfl ((q_add rfl rfl rfl (by intro hc; omega))) ?_
  refine sw_x rfl rfl rfl (e_make (α := Int) (zero := 0) rfl rfl rfl rfl rfl (by omega) (by omega) (by decide)) (fun s15 => ?_)
  refine sr rfl rfl rfl ((q_assign rfl rfl)) (sw_nil (post_then (cw_seq (cw_region (sr rfl rfl rfl ((q_move rfl rfl)) (sr rfl rfl rfl ((q_lenS rfl (.cons rfl inferInstance (.nil)) Tryz.underlying9)) ?_))))))
  refine sr rfl rfl rfl ((q_add rfl rfl rfl (by intro hc; omega))) ?_
  refine sw_x rfl rfl rfl (e_make (α := Int) (zero := 0) rfl rfl rfl rfl rfl (by omega) (by omega) (by decide)) (fun s19 => ?_)
  refine sr rfl rfl rfl ((q_assign rfl rfl)) (sw_nil (post_then (cw_seq (cw_seq (cw_region (sr rfl rfl rfl ((q_move rfl rfl)) (sr rfl rfl rfl ((q_lenS rfl (.cons rfl inferInstance (.nil)) Tryz.underlying9)) ?_)))))))
  refine sr rfl rfl rfl ((q_sub rfl rfl rfl (by intro hc; omega))) ?_
  refine sr rfl rfl rfl ((q_assign rfl rfl)) (sw_nil (post_then (cw_block ?_)))
  rw [hn]
  have hrep : ((n : Int) + 1).toNat = n + 1 := by omega
  refine cw_loop (S := Nat) (fun q => [(0, [], sv.v), (1, [], .string s), (5, [], s15.v), (6, [], s19.v), (7, [], .int .i64 ((q : Int) - 1))]) (fun q => Cl w [] [ownL 3 s19.v (gL (rowX ok n) n q (rowX ok n q)), ownL 3 s15.v (gL (rowV ok n) n q (rowV ok n q))]) (fun q => q ≤ n) (fun q => q) n (Nat.le_refl _) (by exact .cons rfl (.cons rfl (.cons rfl (.cons rfl (.cons rfl .nil))))) (fun w' h => by rw [← gL_zero hv0, ← gL_zero hx0]; try rw [hrep] at h; exact h) ?_
  intro q hq
  refine cw_seq (cw_seq (cw_region (sr rfl rfl rfl ((q_move rfl rfl)) (sr rfl rfl rfl ((q_geq rfl rfl rfl)) (sw_nil (post_then ?_))))))
  refine cw_cond rfl (fun h => ?_) (fun h => ?_)
  · skip
    obtain ⟨i, rfl⟩ : ∃ i, q = i + 1 := ⟨q - 1, by simp at h; omega⟩
    have e1 : (((i + 1 : Nat) : Int) - 1) = (i : Int) := by omega
    rw [e1]
    refine cw_skip (post_then (cw_seq (cw_block (cw_seq (cw_region (sr rfl rfl rfl ((q_move rfl rfl)) (sr rfl rfl rfl ((q_lenS rfl (.cons rfl inferInstance (.nil)) Tryz.underlying9)) (sr rfl rfl rfl ((q_assign rfl rfl)) (sw_nil (post_then (cw_block ?_)))))))))))
    refine cw_loop (S := Nat) (fun c => [(0, [], sv.v), (1, [], .string s), (5, [], s15.v), (6, [], s19.v), (7, [], .int .i64 i), (8, [], .int .i64 ((n - c : Nat) : Int))]) (fun c => Cl w [] [ownL 3 s19.v (gL (rowX ok n) n i ((rowF ok n i c).2 : Int)), ownL 3 s15.v (gL (rowV ok n) n i (rowF ok n i c).1)]) (fun c => i + c ≤ n) (fun c => n - c) 0 (by omega) (by rw [hn]; exact (by exact .cons rfl (.cons rfl (.cons rfl (.cons rfl (.cons rfl (.cons rfl .nil))))))) (fun w' h => ?_) ?_
    · rw [gL_next, gL_next] at h
      rw [rowF_zero]; exact h
    intro c hc
    have hil2 := hlv i (rowF ok n i c).1
    have hil3 := hlx i ((rowF ok n i c).2 : Int)
    refine cw_seq (cw_seq (cw_region (sr rfl rfl rfl ((q_move rfl rfl)) (sr rfl rfl rfl ((q_move rfl rfl)) (sr rfl rfl rfl ((q_gtr rfl rfl rfl)) (sw_nil (post_then ?_)))))))
    refine cw_cond rfl (fun h2 => ?_) (fun h2 => ?_)
    · skip
      have hc' : i + c < n := by simp at h2; omega
      have hkbd := rowF_bd (ok := ok) (n := n) (i := i) (c := c) hc
      have hDk := hbd (n - c) (by omega)
      have n1 : nth (gL (rowV ok n) n i (rowF ok n i c).1) (n - c) = rowV ok n (n - c) := by rw [gL_nth (by omega), if_neg (by omega), if_neg (by omega)]
      have n2 : nth (gL (rowV ok n) n i (rowF ok n i c).1) i = (rowF ok n i c).1 := by rw [gL_nth (by omega), if_neg (by omega), if_pos rfl]
      have n3 := rowV_pos (ok := ok) (n := n) (j := n - c) (by omega) (by omega)
      have hVb : 0 ≤ rowV ok n (n - c) ∧ rowV ok n (n - c) ≤ n := by rw [n3]; split <;> omega
      have hokk : decide (0 ≤ idxW l (s.extract i (n - c))) = ok i (n - c) := by rw [← hok]; rfl
      refine cw_skip (post_then (cw_seq (cw_block (cw_seq (cw_seq (cw_region (sr rfl rfl rfl ((q_move rfl rfl)) (sr rfl rfl rfl ((q_eql rfl rfl rfl)) (sr rfl rfl rfl ((q_move rfl rfl)) (sr rfl rfl rfl ((q_move rfl rfl)) (sr rfl rfl rfl ((q_move rfl rfl)) (sr rfl rfl rfl ((q_lenS rfl (.cons rfl inferInstance (.nil)) Tryz.underlying9)) (sr rfl rfl rfl ((q_eql rfl rfl rfl)) (sr rfl rfl rfl ((q_and2 rfl rfl rfl)) (sr rfl rfl rfl ((q_move rfl rfl)) (sr rfl rfl rfl ((q_move rfl rfl)) (sr rfl rfl rfl ((q_move rfl rfl)) (sr rfl rfl rfl ((q_lenS rfl (.cons rfl inferInstance (.nil)) Tryz.underlying9)) (sr rfl rfl rfl ((q_lss rfl rfl rfl)) (sr rfl rfl rfl ((q_move rfl rfl)) (sr rfl rfl rfl ((q_move rfl rfl)) (sr rfl rfl rfl ((q_move rfl rfl)) ?_))))))))))))))))))))))
      refine sr rfl rfl rfl ((q_indexN rfl rfl rfl (by exact fun w hw => rd_own hw (by exact .tail _ (.head _))) (by intro hc; omega))) ?_
      refine sr rfl rfl rfl ((q_loadEl rfl rfl rfl (by exact fun w hw => rd_own hw (by exact .tail _ (.head _))) (by intro hc; omega))) ?_
      refine sr rfl rfl rfl ((q_eql rfl rfl rfl)) (sr rfl rfl rfl ((q_and2 rfl rfl rfl)) (sr rfl rfl rfl ((q_or2 rfl rfl rfl)) (sr rfl rfl rfl ((q_move rfl rfl)) (sr rfl rfl rfl ((q_move rfl rfl)) (sr rfl rfl rfl ((q_move rfl rfl)) (sr rfl rfl rfl ((q_move rfl rfl)) (sr rfl rfl rfl ((q_move rfl rfl)) ?_)))))))
      refine sr rfl rfl rfl ((q_sliceS2 rfl rfl rfl rfl Tryz.underlying9 (by intro hc; omega))) ?_
      refine sw_step rfl rfl rfl (q_call (CanCall.mk Tryz.call137) rfl (.cons rfl inferInstance (.cons rfl inferInstance (.nil))) (fun _ w hw => callq hw (find_spec sv l _ hr w (stb_arg hw hs)))) (sr rfl rfl rfl ((q_lss rfl rfl rfl)) (sr rfl rfl rfl ((q_or2 rfl rfl rfl)) (sw_nil (post_then ?_))))
      rw [hn]
      simp only [Int.toNat_natCast, n1]
      refine cw_cond rfl (fun h3 => ?_) (fun h3 => ?_)
      · skip
        have e2 : rowF ok n i (c + 1) = rowF ok n i c := by
          by_cases h4 : i = 0 ∧ c = 0
          · obtain ⟨rfl, rfl⟩ := h4; rfl
          · rw [rowF_step h4 hc', if_neg]
            rintro ⟨g1, g2, g3⟩
            rw [← hokk] at g1
            simp only [decide_eq_true_eq] at g1
            rw [if_neg (by omega)] at n3
            have hne : ¬ ((i : Int) = 0 ∧ ((n - c : Nat) : Int) = (n : Int)) := by omega
            have hne2 : ¬ (((n - c : Nat) : Int) < (n : Int) ∧ rowV ok n (n - c) = 0) := by
              rw [n3]
              rintro ⟨b1, b2⟩
              rcases partsD_pos (ok := ok) (n := n) (j := n - c) (by omega) with b3 | b3 <;> omega
            simp only [Bool.or_eq_true, Bool.and_eq_true, decide_eq_true_eq] at h3
            rcases h3 with (h3 | h3) | h3
            · exact hne h3
            · exact hne2 h3
            · omega
        refine cw_exit (post_then_x (post_blk_eq (post_then (cw_region (sr rfl rfl rfl ((q_move rfl rfl)) ?_)))))
        refine sr rfl rfl rfl ((q_sub rfl rfl rfl (by intro hc; omega))) ?_
        refine sr rfl rfl rfl ((q_assign rfl rfl)) (sw_nil ?_)
        exact post_next (c + 1) (by exact .cons rfl (.cons rfl (.cons rfl (.cons rfl (.cons rfl (.cons' rfl (by congr 1; first | omega | (simp only; omega)) .nil)))))) (fun w' h => by rw [e2]; exact (fun w h => Cl.sel (by exact .take 0 rfl (.take 0 rfl (.nil _))) w h) _ h) (by omega) (by omega)
      · skip
        have h5 : ¬ (i = 0 ∧ c = 0) ∧ ok i (n - c) = true ∧ 0 ≤ partsD ok n (n - c) ∧ rowV ok n (n - c) = partsD ok n (n - c) := by
          simp only [Bool.or_eq_false_iff, Bool.and_eq_false_iff, decide_eq_false_iff_not] at h3
          obtain ⟨⟨g1, g2⟩, g3⟩ := h3
          have g4 : 0 ≤ partsD ok n (n - c) ∧ rowV ok n (n - c) = partsD ok n (n - c) := by
            by_cases b : partsD ok n (n - c) < 0
            · exfalso
              rw [if_pos b] at n3
              by_cases b2 : n - c = n
              · rw [b2, partsD_end] at b; omega
              · omega
            · rw [if_neg b] at n3
              exact ⟨by omega, n3⟩
          refine ⟨fun e => by omega, ?_, g4⟩
          rw [← hokk, decide_eq_true_eq]; omega
        obtain ⟨h50, h51, h52, h53⟩ := h5
        have hst := rowF_step (ok := ok) (n := n) h50 hc'
        refine cw_skip (post_then (cw_seq (cw_region (sr rfl rfl rfl ((q_move rfl rfl)) (sr rfl rfl rfl ((q_move rfl rfl)) ?_)))))
        refine sr rfl rfl rfl ((q_indexN rfl rfl rfl (by exact fun w hw => rd_own hw (by exact .tail _ (.head _))) (by intro hc; omega))) ?_
        refine sr rfl rfl rfl ((q_loadEl rfl rfl rfl (by exact fun w hw => rd_own hw (by exact .tail _ (.head _))) (by intro hc; omega))) ?_
        refine sr rfl rfl rfl ((q_add rfl rfl rfl (by intro hc; omega))) ?_
        refine sr rfl rfl rfl ((q_assign rfl rfl)) (sw_nil (post_then (cw_seq (cw_region (sr rfl rfl rfl ((q_move rfl rfl)) (sr rfl rfl rfl ((q_move rfl rfl)) ?_))))))
        refine sr rfl rfl rfl ((q_indexN rfl rfl rfl (by exact fun w hw => rd_own hw (by exact .tail _ (.head _))) (by intro hc; omega))) ?_
        refine sr rfl rfl rfl ((q_loadEl rfl rfl rfl (by exact fun w hw => rd_own hw (by exact .tail _ (.head _))) (by intro hc; omega))) ?_
        refine sr rfl rfl rfl ((q_eql rfl rfl rfl)) (sr rfl rfl rfl ((q_move rfl rfl)) (sr rfl rfl rfl ((q_move rfl rfl)) (sr rfl rfl rfl ((q_move rfl rfl)) (sr rfl rfl rfl ((q_move rfl rfl)) ?_))))
        refine sr rfl rfl rfl ((q_indexN rfl rfl rfl (by exact fun w hw => rd_own hw (by exact .tail _ (.head _))) (by intro hc; omega))) ?_
        refine sr rfl rfl rfl ((q_loadEl rfl rfl rfl (by exact fun w hw => rd_own hw (by exact .tail _ (.head _))) (by intro hc; omega))) ?_
        refine sr rfl rfl rfl ((q_lss rfl rfl rfl)) (sr rfl rfl rfl ((q_or2 rfl rfl rfl)) (sw_nil (post_then ?_)))
        simp only [Int.toNat_natCast, n1, n2]
        refine cw_cond rfl (fun h6 => ?_) (fun h6 => ?_)
        · skip
          have e2 : rowF ok n i (c + 1) = (1 + partsD ok n (n - c), n - c) := by
            rw [hst, if_pos]
            simp only [Bool.or_eq_true, decide_eq_true_eq] at h6
            exact ⟨h51, h52, by omega⟩
          refine cw_region (sr rfl rfl rfl ((q_move rfl rfl)) (sr rfl rfl rfl ((q_move rfl rfl)) (sr rfl rfl rfl ((q_move rfl rfl)) (sr rfl rfl rfl ((q_move rfl rfl)) (sr rfl rfl rfl ((q_move rfl rfl)) (sr rfl rfl rfl ((q_move rfl rfl)) ?_))))))
          refine sr rfl rfl rfl ((q_indexN rfl rfl rfl (by exact fun w hw => rd_own hw (by exact .tail _ (.head _))) (by intro hc; omega))) ?_
          refine sw_eff0 rfl rfl (e_storeEl1 (i := 1) rfl rfl rfl rfl rfl (by omega)) ?_
          refine sr rfl rfl rfl ((q_indexN rfl rfl rfl (by exact fun w hw => rd_own hw (by exact .head _)) (by intro hc; omega))) ?_
          refine sw_eff0 rfl rfl (e_storeEl1 (i := 0) rfl rfl rfl rfl rfl (by omega)) ?_
          refine sw_nil (post_blk (post_then (cw_region (sr rfl rfl rfl ((q_move rfl rfl)) ?_))))
          refine sr rfl rfl rfl ((q_sub rfl rfl rfl (by intro hc; omega))) ?_
          refine sr rfl rfl rfl ((q_assign rfl rfl)) (sw_nil ?_)
          refine post_next (c + 1) (by exact .cons rfl (.cons rfl (.cons rfl (.cons rfl (.cons rfl (.cons' rfl (by congr 1; first | omega | (simp only; omega)) .nil)))))) (fun w' h => ?_) (by omega) (by omega)
          simp only [Int.toNat_natCast, n1, gL_set, h53] at h
          rw [e2]
          exact (fun w h => Cl.sel (by exact .take 0 rfl (.take 0 rfl (.nil _))) w h) _ h
        · skip
          have e2 : rowF ok n i (c + 1) = rowF ok n i c := by
            rw [hst, if_neg]
            rintro ⟨_, _, g3⟩
            simp only [Bool.or_eq_false_iff, decide_eq_false_iff_not] at h6
            omega
          refine cw_skip (post_blk (post_then (cw_region (sr rfl rfl rfl ((q_move rfl rfl)) ?_))))
          refine sr rfl rfl rfl ((q_sub rfl rfl rfl (by intro hc; omega))) ?_
          refine sr rfl rfl rfl ((q_assign rfl rfl)) (sw_nil ?_)
          exact post_next (c + 1) (by exact .cons rfl (.cons rfl (.cons rfl (.cons rfl (.cons rfl (.cons' rfl (by congr 1; first | omega | (simp only; omega)) .nil)))))) (fun w' h => by rw [e2]; exact (fun w h => Cl.sel (by exact .take 0 rfl (.take 0 rfl (.nil _))) w h) _ h) (by omega) (by omega)
    · skip
      have hc' : i + c = n := by simp at h2; omega
      have e2 : rowV ok n i = (rowF ok n i c).1 := by unfold rowV; rw [if_neg (by simp at h; omega), show n - i = c by omega]
      have e3 : rowX ok n i = ((rowF ok n i c).2 : Int) := by unfold rowX; rw [if_neg (by simp at h; omega), show n - i = c by omega]
      refine cw_exit (post_then_x (post_then_x (post_blk_eq (post_blk (post_then (cw_region (sr rfl rfl rfl ((q_move rfl rfl)) ?_)))))))
      refine sr rfl rfl rfl ((q_sub rfl rfl rfl (by intro hc; omega))) ?_
      refine sr rfl rfl rfl ((q_assign rfl rfl)) (sw_nil ?_)
      exact post_next i (by exact .cons rfl (.cons rfl (.cons rfl (.cons rfl (.cons rfl .nil))))) (fun w' h => by rw [e2, e3]; exact (fun w h => Cl.sel (by exact .take 0 rfl (.take 0 rfl (.nil _))) w h) _ h) (by omega) (by omega)
  · skip
    have hq' : q = 0 := by simp at h; omega
    subst hq'
    have hln := hlv 0 (rowV ok n 0)
    have hlx0 := hlx 0 (rowX ok n 0)
    have n1 : nth (gL (rowV ok n) n 0 (rowV ok n 0)) 0 = rowV ok n 0 := by rw [gL_nth (by omega), if_neg (by omega), if_pos rfl]
    refine cw_exit (post_then_x (post_then_x (post_blk_eq (post_then (cw_seq (cw_seq (cw_region (sr rfl rfl rfl ((q_move rfl rfl)) ?_))))))))
    refine sr rfl rfl rfl ((q_indexN rfl rfl rfl (by exact fun w hw => rd_own hw (by exact .tail _ (.head _))) (by intro hc; (simp only [List.length_set, List.length_append, List.length_cons, List.length_nil, List.length_replicate, List.length_take, List.length_drop, List.length_map]; omega)))) ?_
    refine sr rfl rfl rfl ((q_loadEl rfl rfl rfl (by exact fun w hw => rd_own hw (by exact .tail _ (.head _))) (by intro hc; (simp only [List.length_set, List.length_append, List.length_cons, List.length_nil, List.length_replicate, List.length_take, List.length_drop, List.length_map]; omega)))) ?_
    refine sr rfl rfl rfl ((q_eql rfl rfl rfl)) (sw_nil (post_then ?_))
    rw [n1]
    refine cw_cond rfl (fun h7 => ?_) (fun h7 => ?_)
    · skip
      have hneg : splV ok n 0 < 0 := by
        simp only [decide_eq_true_eq] at h7
        by_cases h0 : 0 < n
        · rw [rowV_zero h0] at h7
          by_cases b : splV ok n 0 < 0
          · exact b
          · rw [if_neg b] at h7
            have := (splX_spec (ok := ok) h0 (by omega)).2.2.2.2.1
            have := (splX_spec (ok := ok) h0 (by omega)).2.2.2.2.2.1
            omega
        · unfold splV
          rw [if_pos rfl, show n - 1 = 0 by omega]
          show (-1 : Int) < 0
          decide
      rw [if_pos hneg]
      refine cw_seq (cw_region (sr rfl rfl rfl ((q_assign rfl rfl)) (sw_nil (post_then (cw_ret (post_then_r (post_ret1 rfl (resOk_tmp rfl) ?_)))))))
      exact fun w' hw => ⟨⟨none, 0, 0⟩, rfl, by rw [decide_eq_true hneg]; rfl, Cl.addNil 9 ((fun w h => Cl.sel (by exact .nil _) w h) _ hw)⟩
    · skip
      have hpos : 0 < n ∧ 0 ≤ splV ok n 0 := by
        simp only [decide_eq_false_iff_not] at h7
        by_cases h0 : 0 < n
        · rw [rowV_zero h0] at h7
          by_cases b : splV ok n 0 < 0
          · rw [if_pos b] at h7; exact absurd rfl h7
          · exact ⟨h0, by omega⟩
        · rw [show n = 0 by omega] at h7
          exact absurd (by unfold rowV; rw [if_pos rfl]) h7
      obtain ⟨hn0, hV0⟩ := hpos
      rw [if_neg (by omega)]
      refine cw_skip (post_then (cw_seq (cw_region (sr rfl rfl rfl ((q_assign rfl rfl)) (sw_nil (post_then (cw_seq (cw_seq (cw_region (sr rfl rfl rfl ((q_assign rfl rfl)) (sw_nil (post_then (cw_block ?_)))))))))))))
      refine cw_loop (S := Nat × SlV × List ByteArray) (fun y => [(1, [], .string s), (6, [], s19.v), (10, [], y.2.1.v), (11, [], .int .i64 y.1)]) (fun y => Cl w [] [ownL 9 y.2.1.v y.2.2, ownL 3 s19.v (gL (rowX ok n) n 0 (rowX ok n 0))]) (fun y => y.1 ≤ n ∧ 0 ≤ splV ok n y.1 ∧ y.2.2.length ≤ y.1 ∧ (splP ok n n 0).map (fun p => s.extract p.1 p.2) = y.2.2 ++ (splP ok n (n - y.1) y.1).map fun p => s.extract p.1 p.2) (fun y => n - y.1) (0, ⟨none, 0, 0⟩, []) ⟨by simp, hV0, by simp, by simp⟩ (by exact .cons rfl (.cons rfl (.cons rfl (.cons rfl .nil)))) (fun w' h => Cl.addNil 9 ((fun w h => Cl.sel (by exact .take 0 rfl (.nil _)) w h) _ h)) ?_
      rintro ⟨i, so, out⟩ ⟨hi, hVi, hol, hout⟩
      dsimp only at hi hVi hol hout ⊢
      refine cw_seq (cw_seq (cw_region (sr rfl rfl rfl ((q_move rfl rfl)) (sr rfl rfl rfl ((q_move rfl rfl)) (sr rfl rfl rfl ((q_lenS rfl (.cons rfl inferInstance (.nil)) Tryz.underlying9)) (sr rfl rfl rfl ((q_lss rfl rfl rfl)) (sw_nil (post_then ?_))))))))
      refine cw_cond rfl (fun h8 => ?_) (fun h8 => ?_)
      · skip
        have hi' : i < n := by simp at h8; omega
        obtain ⟨a1, a2, a3, a4, a5, a6, a7⟩ := splX_spec hi' hVi
        have n2 : nth (gL (rowX ok n) n 0 (rowX ok n 0)) i = (splX ok n i : Int) := by
          rw [gL_nth hi, if_neg (by omega)]
          split
          · rename_i e; rw [← e, rowX_eq hi']
          · exact rowX_eq hi'
        refine cw_skip (post_then (cw_seq (cw_block (cw_region (sr rfl rfl rfl ((q_move rfl rfl)) (sr rfl rfl rfl ((q_move rfl rfl)) (sr rfl rfl rfl ((q_move rfl rfl)) (sr rfl rfl rfl ((q_move rfl rfl)) (sr rfl rfl rfl ((q_move rfl rfl)) ?_)))))))))
        refine sr rfl rfl rfl ((q_indexN rfl rfl rfl (by exact fun w hw => rd_own hw (by exact .tail _ (.head _))) (by intro hc; omega))) ?_
        refine sr rfl rfl rfl ((q_loadEl rfl rfl rfl (by exact fun w hw => rd_own hw (by exact .tail _ (.head _))) (by intro hc; omega))) ?_
        simp only [Int.toNat_natCast, n2]
        refine sr rfl rfl rfl ((q_sliceS2 rfl rfl rfl rfl Tryz.underlying9 (by intro hc; omega))) ?_
        refine sw_x rfl rfl rfl (e_build1 (α := ByteArray) rfl rfl rfl rfl) (fun s110 => ?_)
        refine sw_x rfl rfl rfl (e_append (i := 1) rfl (.cons rfl inferInstance (.cons rfl inferInstance (.nil))) rfl rfl (by exact fun w hw => rd_own hw (by exact .head _)) (by first | omega | (simp only [List.length_set, List.length_append, List.length_cons, List.length_nil, List.length_replicate, List.length_take, List.length_drop, List.length_map]; omega)) rfl) (fun s111 => ?_)
        refine sr rfl rfl rfl ((q_assign rfl rfl)) (sw_nil (post_blk (post_then (cw_region (sr rfl rfl rfl ((q_move rfl rfl)) (sr rfl rfl rfl ((q_move rfl rfl)) ?_))))))
        refine sr rfl rfl rfl ((q_indexN rfl rfl rfl (by exact fun w hw => rd_own hw (by exact .tail _ (.tail _ (.head _)))) (by intro hc; omega))) ?_
        refine sr rfl rfl rfl ((q_loadEl rfl rfl rfl (by exact fun w hw => rd_own hw (by exact .tail _ (.tail _ (.head _)))) (by intro hc; omega))) ?_
        refine sr rfl rfl rfl ((q_assign rfl rfl)) (sw_nil ?_)
        simp only [Int.toNat_natCast, n2]
        refine post_next (splX ok n i, s111, out ++ [s.extract i (splX ok n i)]) (by exact .cons rfl (.cons rfl (.cons rfl (.cons rfl .nil)))) (fun w' h => (fun w h => Cl.sel (by exact .take 1 rfl (.take 1 rfl (.nil _))) w h) _ h) ⟨a2, a5, by simp; omega, ?_⟩ (by simp only; omega)
        simp only
        rw [hout, List.append_assoc]
        congr 1
        obtain ⟨m, hm⟩ : ∃ m, n - i = m + 1 := ⟨n - i - 1, by omega⟩
        rw [hm, splP, if_pos hi', List.map_cons, splP_fuel m (n - splX ok n i) (splX ok n i) (by omega) (by omega) a5]
        rfl
      · skip
        have hi' : i = n := by simp at h8; omega
        subst hi'
        rw [Nat.sub_self] at hout
        have hout2 : out = (splP ok i i 0).map fun p => s.extract p.1 p.2 := by rw [hout]; simp [splP]
        have hlen := splP_len (ok := ok) (n := i) i 0 (by omega) (by omega) hV0 hn0
        have hpos2 : 1 ≤ splV ok i 0 := by
          obtain ⟨_, _, _, _, a5, a6, _⟩ := splX_spec hn0 hV0
          omega
        refine cw_exit (post_then_x (post_then_x (post_blk_eq (post_then (cw_seq (cw_region (sr rfl rfl rfl ((q_move rfl rfl)) (sr rfl rfl rfl ((q_assign rfl rfl)) (sw_nil (post_then (cw_ret (post_ret1 rfl (resOk_tmp rfl) ?_))))))))))))
        refine fun w' hw => ⟨so, rfl, ?_, by rw [← hout2]; exact (fun w h => Cl.sel (by exact .take 0 rfl (.nil _)) w h) _ hw⟩
        rw [decide_eq_false (by omega)]
        have hrd : RdL so.v out w' := rd_own (e := 9) hw (by exact .head _)
        cases ha : so.addr with
        | some a => rfl
        | none =>
          exfalso
          have := rd_nil hrd ha
          rw [hout2] at this
          have h9 := congrArg List.length this
          simp at h9
          rw [h9] at hlen
          simp at hlen; omega
end Go.Proofs.YtkmbliojafefdaaGreatDoor

set_option autoImplicit false
set_option maxRecDepth 100000
namespace Go.Proofs.YtkmbliojafefdaaGreatDoor
open Go.Sx
open Enc (enc val)
def splE (l : List Sp) (s : ByteArray) : Int := if lexE l = 0 then (if wordOk s then (if splV (okW l s) s.size 0 < 0 then 5 else 0) else 2) else lexE l
def splR (l : List Sp) (s : ByteArray) : List ByteArray := if splE l s = 0 then splS l s else []
theorem lexE_ok {l : List Sp} (h : lexE l = 0) : riseB spC l = true ∧ l.all spOk = true := by
  unfold lexE at h
  split at h
  · cases h
  · split at h
    · rename_i h2
      simpa using h2
    · cases h
theorem splitP_spec (sv : SlV) (l : List Sp) (s : ByteArray) (hsz : ∀ u ∈ l, u.word.size ≤ 1000000) (hz : s.size ≤ 1000) (w : World) (hT : Stb w [] Tab) (hs : Stb w [] (RdL sv.v l)) (hp : Stb w [] fun w' => ∀ u ∈ l, SpIn u w') :
    Calls Tryz.prog 53 #[sv.v, .string s] w fun e w' => ∃ r : SlV, e = .returned (.tuple #[r.v, .int .i64 (splE l s)]) ∧ True ∧ Cl w [] [ownL 9 r.v (splR l s)] w' := by
  have hs2 : s.size ≤ 9223372036854775806 := by omega
  refine calls_cw (vs := [_, _]) Tryz.func53 rfl Tryz.ntmps53 rfl (Cl.start0 w) (cw_seq (cw_region (sr rfl rfl rfl ((q_assign rfl rfl)) (sr rfl rfl rfl ((q_assign rfl rfl)) (sw_nil (post_then (cw_seq (cw_seq (cw_region (sr rfl rfl rfl ((q_move rfl rfl)) (sw_step rfl rfl rfl (q_call (CanCall.mk Tryz.call95) rfl (.cons rfl inferInstance (.nil)) (fun _ w hw => callq hw (lexicon_spec _ l hsz w (stb_arg hw hT) (stb_arg hw hs) (stb_arg hw hp)))) (sr rfl rfl rfl ((q_assign rfl rfl)) (sw_nil (post_then (cw_seq (cw_region (sr rfl rfl rfl ((q_move rfl rfl)) (sr rfl rfl rfl ((q_neq rfl rfl rfl)) (sw_nil (post_then ?_))))))))))))))))))))
  refine cw_cond rfl (fun h => ?_) (fun h => ?_)
  · skip
    have h1 : lexE l ≠ 0 := by simpa using h
    have e1 : splE l s = lexE l := by unfold splE; rw [if_neg h1]
    have e2 : splR l s = [] := by unfold splR; rw [if_neg (by rw [e1]; exact h1)]
    refine cw_seq (cw_region (sr rfl rfl rfl ((q_move rfl rfl)) (sr rfl rfl rfl ((q_assign rfl rfl)) (sr rfl rfl rfl ((q_assign rfl rfl)) (sw_nil (post_then (cw_ret (post_then_r (post_ret2 rfl (resOk_tmp rfl) (resOk_tmp rfl) ?_)))))))))
    exact fun w' hw => ⟨⟨none, 0, 0⟩, by rw [e1]; rfl, trivial, by rw [e2]; exact Cl.addNil 9 ((fun w h => Cl.sel (by exact .nil _) w h) _ hw)⟩
  · skip
    have h1 : lexE l = 0 := by simpa using h
    have hr := (lexE_ok h1).1
    have hE : splE l s = if wordOk s then (if splV (okW l s) s.size 0 < 0 then 5 else 0) else 2 := by unfold splE; rw [if_pos h1]
    refine cw_skip (post_then (cw_seq (cw_seq (cw_region (sr rfl rfl rfl ((q_move rfl rfl)) ?_)))))
    refine sw_step rfl rfl rfl (q_call (CanCall.mk Tryz.call62) rfl (.cons rfl inferInstance (.nil)) (fun _ w hw => callq hw (isWord_spec _ w (by assumption) (stb_arg hw (by assumption))))) ?_
    refine sr rfl rfl rfl ((q_not rfl rfl)) (sw_nil (post_then ?_))
    refine cw_cond rfl (fun h2 => ?_) (fun h2 => ?_)
    · skip
      have e1 : splE l s = 2 := by rw [hE, if_neg (by simpa using h2)]
      have e2 : splR l s = [] := by unfold splR; rw [if_neg (by rw [e1]; decide)]
      refine cw_seq (cw_region (sr rfl rfl rfl ((q_assign rfl rfl)) (sr rfl rfl rfl ((q_assign rfl rfl)) (sw_nil (post_then (cw_ret (post_then_r (post_ret2 rfl (resOk_tmp rfl) (resOk_tmp rfl) ?_))))))))
      exact fun w' hw => ⟨⟨none, 0, 0⟩, by rw [e1]; rfl, trivial, by rw [e2]; exact Cl.addNil 9 ((fun w h => Cl.sel (by exact .nil _) w h) _ hw)⟩
    · skip
      have h3 : wordOk s = true := by simpa using h2
      rw [if_pos h3] at hE
      refine cw_skip (post_then (cw_seq (cw_region (sr rfl rfl rfl ((q_move rfl rfl)) (sr rfl rfl rfl ((q_move rfl rfl)) ?_)))))
      refine sw_x rfl rfl rfl (e_call (CanCall.mk Tryz.call96) rfl (.cons rfl inferInstance (.cons rfl inferInstance (.nil))) (fun w1 hw => split_spec sv l s hr hz w1 (stb_arg hw hs))) (fun s18 => ?_)
      refine sw_imp fun hnil => (sr rfl rfl rfl ((q_assign rfl rfl)) (sw_nil (post_then (cw_seq (cw_seq (cw_region (sr rfl rfl rfl ((q_move rfl rfl)) (sr rfl rfl rfl ((q_eqlNil rfl rfl)) (sw_nil (post_then ?_))))))))))
      rw [hnil]
      refine cw_cond rfl (fun h4 => ?_) (fun h4 => ?_)
      · skip
        have h5 : splV (okW l s) s.size 0 < 0 := by simpa using h4
        have e1 : splE l s = 5 := by rw [hE, if_pos h5]
        have e2 : splR l s = [] := by unfold splR; rw [if_neg (by rw [e1]; decide)]
        refine cw_seq (cw_region (sr rfl rfl rfl ((q_assign rfl rfl)) (sr rfl rfl rfl ((q_assign rfl rfl)) (sw_nil (post_then (cw_ret (post_then_r (post_ret2 rfl (resOk_tmp rfl) (resOk_tmp rfl) ?_))))))))
        exact fun w' hw => ⟨⟨none, 0, 0⟩, by rw [e1]; rfl, trivial, by rw [e2]; exact Cl.addNil 9 ((fun w h => Cl.sel (by exact .nil _) w h) _ hw)⟩
      · skip
        have h5 : ¬ splV (okW l s) s.size 0 < 0 := by simpa using h4
        have e1 : splE l s = 0 := by rw [hE, if_neg h5]
        have e2 : splR l s = splS l s := by unfold splR; rw [if_pos e1]
        rw [if_neg h5]
        refine cw_skip (post_then (cw_seq (cw_region (sr rfl rfl rfl ((q_move rfl rfl)) (sr rfl rfl rfl ((q_assign rfl rfl)) (sr rfl rfl rfl ((q_assign rfl rfl)) (sw_nil (post_then (cw_ret (post_ret2 rfl (resOk_tmp rfl) (resOk_tmp rfl) ?_))))))))))
        exact fun w' hw => ⟨s18, by rw [e1], trivial, by rw [e2]; exact (fun w h => Cl.sel (by exact .take 0 rfl (.nil _)) w h) _ hw⟩
end Go.Proofs.YtkmbliojafefdaaGreatDoor

set_option autoImplicit false
set_option maxRecDepth 100000
namespace Go.Proofs.YtkmbliojafefdaaGreatDoor
open Go.Sx
open Enc (enc val)
structure CdAt (t : List Cond) (m : Nat) : Prop where
  ok : condOk (nth t m) = true
  lt : 0 < m → (nth t (m - 1)).at_ < (nth t m).at_
structure ChAt (rl : List Chc) (j : Nat) : Prop where
  ph : phonesOk (nth rl j).pl 3 = true
  two : (nth rl j).tl.length ≤ 2
  emp : (nth rl j).tl.length = 0 ↔ j + 1 = rl.length
  cs : ∀ m, m < (nth rl j).tl.length → CdAt (nth rl j).tl m
structure LeAt (bl : List Let) (k : Nat) : Prop where
  c : possC (nth bl k).c = true
  lt : 0 < k → (nth bl (k - 1)).c < (nth bl k).c
  l1 : 1 ≤ (nth bl k).rl.length
  l2 : (nth bl k).rl.length ≤ 1000
  rs : ∀ j, j < (nth bl k).rl.length → ChAt (nth bl k).rl j
end Go.Proofs.YtkmbliojafefdaaGreatDoor

set_option autoImplicit false
set_option maxRecDepth 100000
namespace Go.Proofs.YtkmbliojafefdaaGreatDoor
open Go.Sx
open Enc (enc val)
end Go.Proofs.YtkmbliojafefdaaGreatDoor

set_option autoImplicit false
set_option maxRecDepth 100000
namespace Go.Proofs.YtkmbliojafefdaaGreatDoor
open Go.Sx
open Enc (enc val)
theorem splP_mem {ok : Nat → Nat → Bool} {n : Nat} : ∀ (f i : Nat), 0 ≤ splV ok n i → ∀ p ∈ splP ok n f i, ok p.1 p.2 = true ∧ p.2 ≤ n
  | 0, _, _, p, hp => by cases hp
  | f + 1, i, h, p, hp => by
    unfold splP at hp
    split at hp
    · rename_i hi
      obtain ⟨a1, a2, a3, a4, a5, a6, a7⟩ := splX_spec hi h
      rcases List.mem_cons.1 hp with rfl | hp
      · exact ⟨a4, a2⟩
      · exact splP_mem f _ a5 p hp
    · cases hp
theorem splS_mem {l : List Sp} {s : ByteArray} (h : ¬ splV (okW l s) s.size 0 < 0) : ∀ q ∈ splS l s, 0 ≤ idxW l q ∧ q.size ≤ s.size := fun q hq => by
  unfold splS at hq
  obtain ⟨p, hp, rfl⟩ := List.mem_map.1 hq
  obtain ⟨h1, h2⟩ := splP_mem _ _ (by omega) p hp
  unfold okW at h1
  exact ⟨by simpa using h1, by rw [ByteArray.size_extract]; omega⟩
theorem splS_le (l : List Sp) (s : ByteArray) (h : ¬ splV (okW l s) s.size 0 < 0) : (splS l s).length ≤ s.size + 1 := by
  unfold splS
  rw [List.length_map]
  by_cases h0 : 0 < s.size
  · have h1 := splP_len (ok := okW l s) (n := s.size) s.size 0 (by omega) (by omega) (by omega) h0
    have : splV (okW l s) s.size 0 ≤ 1 + (s.size : Int) := by
      unfold splV
      rw [if_pos rfl]
      exact (bestK_bd (ok := okW l s) (f := partsD (okW l s) s.size) (i := 0) (B := (s.size : Int)) (c := s.size - 1) (by omega) fun k a b => by have := (partsD_bd (ok := okW l s) (n := s.size) (q := s.size) (i := k) (by omega) (by omega)).2; omega).2
    omega
  · have : s.size = 0 := by omega
    rw [this]; simp [splP]
end Go.Proofs.YtkmbliojafefdaaGreatDoor

set_option autoImplicit false
set_option maxRecDepth 100000
namespace Go.Proofs.YtkmbliojafefdaaGreatDoor
open Go.Sx
theorem ba_ext {a b : ByteArray} (h : a.data = b.data) : a = b := by cases a; cases b; simp only at h; rw [h]
theorem ext_join {s : ByteArray} {i k n : Nat} (h1 : i ≤ k) (h2 : k ≤ n) (h3 : n ≤ s.size) : s.extract i k ++ s.extract k n = s.extract i n := by
  rw [ByteArray.extract_append_extract, Nat.min_eq_left h1, Nat.max_eq_right h2]
theorem ext_none {s : ByteArray} {i : Nat} : s.extract i i = ⟨#[]⟩ := by
  apply ba_ext
  rw [ByteArray.data_extract]
  simp; omega
theorem ext_app1 (u v : ByteArray) : (u ++ v).extract 0 u.size = u := ByteArray.extract_append_eq_left rfl
theorem ext_app2 (u v : ByteArray) : (u ++ v).extract u.size (u ++ v).size = v := ByteArray.extract_append_eq_right rfl ByteArray.size_append
theorem nil_app (x : ByteArray) : (⟨#[]⟩ : ByteArray) ++ x = x := by
  apply ba_ext
  rw [ByteArray.data_append]
  show #[] ++ x.data = x.data
  rw [Array.empty_append]
theorem app_nil (x : ByteArray) : x ++ (⟨#[]⟩ : ByteArray) = x := by
  apply ba_ext
  rw [ByteArray.data_append]
  show x.data ++ #[] = x.data
  rw [Array.append_empty]
def joinB (l : List ByteArray) : ByteArray := l.foldl (· ++ ·) ⟨#[]⟩
theorem joinB_take {l : List ByteArray} {k : Nat} (hk : k < l.length) : joinB (l.take (k + 1)) = joinB (l.take k) ++ nth l k := by
  unfold joinB
  rw [List.take_succ_eq_append_getElem hk, List.foldl_append, nth_get hk]; rfl
theorem fold_app (l : List ByteArray) (a : ByteArray) : l.foldl (· ++ ·) a = a ++ joinB l := by
  induction l generalizing a with
  | nil => exact (app_nil a).symm
  | cons x l ih =>
    unfold joinB
    rw [List.foldl_cons, List.foldl_cons, ih, ih (⟨#[]⟩ ++ x), nil_app, ByteArray.append_assoc]
theorem joinB_cons (x : ByteArray) (l : List ByteArray) : joinB (x :: l) = x ++ joinB l := by
  unfold joinB
  rw [List.foldl_cons, fold_app, nil_app]; rfl
theorem splP_join {ok : Nat → Nat → Bool} {s : ByteArray} : ∀ (f i : Nat), i ≤ s.size → s.size - i ≤ f → 0 ≤ splV ok s.size i → joinB ((splP ok s.size f i).map fun p => s.extract p.1 p.2) = s.extract i s.size
  | 0, i, hi, h, _ => by
    have : i = s.size := by omega
    subst this
    rw [ext_none]; rfl
  | f + 1, i, hi, h, h0 => by
    unfold splP
    by_cases h1 : i < s.size
    · obtain ⟨a1, a2, a3, a4, a5, a6, a7⟩ := splX_spec h1 h0
      rw [if_pos h1, List.map_cons, joinB_cons, splP_join f _ a2 (by omega) a5]
      exact ext_join (by omega) a2 (Nat.le_refl _)
    · have : i = s.size := by omega
      rw [if_neg h1, this, ext_none]; rfl
theorem ext_all (s : ByteArray) : s.extract 0 s.size = s := ByteArray.extract_zero_size
theorem splS_join {l : List Sp} {s : ByteArray} (h : ¬ splV (okW l s) s.size 0 < 0) : joinB (splS l s) = s := by
  unfold splS
  rw [splP_join _ _ (by omega) (by omega) (by omega), ext_all]
theorem splV_two {ok : Nat → Nat → Bool} {n : Nat} (hn : 0 < n) (h : 0 ≤ splV ok n 0) : 2 ≤ splV ok n 0 := by
  obtain ⟨a1, a2, a3, a4, a5, a6, a7⟩ := splX_spec hn h
  rw [splV_pos a1] at a5 a6
  rcases partsD_pos (ok := ok) (n := n) (j := splX ok n 0) (a3 rfl) with h1 | h1 <;> omega
/-- A first part and a way on bound what the split costs. -/
theorem splV_first {ok : Nat → Nat → Bool} {n k : Nat} (h0 : 0 < k) (hk : k < n) (ho : ok 0 k = true) (hd : 0 ≤ partsD ok n k) : 0 ≤ splV ok n 0 ∧ splV ok n 0 ≤ 1 + partsD ok n k := by
  unfold splV
  rw [if_pos rfl]
  rcases bestK_spec (ok := ok) (f := partsD ok n) (i := 0) (n - 1) with ⟨g1, g2⟩ | ⟨k2, g1, g2, g3, g4, g5, g6⟩
  · have := g2 k h0 (by omega) ho; omega
  · have := g6 k h0 (by omega) ho hd; omega
theorem partsD_last {ok : Nat → Nat → Bool} {n k : Nat} (hk : k < n) (ho : ok k n = true) : partsD ok n k = 1 := by
  rw [partsD_step hk]
  rcases bestK_spec (ok := ok) (f := partsD ok n) (i := k) (n - k) with ⟨g1, g2⟩ | ⟨k2, g1, g2, g3, g4, g5, g6⟩
  · have := g2 n hk (by omega) ho
    rw [partsD_end] at this; omega
  · have := g6 n hk (by omega) ho (by rw [partsD_end]; omega)
    rw [partsD_end] at this; omega
theorem partsD_mid {ok : Nat → Nat → Bool} {n k m : Nat} (hk : k < m) (hm : m < n) (ho : ok k m = true) (hd : partsD ok n m = 1) : 0 ≤ partsD ok n k ∧ partsD ok n k ≤ 2 := by
  rw [partsD_step (by omega)]
  rcases bestK_spec (ok := ok) (f := partsD ok n) (i := k) (n - k) with ⟨g1, g2⟩ | ⟨k2, g1, g2, g3, g4, g5, g6⟩
  · have := g2 m hk (by omega) ho; omega
  · have := g6 m hk (by omega) ho (by omega); omega
theorem okW_is {l : List Sp} {s : ByteArray} {i k : Nat} {j : Nat} (hj : j < l.length) (h : s.extract i k = (nth l j).word) : okW l s i k = true := by
  unfold okW
  rw [decide_eq_true_eq, h]
  unfold idxW
  have : l.any (fun u : Sp => decide (u.word = (nth l j).word)) = true := List.any_eq_true.2 ⟨_, nth_mem hj, by simp⟩
  rw [← idxP_any] at this
  simpa using this
def Pair (l : List Sp) (s : ByteArray) : Prop := ∃ i j, i < l.length ∧ j < l.length ∧ (nth l i).word ++ (nth l j).word = s
def Triple (l : List Sp) (s : ByteArray) : Prop := ∃ i j k, i < l.length ∧ j < l.length ∧ k < l.length ∧ (nth l i).word ++ (nth l j).word ++ (nth l k).word = s
theorem pair_two {l : List Sp} {s : ByteArray} (hne : ∀ u ∈ l, 0 < u.word.size) (h : Pair l s) : splV (okW l s) s.size 0 = 2 := by
  obtain ⟨i, j, hi, hj, e⟩ := h
  have h1 := hne _ (nth_mem hi)
  have h2 := hne _ (nth_mem hj)
  have hs : s.size = (nth l i).word.size + (nth l j).word.size := by rw [← e, ByteArray.size_append]
  have o1 : okW l s 0 (nth l i).word.size = true := okW_is hi (by rw [← e]; exact ext_app1 _ _)
  have o2 : okW l s (nth l i).word.size s.size = true := okW_is hj (by rw [← e]; exact ext_app2 _ _)
  have d1 := partsD_last (ok := okW l s) (n := s.size) (k := (nth l i).word.size) (by omega) o2
  have d2 := splV_first (ok := okW l s) (n := s.size) h1 (by omega) o1 (by omega)
  have d3 := splV_two (ok := okW l s) (n := s.size) (by omega) d2.1
  omega
theorem two_pair {l : List Sp} {s : ByteArray} (h0 : 0 < s.size) (h : splV (okW l s) s.size 0 = 2) : Pair l s := by
  obtain ⟨a1, a2, a3, a4, a5, a6, a7⟩ := splX_spec (ok := okW l s) h0 (by omega)
  obtain ⟨k, hk⟩ : ∃ k, splX (okW l s) s.size 0 = k := ⟨_, rfl⟩
  rw [hk] at a1 a2 a3 a4 a5 a6
  have hkn := a3 rfl
  obtain ⟨b1, b2, b3, b4, b5, b6, b7⟩ := splX_spec (ok := okW l s) hkn a5
  have hx : splX (okW l s) s.size k = s.size := by
    rcases Nat.lt_or_ge (splX (okW l s) s.size k) s.size with c | c
    · rw [splV_pos (by omega : 0 < splX (okW l s) s.size k)] at b5 b6
      rcases partsD_pos (ok := okW l s) (n := s.size) (j := splX (okW l s) s.size k) c with c1 | c1 <;> omega
    · omega
  rw [hx] at b4
  have g1 : 0 ≤ idxW l (s.extract 0 k) := by unfold okW at a4; simpa using a4
  have g2 : 0 ≤ idxW l (s.extract k s.size) := by unfold okW at b4; simpa using b4
  have w1 : ∀ q, 0 ≤ idxW l q → ∃ i, i < l.length ∧ (nth l i).word = q := fun q hq => by
    have : l.any (fun u : Sp => decide (u.word = q)) = true := by rw [← idxP_any]; simpa [idxW] using hq
    obtain ⟨u, hu, hw⟩ := List.any_eq_true.1 this
    obtain ⟨i, hi, rfl⟩ := List.getElem_of_mem hu
    exact ⟨i, hi, by rw [nth_get hi]; simpa using hw⟩
  obtain ⟨i, hi, e1⟩ := w1 _ g1
  obtain ⟨j, hj, e2⟩ := w1 _ g2
  refine ⟨i, j, hi, hj, ?_⟩
  rw [e1, e2, ext_join (by omega) (by omega) (Nat.le_refl _), ext_all]
theorem triple_three {l : List Sp} {s : ByteArray} (hne : ∀ u ∈ l, 0 < u.word.size) (h : Triple l s) (hp : ¬ Pair l s) : splV (okW l s) s.size 0 = 3 := by
  obtain ⟨i, j, k, hi, hj, hk, e⟩ := h
  have h1 := hne _ (nth_mem hi)
  have h2 := hne _ (nth_mem hj)
  have h3 := hne _ (nth_mem hk)
  have hs : s.size = (nth l i).word.size + (nth l j).word.size + (nth l k).word.size := by rw [← e, ByteArray.size_append, ByteArray.size_append]
  have o1 : okW l s 0 (nth l i).word.size = true := okW_is hi (by rw [← e, ByteArray.append_assoc]; exact ext_app1 _ _)
  have o2 : okW l s (nth l i).word.size ((nth l i).word.size + (nth l j).word.size) = true := okW_is hj (by
    have q1 : s.extract (nth l i).word.size s.size = (nth l j).word ++ (nth l k).word := by rw [← e, ByteArray.append_assoc]; exact ext_app2 _ _
    have q2 : (s.extract (nth l i).word.size s.size).extract 0 (nth l j).word.size = s.extract (nth l i).word.size ((nth l i).word.size + (nth l j).word.size) := by
      rw [ByteArray.extract_extract]; congr 1; omega
    rw [← q2, q1]; exact ext_app1 _ _)
  have o3 : okW l s ((nth l i).word.size + (nth l j).word.size) s.size = true := okW_is hk (by
    have := ext_app2 ((nth l i).word ++ (nth l j).word) (nth l k).word
    rw [e, ByteArray.size_append] at this
    exact this)
  have d1 := partsD_last (ok := okW l s) (n := s.size) (k := (nth l i).word.size + (nth l j).word.size) (by omega) o3
  have d2 := partsD_mid (ok := okW l s) (n := s.size) (k := (nth l i).word.size) (by omega) (by omega) o2 d1
  have d3 := splV_first (ok := okW l s) (n := s.size) h1 (by omega) o1 d2.1
  have d4 := splV_two (ok := okW l s) (n := s.size) (by omega) d3.1
  have d5 : splV (okW l s) s.size 0 ≠ 2 := fun e => hp (two_pair (by omega) e)
  omega
end Go.Proofs.YtkmbliojafefdaaGreatDoor

set_option autoImplicit false
set_option maxRecDepth 100000
namespace Go.Proofs.YtkmbliojafefdaaGreatDoor
open Go.Sx
open Enc (enc val)
def FwOk (l : List Sp) (s : ByteArray) (f : Int) : Prop := f = 0 ∨ (f = 2 ∧ Pair l s) ∨ (f = 3 ∧ Triple l s)
theorem fw_end {l : List Sp} {s : ByteArray} {f : Int} (hne : ∀ u ∈ l, 0 < u.word.size) (hs0 : 0 < s.size) (h : FwOk l s f) (h2 : ∀ a b, a < l.length → b < l.length → (nth l a).word ++ (nth l b).word = s → f = 2) : f = 0 ∨ (¬ splV (okW l s) s.size 0 < 0 ∧ ((splS l s).length : Int) = f) := by
  have hlen : ∀ v : Int, splV (okW l s) s.size 0 = v → 0 ≤ v → ((splS l s).length : Int) = v := fun v hv h0 => by
    have := splP_len (ok := okW l s) (n := s.size) s.size 0 (by omega) (by omega) (by omega) hs0
    unfold splS
    rw [List.length_map]; omega
  rcases h with h | ⟨h, hp⟩ | ⟨h, ht⟩
  · exact .inl h
  · have := pair_two hne hp
    exact .inr ⟨by omega, by rw [h]; exact hlen 2 this (by omega)⟩
  · have := triple_three hne ht (fun ⟨a, b, ha, hb, e⟩ => by have := h2 a b ha hb e; omega)
    exact .inr ⟨by omega, by rw [h]; exact hlen 3 this (by omega)⟩
theorem fewest_spec (sl : SlV) (l : List Sp) (s : ByteArray) (hsz : s.size ≤ 9223372036854775807) (hz : ∀ u ∈ l, u.word.size ≤ 9223372036854775807) (w : World) (hT : Stb w [] Tab) (hs : Stb w [] (RdL sl.v l)) (hsi : Stb w [] fun w' => ∀ u ∈ l, SpIn u w') :
    Calls Tryz.prog 13 #[sl.v, .string s] w fun e w' => e = .returned (.bool true) ∧ Cl w [] [] w' := by
  have hL1 := rd_len hs.here
  refine calls_cw (vs := [_, _]) Tryz.func13 rfl Tryz.ntmps13 rfl (Cl.start0 w) (cw_seq (cw_region (sr rfl rfl rfl ((q_assign rfl rfl)) (sw_nil (post_then (cw_seq (cw_seq (cw_region (sr rfl rfl rfl ((q_move rfl rfl)) ?_)))))))))
  refine sr rfl rfl rfl ((q_len rfl (.cons rfl inferInstance (.nil)) (by exact fun w hw => Stb.cl (by assumption) hw))) ?_
  refine sr rfl rfl rfl ((q_gtr rfl rfl rfl)) (sr rfl rfl rfl ((q_move rfl rfl)) (sr rfl rfl rfl ((q_move rfl rfl)) (sw_step rfl rfl rfl (q_call (CanCall.mk Tryz.call27) rfl (.cons rfl inferInstance (.cons rfl inferInstance (.nil))) (fun _ w hw => callq hw (lawLex_spec _ l 5 hz w (stb_arg hw hs) (stb_arg hw hsi)))) (sr rfl rfl rfl ((q_not rfl rfl)) (sr rfl rfl rfl ((q_or2 rfl rfl rfl)) (sr rfl rfl rfl ((q_move rfl rfl)) (sr rfl rfl rfl ((q_move rfl rfl)) (sr rfl rfl rfl ((q_lenS rfl (.cons rfl inferInstance (.nil)) Tryz.underlying9)) (sr rfl rfl rfl ((q_gtr rfl rfl rfl)) (sr rfl rfl rfl ((q_or2 rfl rfl rfl)) (sr rfl rfl rfl ((q_move rfl rfl)) (sr rfl rfl rfl ((q_move rfl rfl)) ?_))))))))))))
  refine sw_step rfl rfl rfl (q_call (CanCall.mk Tryz.call51) rfl (.cons rfl inferInstance (.nil)) (fun hcs w hw => callq hw (refLexicon_spec _ l (fun u hu => by simp [AllT] at hcs; have z := lawLex_z hcs.1.2 u hu; exact ⟨by omega, fun b hb => by have := z.2.2 b hb; omega⟩) w (stb_arg hw hT) (stb_arg hw hs) (stb_arg hw hsi)))) ?_
  refine sr rfl rfl rfl ((q_not rfl rfl)) (sr rfl rfl rfl ((q_or2 rfl rfl rfl)) (sw_nil (post_then ?_)))
  refine cw_cond rfl (fun h => ?_) (fun h => ?_)
  · skip
    refine cw_seq (cw_region ?_)
    refine sw_step rfl rfl rfl (q_call (CanCall.mk Tryz.call19) rfl (.nil) (fun _ w hw => callq hw (known_spec w (stb_arg hw (by assumption))))) ?_
    refine sr rfl rfl rfl ((q_assign rfl rfl)) (sw_nil (post_then (cw_ret (post_then_r (post_ret1 rfl (resOk_tmp rfl) ?_)))))
    exact fun w' hw => ⟨rfl, (fun w h => Cl.sel (by exact .nil _) w h) _ hw⟩
  · skip
    have h1 : l.length ≤ 5 ∧ lawLex l 5 = true ∧ s.size ≤ 12 ∧ lexOk l = true := by
      simp at h; exact ⟨by omega, h.1.1.2, by omega, h.2⟩
    obtain ⟨c0, c1, c2, c3⟩ := h1
    have z1 := lawLex_z c1
    have hl0 : lexE l = 0 := by
      show (if 3000 < l.length then 4 else if lexOk l = true then 0 else 2) = (0 : Int)
      rw [if_neg (by omega), if_pos c3]
    have hok := (lexE_ok hl0).2
    have hne : ∀ u ∈ l, 0 < u.word.size := fun u hu => by
      have h2 := List.all_eq_true.1 hok u hu
      rw [spOk, Bool.and_eq_true] at h2
      have h3 := runes_len_le u.word
      have h4 := h2.1
      simp [wordOk] at h4
      omega
    refine cw_skip (post_then (cw_seq (cw_seq (cw_region (sr rfl rfl rfl ((q_move rfl rfl)) ?_)))))
    refine sw_x rfl rfl rfl (e_call (CanCall.mk Tryz.call21) rfl (.cons rfl inferInstance (.nil)) (fun w1 hw => refLetters_spec s w1 (by omega) (stb_arg hw hT))) (fun s38 => ?_)
    refine sw_imp fun _ => (sr rfl rfl rfl ((q_move rfl rfl)) (sr rfl rfl rfl ((q_extract rfl rfl rfl)) (sr rfl rfl rfl ((q_extract rfl rfl rfl)) (sr rfl rfl rfl ((q_assign rfl rfl)) (sr rfl rfl rfl ((q_assign rfl rfl)) (sw_nil (post_then (cw_seq (cw_region (sr rfl rfl rfl ((q_move rfl rfl)) (sr rfl rfl rfl ((q_not rfl rfl)) (sw_nil (post_then ?_)))))))))))))
    refine cw_cond rfl (fun h2 => ?_) (fun h2 => ?_)
    · skip
      refine cw_seq (cw_region ?_)
      refine sw_step rfl rfl rfl (q_call (CanCall.mk Tryz.call19) rfl (.nil) (fun _ w hw => callq hw (known_spec w (stb_arg hw (by assumption))))) ?_
      refine sr rfl rfl rfl ((q_assign rfl rfl)) (sw_nil (post_then (cw_ret (post_then_r (post_ret1 rfl (resOk_tmp rfl) ?_)))))
      exact fun w' hw => ⟨rfl, (fun w h => Cl.sel (by exact .nil _) w h) _ hw⟩
    · skip
      have hwo : wordOk s = true := by simpa using h2
      have hs0 : 0 < s.size := by
        have h3 := runes_len_le s
        have h4 := hwo
        simp [wordOk] at h4
        omega
      have hsE : splE l s = if splV (okW l s) s.size 0 < 0 then 5 else 0 := by unfold splE; rw [if_pos hl0, if_pos hwo]
      refine cw_skip (post_then (cw_seq (cw_region (sr rfl rfl rfl ((q_move rfl rfl)) (sr rfl rfl rfl ((q_move rfl rfl)) ?_)))))
      refine sw_x rfl rfl rfl (e_call (CanCall.mk Tryz.call53) rfl (.cons rfl inferInstance (.cons rfl inferInstance (.nil))) (fun w1 hw => splitP_spec sl l s (fun u hu => by have := z1 u hu; omega) (by omega) w1 (stb_arg hw hT) (stb_arg hw hs) (stb_arg hw hsi))) (fun s47 => ?_)
      refine sw_imp fun _ => ?_
      obtain ⟨ps, hps⟩ : ∃ ps, splR l s = ps := ⟨_, rfl⟩
      obtain ⟨E0, hE0⟩ : ∃ E0, splE l s = E0 := ⟨_, rfl⟩
      have hpv : splV (okW l s) s.size 0 < 0 → ps = [] := fun hv => by
        rw [← hps]; unfold splR; rw [if_neg (by rw [hsE, if_pos hv]; decide)]
      have hpw : ¬ splV (okW l s) s.size 0 < 0 → ps = splS l s ∧ E0 = 0 := fun hv => by
        have e : splE l s = 0 := by rw [hsE, if_neg hv]
        exact ⟨by rw [← hps]; unfold splR; rw [if_pos e], by rw [← hE0, e]⟩
      have hE5 : splV (okW l s) s.size 0 < 0 → E0 = 5 := fun hv => by rw [← hE0, hsE, if_pos hv]
      have hmem : ∀ q ∈ ps, 0 ≤ idxW l q ∧ q.size ≤ s.size := by
        by_cases hv : splV (okW l s) s.size 0 < 0
        · rw [hpv hv]; intro q hq; cases hq
        · rw [(hpw hv).1]; exact splS_mem hv
      have hle : ps.length ≤ 13 := by
        by_cases hv : splV (okW l s) s.size 0 < 0
        · rw [hpv hv]; simp
        · rw [(hpw hv).1]; have := splS_le l s hv; omega
      rw [hps, hE0]
      refine sr rfl rfl rfl ((q_move rfl rfl)) (sr rfl rfl rfl ((q_extract rfl rfl rfl)) (sr rfl rfl rfl ((q_extract rfl rfl rfl)) (sr rfl rfl rfl ((q_assign rfl rfl)) (sr rfl rfl rfl ((q_assign rfl rfl)) (sw_nil (post_then (cw_seq (cw_region (sr rfl rfl rfl ((q_assign rfl rfl)) (sw_nil (post_then (cw_seq (cw_seq (cw_region (sr rfl rfl rfl ((q_assign rfl rfl)) (sw_nil (post_then (cw_block ?_))))))))))))))))))
      refine cw_loop (S := Nat × ByteArray) (fun y => [(0, [], sl.v), (1, [], .string s), (7, [], s47.v), (8, [], .int .i64 E0), (9, [], .string y.2), (10, [], .int .i64 y.1)]) (fun _ => Cl w [] [ownL 9 s47.v ps]) (fun y => y.1 ≤ ps.length ∧ y.2.size ≤ 60 * y.1 ∧ y.2 = joinB (ps.take y.1)) (fun y => ps.length - y.1) (0, ⟨#[]⟩) ⟨by simp, Nat.le_refl _, rfl⟩ (by exact .cons rfl (.cons rfl (.cons rfl (.cons rfl (.cons rfl (.cons rfl .nil)))))) (fun w h => Cl.sel (by exact .take 0 rfl (.nil _)) w h) ?_
      rintro ⟨k, jn⟩ ⟨hk, hjs, hjn⟩
      dsimp only at hk hjs hjn ⊢
      refine cw_seq (cw_seq (cw_region (sr rfl rfl rfl ((q_move rfl rfl)) (sr rfl rfl rfl ((q_move rfl rfl)) ?_))))
      refine sr rfl rfl rfl ((q_len rfl (.cons rfl inferInstance (.nil)) (by exact fun w hw => rd_own hw (by exact .head _)))) ?_
      refine sr rfl rfl rfl ((q_lss rfl rfl rfl)) (sw_nil (post_then ?_))
      refine cw_cond rfl (fun h3 => ?_) (fun h3 => ?_)
      · skip
        have hk' : k < ps.length := by simp at h3; omega
        obtain ⟨q, hq⟩ : ∃ q, nth ps k = q := ⟨_, rfl⟩
        have hqm := hmem q (by rw [← hq]; exact nth_mem hk')
        have hqs : (nth ps k).size ≤ 12 := by rw [hq]; omega
        have hjt := joinB_take hk'
        rw [← hjn] at hjt
        refine cw_skip (post_then (cw_seq (cw_block (cw_seq (cw_region (sr rfl rfl rfl ((q_move rfl rfl)) (sr rfl rfl rfl ((q_move rfl rfl)) (sr rfl rfl rfl ((q_move rfl rfl)) ?_))))))))
        refine sr rfl rfl rfl ((q_indexN rfl rfl rfl (by exact fun w hw => rd_own hw (by exact .head _)) (by intro hc; omega))) ?_
        refine sr rfl rfl rfl ((q_loadEl rfl rfl rfl (by exact fun w hw => rd_own hw (by exact .head _)) (by intro hc; omega))) ?_
        refine sr rfl rfl rfl ((q_addS rfl rfl rfl (by intro hc; omega))) ?_
        refine sr rfl rfl rfl ((q_assign rfl rfl)) (sw_nil (post_then (cw_seq (cw_region (sr rfl rfl rfl ((q_assign rfl rfl)) (sw_nil (post_then (cw_seq (cw_seq (cw_region (sr rfl rfl rfl ((q_assign rfl rfl)) (sw_nil (post_then (cw_block ?_))))))))))))))
        refine cw_loop (S := Nat × Bool) (fun y => [(0, [], sl.v), (1, [], .string s), (7, [], s47.v), (8, [], .int .i64 E0), (9, [], .string (jn ++ nth ps k)), (10, [], .int .i64 k), (11, [], .bool y.2), (12, [], .int .i64 y.1)]) (fun _ => Cl w [] [ownL 9 s47.v ps]) (fun y => y.1 ≤ l.length ∧ (y.2 = false → ∀ j, j < y.1 → (nth l j).word ≠ nth ps k)) (fun y => l.length - y.1) (0, false) ⟨by simp, fun _ j hj => by simp at hj⟩ (by exact .cons rfl (.cons rfl (.cons rfl (.cons rfl (.cons rfl (.cons rfl (.cons rfl (.cons rfl .nil)))))))) (fun w h => Cl.sel (by exact .take 0 rfl (.nil _)) w h) ?_
        rintro ⟨m, met⟩ ⟨hm, hmet⟩
        dsimp only at hm hmet ⊢
        refine cw_seq (cw_seq (cw_region (sr rfl rfl rfl ((q_move rfl rfl)) (sr rfl rfl rfl ((q_move rfl rfl)) ?_))))
        refine sr rfl rfl rfl ((q_len rfl (.cons rfl inferInstance (.nil)) (by exact fun w hw => Stb.cl (by assumption) hw))) ?_
        refine sr rfl rfl rfl ((q_lss rfl rfl rfl)) (sw_nil (post_then ?_))
        refine cw_cond rfl (fun h4 => ?_) (fun h4 => ?_)
        · skip
          have hm' : m < l.length := by simp at h4; omega
          refine cw_skip (post_then (cw_seq (cw_block ?_)))
          refine cw_region_q mixed_Tryz (by kernel_rfl) ?_
          refine qr rfl rfl rfl ((q_move rfl rfl)) (qr rfl rfl rfl ((q_move rfl rfl)) (qr rfl rfl rfl ((q_move rfl rfl)) (qr rfl rfl rfl ((q_move rfl rfl)) ?_)))
          refine qr rfl rfl rfl ((q_indexN rfl rfl rfl (by exact fun w hw => Stb.cl (by assumption) hw) (by intro hc; omega))) ?_
          refine qr rfl rfl rfl ((q_fieldEl rfl rfl (by exact fun w hw => Stb.cl (by assumption) hw) (by intro hc; omega))) ?_
          refine qr rfl rfl rfl ((q_loadF rfl rfl rfl (by exact fun w hw => Stb.cl (by assumption) hw) (by intro hc; omega) rfl)) ?_
          refine qr rfl rfl rfl ((q_move rfl rfl)) (qr rfl rfl rfl ((q_move rfl rfl)) ?_)
          refine qr rfl rfl rfl ((q_indexN rfl rfl rfl (by exact fun w hw => rd_own hw (by exact .head _)) (by intro hc; omega))) ?_
          refine qr rfl rfl rfl ((q_loadEl rfl rfl rfl (by exact fun w hw => rd_own hw (by exact .head _)) (by intro hc; omega))) ?_
          refine qr rfl rfl rfl ((q_eqlStr rfl rfl rfl Tryz.underlying9)) (qr rfl rfl rfl ((q_or2 rfl rfl rfl)) (qr rfl rfl rfl ((q_assign rfl rfl)) (qw_end (post_blk (post_then (cw_region (sr rfl rfl rfl ((q_move rfl rfl)) ?_)))))))
          refine sr rfl rfl rfl ((q_add rfl rfl rfl (by intro hc; omega))) ?_
          refine sr rfl rfl rfl ((q_assign rfl rfl)) (sw_nil ?_)
          refine post_next (m + 1, met || decide ((nth l m).word = nth ps k)) (by exact .cons rfl (.cons rfl (.cons rfl (.cons rfl (.cons rfl (.cons rfl (.cons rfl (.cons rfl .nil)))))))) (fun w h => Cl.sel (by exact .take 0 rfl (.nil _)) w h) ⟨by simp only; omega, fun hf j hj => ?_⟩ (by simp only; omega)
          simp only [Bool.or_eq_false_iff, decide_eq_false_iff_not] at hf hj
          rcases Nat.lt_or_ge j m with b1 | b1
          · exact hmet hf.1 j b1
          · have : j = m := by omega
            subst this; exact hf.2
        · skip
          have hm' : m = l.length := by simp at h4; omega
          have hmt : met = true := by
            cases hx : met with
            | true => rfl
            | false =>
              exfalso
              have h5 := hmet hx
              have : idxW l q = -1 := idxP_none (p := fun u : Sp => decide (u.word = q)) fun j hj => by
                rw [decide_eq_false_iff_not, ← hq]; exact h5 j (by omega)
              omega
          subst hmt
          refine cw_exit (post_then_x (post_then_x (post_blk_eq (post_then (cw_seq (cw_region (sr rfl rfl rfl ((q_move rfl rfl)) (sr rfl rfl rfl ((q_not rfl rfl)) (sw_nil (post_then ?_))))))))))
          refine cw_cond rfl (fun h5 => ?_) (fun h5 => ?_)
          · skip
            exfalso
            simp at h5
          · skip
            refine cw_skip (post_blk (post_then (cw_region (sr rfl rfl rfl ((q_move rfl rfl)) ?_))))
            refine sr rfl rfl rfl ((q_add rfl rfl rfl (by intro hc; omega))) ?_
            refine sr rfl rfl rfl ((q_assign rfl rfl)) (sw_nil ?_)
            exact post_next (k + 1, jn ++ nth ps k) (by exact .cons rfl (.cons rfl (.cons rfl (.cons rfl (.cons rfl (.cons rfl .nil)))))) (fun w h => Cl.sel (by exact .take 0 rfl (.nil _)) w h) ⟨by simp only; omega, by simp only [ByteArray.size_append]; omega, by simp only; rw [hjt]⟩ (by simp only; omega)
      · skip
        have hk' : k = ps.length := by simp at h3; omega
        have hjp : jn = joinB ps := by rw [hjn, hk', List.take_length]
        refine cw_exit (post_then_x (post_then_x (post_blk_eq (post_then (cw_seq (cw_seq (cw_region (sr rfl rfl rfl ((q_move rfl rfl)) (sr rfl rfl rfl ((q_eql rfl rfl rfl)) (sr rfl rfl rfl ((q_move rfl rfl)) (sr rfl rfl rfl ((q_move rfl rfl)) (sr rfl rfl rfl ((q_move rfl rfl)) (sr rfl rfl rfl ((q_neqStr rfl rfl rfl Tryz.underlying9)) (sr rfl rfl rfl ((q_move rfl rfl)) (sr rfl rfl rfl ((q_move rfl rfl)) ?_)))))))))))))))
        refine sr rfl rfl rfl ((q_len rfl (.cons rfl inferInstance (.nil)) (by exact fun w hw => rd_own hw (by exact .head _)))) ?_
        refine sr rfl rfl rfl ((q_lss rfl rfl rfl)) (sr rfl rfl rfl ((q_or2 rfl rfl rfl)) (sr rfl rfl rfl ((q_and2 rfl rfl rfl)) (sw_nil (post_then ?_))))
        refine cw_cond rfl (fun h4 => ?_) (fun h4 => ?_)
        · skip
          exfalso
          by_cases hv : splV (okW l s) s.size 0 < 0
          · rw [hE5 hv] at h4; simp at h4
          · obtain ⟨e1, e2⟩ := hpw hv
            have e3 : jn = s := by rw [hjp, e1, splS_join hv]
            have e4 := splV_two (ok := okW l s) (n := s.size) hs0 (by omega)
            have e5 := splP_len (ok := okW l s) (n := s.size) s.size 0 (by omega) (by omega) (by omega) hs0
            have e6 : (ps.length : Int) = splV (okW l s) s.size 0 := by rw [e1, ← e5]; unfold splS; rw [List.length_map]
            rw [e3] at h4
            simp at h4
            omega
        · skip
          refine cw_skip (post_then (cw_seq (cw_region (sr rfl rfl rfl ((q_assign rfl rfl)) (sw_nil (post_then (cw_seq (cw_seq (cw_region (sr rfl rfl rfl ((q_assign rfl rfl)) (sw_nil (post_then (cw_block ?_)))))))))))))
          refine cw_loop (S := Nat × Int) (fun y => [(0, [], sl.v), (1, [], .string s), (7, [], s47.v), (8, [], .int .i64 E0), (13, [], .int .i64 y.2), (14, [], .int .i64 y.1)]) (fun _ => Cl w [] [ownL 9 s47.v ps]) (fun y => y.1 ≤ l.length ∧ FwOk l s y.2 ∧ ∀ a b, a < y.1 → b < l.length → (nth l a).word ++ (nth l b).word = s → y.2 = 2) (fun y => l.length - y.1) (0, 0) ⟨by simp, .inl rfl, fun a b ha => by simp at ha⟩ (by exact .cons rfl (.cons rfl (.cons rfl (.cons rfl (.cons rfl (.cons rfl .nil)))))) (fun w h => Cl.sel (by exact .take 0 rfl (.nil _)) w h) ?_
          rintro ⟨i, fw⟩ ⟨hi, hfw, hpr⟩
          dsimp only at hi hfw hpr ⊢
          refine cw_seq (cw_seq (cw_region (sr rfl rfl rfl ((q_move rfl rfl)) (sr rfl rfl rfl ((q_move rfl rfl)) ?_))))
          refine sr rfl rfl rfl ((q_len rfl (.cons rfl inferInstance (.nil)) (by exact fun w hw => Stb.cl (by assumption) hw))) ?_
          refine sr rfl rfl rfl ((q_lss rfl rfl rfl)) (sw_nil (post_then ?_))
          refine cw_cond rfl (fun h5 => ?_) (fun h5 => ?_)
          · skip
            have hi' : i < l.length := by simp at h5; omega
            have hzi := (z1 _ (nth_mem hi')).1
            refine cw_skip (post_then (cw_seq (cw_block (cw_seq (cw_region (sr rfl rfl rfl ((q_assign rfl rfl)) (sw_nil (post_then (cw_block ?_)))))))))
            refine cw_loop (S := Nat × Int) (fun y => [(0, [], sl.v), (1, [], .string s), (7, [], s47.v), (8, [], .int .i64 E0), (13, [], .int .i64 y.2), (14, [], .int .i64 i), (15, [], .int .i64 y.1)]) (fun _ => Cl w [] [ownL 9 s47.v ps]) (fun y => y.1 ≤ l.length ∧ FwOk l s y.2 ∧ ∀ a b, (a < i ∧ b < l.length ∨ a = i ∧ b < y.1) → (nth l a).word ++ (nth l b).word = s → y.2 = 2) (fun y => l.length - y.1) (0, fw) ⟨by simp, hfw, fun a b hab => by
              rcases hab with hab | hab
              · exact hpr a b hab.1 hab.2
              · simp at hab⟩ (by exact .cons rfl (.cons rfl (.cons rfl (.cons rfl (.cons rfl (.cons rfl (.cons rfl .nil))))))) (fun w h => Cl.sel (by exact .take 0 rfl (.nil _)) w h) ?_
            rintro ⟨j, fw2⟩ ⟨hj, hfw2, hpr2⟩
            dsimp only at hj hfw2 hpr2 ⊢
            refine cw_seq (cw_seq (cw_region (sr rfl rfl rfl ((q_move rfl rfl)) (sr rfl rfl rfl ((q_move rfl rfl)) ?_))))
            refine sr rfl rfl rfl ((q_len rfl (.cons rfl inferInstance (.nil)) (by exact fun w hw => Stb.cl (by assumption) hw))) ?_
            refine sr rfl rfl rfl ((q_lss rfl rfl rfl)) (sw_nil (post_then ?_))
            refine cw_cond rfl (fun h6 => ?_) (fun h6 => ?_)
            · skip
              have hj' : j < l.length := by simp at h6; omega
              have hzj := (z1 _ (nth_mem hj')).1
              refine cw_skip (post_then (cw_seq (cw_block (cw_seq (cw_seq ?_)))))
              refine cw_region_q mixed_Tryz (by kernel_rfl) ?_
              refine qr rfl rfl rfl ((q_move rfl rfl)) (qr rfl rfl rfl ((q_move rfl rfl)) ?_)
              refine qr rfl rfl rfl ((q_indexN rfl rfl rfl (by exact fun w hw => Stb.cl (by assumption) hw) (by intro hc; omega))) ?_
              refine qr rfl rfl rfl ((q_fieldEl rfl rfl (by exact fun w hw => Stb.cl (by assumption) hw) (by intro hc; omega))) ?_
              refine qr rfl rfl rfl ((q_loadF rfl rfl rfl (by exact fun w hw => Stb.cl (by assumption) hw) (by intro hc; omega) rfl)) ?_
              refine qr rfl rfl rfl ((q_move rfl rfl)) (qr rfl rfl rfl ((q_move rfl rfl)) ?_)
              refine qr rfl rfl rfl ((q_indexN rfl rfl rfl (by exact fun w hw => Stb.cl (by assumption) hw) (by intro hc; omega))) ?_
              refine qr rfl rfl rfl ((q_fieldEl rfl rfl (by exact fun w hw => Stb.cl (by assumption) hw) (by intro hc; omega))) ?_
              refine qr rfl rfl rfl ((q_loadF rfl rfl rfl (by exact fun w hw => Stb.cl (by assumption) hw) (by intro hc; omega) rfl)) ?_
              refine qr rfl rfl rfl ((q_addS rfl rfl rfl (by intro hc; omega))) ?_
              refine qr rfl rfl rfl ((q_move rfl rfl)) (qr rfl rfl rfl ((q_eqlStr rfl rfl rfl Tryz.underlying9)) (qw_end (post_then ?_)))
              refine cw_cut (S := Int) (fun y => [(0, [], sl.v), (1, [], .string s), (7, [], s47.v), (8, [], .int .i64 E0), (13, [], .int .i64 y), (14, [], .int .i64 i), (15, [], .int .i64 j)]) (fun _ => Cl w [] [ownL 9 s47.v ps]) (fun y => FwOk l s y ∧ ∀ a b, (a < i ∧ b < l.length ∨ a = i ∧ b < j + 1) → (nth l a).word ++ (nth l b).word = s → y = 2) ?_ ?_
              · -- STOP at: cond
                refine cw_cond rfl (fun h7 => ?_) (fun h7 => ?_)
                · skip
                  have h8 : (nth l i).word ++ (nth l j).word = s := by simpa using h7
                  refine cw_region (sr rfl rfl rfl ((q_assign rfl rfl)) (sw_nil ?_))
                  exact post_meet (2 : Int) (by exact .cons rfl (.cons rfl (.cons rfl (.cons rfl (.cons rfl (.cons rfl (.cons rfl .nil))))))) (fun w h => Cl.sel (by exact .take 0 rfl (.nil _)) w h) ⟨.inr (.inl ⟨rfl, i, j, hi', hj', h8⟩), fun _ _ _ _ => rfl⟩
                · skip
                  have h8 : ¬ (nth l i).word ++ (nth l j).word = s := by simpa using h7
                  refine cw_skip ?_
                  refine post_meet fw2 (by exact .cons rfl (.cons rfl (.cons rfl (.cons rfl (.cons rfl (.cons rfl (.cons rfl .nil))))))) (fun w h => Cl.sel (by exact .take 0 rfl (.nil _)) w h) ⟨hfw2, fun a b hab e => ?_⟩
                  rcases hab with hab | ⟨rfl, hab⟩
                  · exact hpr2 a b (.inl hab) e
                  · rcases Nat.lt_or_ge b j with b1 | b1
                    · exact hpr2 a b (.inr ⟨rfl, b1⟩) e
                    · have : b = j := by omega
                      subst this; exact absurd e h8
              rintro fw3 ⟨hfw3, hpr3⟩
              refine post_then (cw_seq (cw_region (sr rfl rfl rfl ((q_assign rfl rfl)) (sw_nil (post_then (cw_block ?_))))))
              refine cw_loop (S := Nat × Int) (fun y => [(0, [], sl.v), (1, [], .string s), (7, [], s47.v), (8, [], .int .i64 E0), (13, [], .int .i64 y.2), (14, [], .int .i64 i), (15, [], .int .i64 j), (16, [], .int .i64 y.1)]) (fun _ => Cl w [] [ownL 9 s47.v ps]) (fun y => y.1 ≤ l.length ∧ FwOk l s y.2 ∧ ∀ a b, (a < i ∧ b < l.length ∨ a = i ∧ b < j + 1) → (nth l a).word ++ (nth l b).word = s → y.2 = 2) (fun y => l.length - y.1) (0, fw3) ⟨by simp, hfw3, hpr3⟩ (by exact .cons rfl (.cons rfl (.cons rfl (.cons rfl (.cons rfl (.cons rfl (.cons rfl (.cons rfl .nil)))))))) (fun w h => Cl.sel (by exact .take 0 rfl (.nil _)) w h) ?_
              rintro ⟨m, fw4⟩ ⟨hm, hfw4, hpr4⟩
              dsimp only at hm hfw4 hpr4 ⊢
              refine cw_seq (cw_seq (cw_region (sr rfl rfl rfl ((q_move rfl rfl)) (sr rfl rfl rfl ((q_move rfl rfl)) ?_))))
              refine sr rfl rfl rfl ((q_len rfl (.cons rfl inferInstance (.nil)) (by exact fun w hw => Stb.cl (by assumption) hw))) ?_
              refine sr rfl rfl rfl ((q_lss rfl rfl rfl)) (sw_nil (post_then ?_))
              refine cw_cond rfl (fun h7 => ?_) (fun h7 => ?_)
              · skip
                have hm' : m < l.length := by simp at h7; omega
                have hzm := (z1 _ (nth_mem hm')).1
                have hza : ((nth l i).word ++ (nth l j).word).size ≤ 120 := by rw [ByteArray.size_append]; omega
                refine cw_skip (post_then (cw_seq (cw_block (cw_seq ?_))))
                refine cw_region_q mixed_Tryz (by kernel_rfl) ?_
                refine qr rfl rfl rfl ((q_move rfl rfl)) (qr rfl rfl rfl ((q_eql rfl rfl rfl)) (qr rfl rfl rfl ((q_move rfl rfl)) (qr rfl rfl rfl ((q_move rfl rfl)) (qr rfl rfl rfl ((q_move rfl rfl)) ?_))))
                refine qr rfl rfl rfl ((q_indexN rfl rfl rfl (by exact fun w hw => Stb.cl (by assumption) hw) (by intro hc; omega))) ?_
                refine qr rfl rfl rfl ((q_fieldEl rfl rfl (by exact fun w hw => Stb.cl (by assumption) hw) (by intro hc; omega))) ?_
                refine qr rfl rfl rfl ((q_loadF rfl rfl rfl (by exact fun w hw => Stb.cl (by assumption) hw) (by intro hc; omega) rfl)) ?_
                refine qr rfl rfl rfl ((q_move rfl rfl)) (qr rfl rfl rfl ((q_move rfl rfl)) ?_)
                refine qr rfl rfl rfl ((q_indexN rfl rfl rfl (by exact fun w hw => Stb.cl (by assumption) hw) (by intro hc; omega))) ?_
                refine qr rfl rfl rfl ((q_fieldEl rfl rfl (by exact fun w hw => Stb.cl (by assumption) hw) (by intro hc; omega))) ?_
                refine qr rfl rfl rfl ((q_loadF rfl rfl rfl (by exact fun w hw => Stb.cl (by assumption) hw) (by intro hc; omega) rfl)) ?_
                refine qr rfl rfl rfl ((q_addS rfl rfl rfl (by intro hc; omega))) ?_
                refine qr rfl rfl rfl ((q_move rfl rfl)) (qr rfl rfl rfl ((q_move rfl rfl)) ?_)
                refine qr rfl rfl rfl ((q_indexN rfl rfl rfl (by exact fun w hw => Stb.cl (by assumption) hw) (by intro hc; omega))) ?_
                refine qr rfl rfl rfl ((q_fieldEl rfl rfl (by exact fun w hw => Stb.cl (by assumption) hw) (by intro hc; omega))) ?_
                refine qr rfl rfl rfl ((q_loadF rfl rfl rfl (by exact fun w hw => Stb.cl (by assumption) hw) (by intro hc; omega) rfl)) ?_
                refine qr rfl rfl rfl ((q_addS rfl rfl rfl (by intro hc; omega))) ?_
                refine qr rfl rfl rfl ((q_move rfl rfl)) (qr rfl rfl rfl ((q_eqlStr rfl rfl rfl Tryz.underlying9)) (qr rfl rfl rfl ((q_and2 rfl rfl rfl)) (qw_end (post_then ?_))))
                refine cw_cond rfl (fun h8 => ?_) (fun h8 => ?_)
                · skip
                  simp only [Bool.and_eq_true, decide_eq_true_eq] at h8
                  refine cw_region (sr rfl rfl rfl ((q_assign rfl rfl)) (sw_nil (post_blk (post_then (cw_region (sr rfl rfl rfl ((q_move rfl rfl)) ?_))))))
                  refine sr rfl rfl rfl ((q_add rfl rfl rfl (by intro hc; omega))) ?_
                  refine sr rfl rfl rfl ((q_assign rfl rfl)) (sw_nil ?_)
                  exact post_next (m + 1, 3) (by exact .cons rfl (.cons rfl (.cons rfl (.cons rfl (.cons rfl (.cons rfl (.cons rfl (.cons rfl .nil)))))))) (fun w h => Cl.sel (by exact .take 0 rfl (.nil _)) w h) ⟨by simp only; omega, .inr (.inr ⟨rfl, i, j, m, hi', hj', hm', h8.2⟩), fun a b hab e => by have := hpr4 a b hab e; omega⟩ (by simp only; omega)
                · skip
                  refine cw_skip (post_blk (post_then (cw_region (sr rfl rfl rfl ((q_move rfl rfl)) ?_))))
                  refine sr rfl rfl rfl ((q_add rfl rfl rfl (by intro hc; omega))) ?_
                  refine sr rfl rfl rfl ((q_assign rfl rfl)) (sw_nil ?_)
                  exact post_next (m + 1, fw4) (by exact .cons rfl (.cons rfl (.cons rfl (.cons rfl (.cons rfl (.cons rfl (.cons rfl (.cons rfl .nil)))))))) (fun w h => Cl.sel (by exact .take 0 rfl (.nil _)) w h) ⟨by simp only; omega, hfw4, hpr4⟩ (by simp only; omega)
              · skip
                refine cw_exit (post_then_x (post_then_x (post_blk_eq (post_blk (post_then (cw_region (sr rfl rfl rfl ((q_move rfl rfl)) ?_)))))))
                refine sr rfl rfl rfl ((q_add rfl rfl rfl (by intro hc; omega))) ?_
                refine sr rfl rfl rfl ((q_assign rfl rfl)) (sw_nil ?_)
                refine post_next (j + 1, fw4) (by exact .cons rfl (.cons rfl (.cons rfl (.cons rfl (.cons rfl (.cons rfl (.cons rfl .nil))))))) (fun w h => Cl.sel (by exact .take 0 rfl (.nil _)) w h) ⟨by simp only; omega, hfw4, hpr4⟩ (by simp only; omega)
            · skip
              have hj' : j = l.length := by simp at h6; omega
              refine cw_exit (post_then_x (post_then_x (post_blk_eq (post_blk (post_then (cw_region (sr rfl rfl rfl ((q_move rfl rfl)) ?_)))))))
              refine sr rfl rfl rfl ((q_add rfl rfl rfl (by intro hc; omega))) ?_
              refine sr rfl rfl rfl ((q_assign rfl rfl)) (sw_nil ?_)
              refine post_next (i + 1, fw2) (by exact .cons rfl (.cons rfl (.cons rfl (.cons rfl (.cons rfl (.cons rfl .nil)))))) (fun w h => Cl.sel (by exact .take 0 rfl (.nil _)) w h) ⟨by simp only; omega, hfw2, fun a b ha hb e => ?_⟩ (by simp only; omega)
              simp only at ha ⊢
              rcases Nat.lt_or_ge a i with b1 | b1
              · exact hpr2 a b (.inl ⟨b1, hb⟩) e
              · exact hpr2 a b (.inr ⟨by omega, by omega⟩) e
          · skip
            have hi' : i = l.length := by simp at h5; omega
            have hfin := fw_end hne hs0 hfw (fun a b ha hb e => hpr a b (by omega) hb e)
            refine cw_exit (post_then_x (post_then_x (post_blk_eq (post_then (cw_seq (cw_region (sr rfl rfl rfl ((q_move rfl rfl)) (sr rfl rfl rfl ((q_eql rfl rfl rfl)) (sr rfl rfl rfl ((q_move rfl rfl)) (sr rfl rfl rfl ((q_move rfl rfl)) (sr rfl rfl rfl ((q_eql rfl rfl rfl)) (sr rfl rfl rfl ((q_move rfl rfl)) (sr rfl rfl rfl ((q_move rfl rfl)) ?_)))))))))))))
            refine sr rfl rfl rfl ((q_len rfl (.cons rfl inferInstance (.nil)) (by exact fun w hw => rd_own hw (by exact .head _)))) ?_
            refine sr rfl rfl rfl ((q_move rfl rfl)) (sr rfl rfl rfl ((q_eql rfl rfl rfl)) (sr rfl rfl rfl ((q_and2 rfl rfl rfl)) (sr rfl rfl rfl ((q_or2 rfl rfl rfl)) (sr rfl rfl rfl ((q_move rfl rfl)) ?_))))
            refine sw_step rfl rfl rfl (q_call (CanCall.mk Tryz.call19) rfl (.nil) (fun _ w hw => callq hw (known_spec w (stb_arg hw (by assumption))))) ?_
            refine sr rfl rfl rfl ((q_and2 rfl rfl rfl)) (sr rfl rfl rfl ((q_assign rfl rfl)) (sw_nil (post_then (cw_ret (post_ret1 rfl (resOk_tmp rfl) ?_)))))
            refine fun w' hw => ⟨?_, (fun w h => Cl.sel (by exact .nil _) w h) _ hw⟩
            rcases hfin with hf | ⟨hv, hf⟩
            · rw [hf]; simp
            · obtain ⟨e1, e2⟩ := hpw hv
              rw [← e1] at hf
              rw [e2, hf]; simp
end Go.Proofs.YtkmbliojafefdaaGreatDoor

set_option autoImplicit false
namespace Go.Proofs.YtkmbliojafefdaaGreatDoor.letterFewest
open Go.ChangeShapes Go.WideShapes Go.ChangeAt Go.RowKit Go.Sx
theorem own : ownKnob Tryz.prog.godebug = none := by kernel_rfl
theorem laid : laidOutB Tryz.prog = true := by kernel_rfl
theorem rowed : ∀ t ∈ Tryz.f13.params.toList, Tryz.prog.readableRec t = true ∧ t < Tryz.prog.types.size := by
  rw [Tryz.params13]
  intro t ht
  change t ∈ [38, 9] at ht
  simp only [List.mem_cons, List.not_mem_nil, or_false] at ht
  rcases ht with rfl | rfl <;> exact ⟨by kernel_rfl, of_decide_eq_true (by kernel_rfl)⟩
set_option maxHeartbeats 1000000 in
set_option maxRecDepth 100000 in
theorem lifted (os : Os) (started : os.Started) (H : Type) (enc : TypeId × Value → H) :
    ReturnsInHanded {} Tryz.checked os 13 .any (fun w args => (Rows.letterFewestSpec.pre enc Tryz.prog Tryz.f13 Rows.letterFewestRow.domain false w args ∧ laidMetH Tryz.prog Rows.letterFewestRow.laid w) ∧ sizedMet enc Tryz.prog Tryz.f13 (OpenSpec.ofChange Rows.letterFewestSpec) false w args)
      (Rows.letterFewestSpec.post enc Tryz.prog Tryz.f13 false true false false) := by
  refine returnsInHanded_of_change_and (C := Tryz.checked) (X := fun w _ => laidMetH Tryz.prog Rows.letterFewestRow.laid w) (fun _ _ _ hh h => h.of_heap hh) own started (by kernel_rfl) Tryz.func13
    (ChangeSpec.witness_shaped (enc := enc) (C := Tryz.checked) (os := os) (X := fun w _ => laidMetH Tryz.prog Rows.letterFewestRow.laid w) false (World.laidAll Tryz.prog os Rows.letterFewestRow.laid) #[.slice none 0 0, .string ByteArray.empty] 8 (World.laidAll_os _ _ _)
      (World.shaped_of_ZipB (by kernel_rfl) (by kernel_rfl)) (by kernel_rfl) (by kernel_rfl) (by kernel_rfl)
      (by rw [MakeChecks.laidMetH_plain _ _ _ (by kernel_rfl)]; exact laidMet_laidAll _ (by kernel_rfl) (by kernel_rfl))) ?_
  intro W base args ds gs before hval0 hW hcnd _ hL _
  have hval : ∀ (j : Nat) t v, Tryz.f13.params[j]? = some t → args[j]? = some v → Value.okWide Tryz.prog W .any base t v := hval0
  have hW' := hW
  have hlt := hW.lt
  obtain ⟨p, q, hA0, hV, rfl, hfz, hnd⟩ := hW
  have hA : DataW.TrodAll enc Tryz.prog W 0 (fun _ => true) true Tryz.f13.params.toList args.toList ds p := hA0
  have hkeep := fun (W' : World) (hb : Below W.heap.size W W') (sp : Nat → Bool) (hsp : ∀ x ∈ p, sp x.block = true) => trodAll_keep laid hb sp rowed hA (fun x hx => hlt x (by simp [hx])) hsp
  rw [Tryz.params13] at hA hval
  obtain ⟨v0, vs0, d0, ds0, p0, q0, hargs, rfl, rfl, h0, r0⟩ := trodAll_cons hA
  obtain ⟨v1, vs1, d1, ds1, p1, q1, rfl, rfl, rfl, h1, r1⟩ := trodAll_cons r0
  obtain ⟨rfl, rfl, rfl⟩ := trodAll_nil r1
  obtain rfl : args = #[v0, v1] := by cases args; simp_all
  obtain ⟨rfl, rfl⟩ := trodVars_none hV
  obtain ⟨a0, b0, rfl, k0⟩ := open_deep (hval 0 38 v0 rfl rfl) h0
  obtain ⟨a1, b1, rfl, k1⟩ := open_deep (hval 1 9 v1 rfl rfl) h1
  obtain ⟨rfl, w1⟩ := k1.here
  clear hA0 hval0
  rw [MakeChecks.laidMetH_plain _ _ _ (by kernel_rfl)] at hL
  have hT : Stb W [] Tab := tab_stb (utf8Tabs_of_readsT (U8Types.of196 Tryz.lays196) ⟨by kernel_rfl, by kernel_rfl, by kernel_rfl, by kernel_rfl, by kernel_rfl, by kernel_rfl, by kernel_rfl⟩ (Pinned.utf8First_eq ▸ Lib.laidMet.reads hL (.tail _ (.head _))) (Lib.laidMet.reads hL (.head _)))
  refine (fewest_spec a0 b0 a1 (by have := w1; unfold maxLen at this; omega) (sp_size k0.here) W hT (stb_flat (fun a b w h => h.1) k0) (sp_all k0)).mono fun e W' ⟨he, hc⟩ => ?_
  subst he
  have hb := below_of hc
  exact ⟨_, rfl, _, _, _, [], _, [], hW', trodAll_cons_mk (shut_bool Tryz.underlying4 _) trodAll_mk0, hkeep W' hb _ (fun x hx => by simpa using hlt x (by simpa using hx)), rfl, hb.frame _, fun h => by cases h⟩
end Go.Proofs.YtkmbliojafefdaaGreatDoor.letterFewest

set_option autoImplicit false
namespace Go.Proofs.YtkmbliojafefdaaGreatDoor.letterFewest
open Go.Sx
theorem named : Tryz.prog.funcNamed "declaim/declaimlaw03.LetterFewest" = some 13 := by kernel_rfl
theorem inst : Tryz.f13.isInstance Tryz.prog Rows.letterFewestRow.origin Rows.letterFewestRow.targs := of_decide_eq_true (by kernel_rfl)
theorem wrap : Tryz.f13.isWrapper Tryz.prog Rows.letterFewestRow.wrapper Rows.letterFewestRow.mainSum := by unfold Func.isWrapper; first | (rw [if_pos (by decide +kernel)]; kernel_rfl) | (rw [if_neg (by decide +kernel)]; exact ⟨rfl, rfl⟩)
theorem over : Rows.letterFewestRow.holds Tryz.pinned (OpenSpec.ofChange Rows.letterFewestSpec) :=
  OpenClaim.holds_of_wide 13 Tryz.f13 rfl rfl rfl rfl rfl rfl rfl ⟨rfl, rfl, rfl, rfl, rfl⟩ rfl rfl rfl rfl rfl named Tryz.func13 closed inst wrap
    (fun os started H enc _ => lifted os started H enc)
end Go.Proofs.YtkmbliojafefdaaGreatDoor.letterFewest
