import Derived.Test.YtkmbliojafefdaaGreatDoorWSays3
import Derived.Laws.CopyRow
import Derived.Laws.IdiomStrings

set_option autoImplicit false
set_option linter.unusedSimpArgs false
set_option linter.unusedVariables false
set_option maxRecDepth 100000
namespace Go.Proofs.YtkmbliojafefdaaGreatDoor
open Go.Sx
open Enc (enc val)
theorem cmpS_neg {x y : ByteArray} : cmpS x y < 0 ↔ sLt x y = true := by
  unfold cmpS
  by_cases h : x = y
  · subst h; simp [sLt_irr]
  · rw [if_neg h]; split
    · rename_i h2; simp [h2]
    · rename_i h2; simp [h2]
theorem acc_asc {a : List Fgn} (h : riseB (fun x y : Fgn => cmpS x.phone y.phone) a = true) : ∀ i j, i < j → j < a.length → sLt (nth a i).phone (nth a j).phone = true := by
  have h1 : ∀ k, 1 ≤ k → k < a.length → sLt (nth a (k - 1)).phone (nth a k).phone = true := fun k h0 hk => cmpS_neg.1 (riseB_yes.1 h k h0 hk)
  intro i j hij hj
  induction j with
  | zero => omega
  | succ j ih =>
    have h2 := h1 (j + 1) (by omega) hj
    rw [Nat.add_sub_cancel] at h2
    by_cases h3 : i = j
    · rw [h3]; exact h2
    · exact sLt_trans (ih (by omega) (by omega)) h2
theorem halves_acc {a : List Fgn} (h : riseB (fun x y : Fgn => cmpS x.phone y.phone) a = true) (p : ByteArray) : Halves (fun x : Fgn => cmpS x.phone p) a := fun i j hij hj hc => by
  rw [cmpS_neg] at hc ⊢
  exact sLt_trans (acc_asc h i j hij hj) hc
theorem holdA_spec (l : List Fgn) (p : ByteArray) : CmpT Tryz.prog 93 #[] (.string p) (fun x : Fgn => cmpS x.phone p) (fun _ => True) l := by
  intro u hu w _
  refine calls_cw (vs := [_, _]) Tryz.func93 rfl Tryz.ntmps93 rfl (Cl.start0 w) (cw_seq (cw_region ?_))
  refine sw_x rfl rfl rfl (e_box rfl rfl rfl) (fun b2 => ?_)
  refine sr rfl rfl rfl ((q_assign rfl rfl)) (sw_nil (post_then (cw_seq (cw_region (sr rfl rfl rfl ((q_fieldAddr rfl rfl)) ?_)))))
  refine sr rfl rfl rfl ((q_loadC rfl rfl (by exact .head _) rfl)) ?_
  refine sr rfl rfl rfl ((q_move rfl rfl)) (sw_step rfl rfl rfl (q_call (CanCall.mk Tryz.call94) rfl (.cons rfl inferInstance (.cons rfl inferInstance (.nil))) (fun _ w hw => callq hw (strCmp_spec _ _ w))) (sr rfl rfl rfl ((q_assign rfl rfl)) (sw_nil (post_then (cw_ret (post_ret1 rfl (resOk_tmp rfl) ?_))))))
  exact fun w' hw => ⟨rfl, (fun w h => Cl.sel (by exact .nil _) w h) _ hw⟩
def acK (a : List Fgn) (p : ByteArray) : Nat := lowB (fun x : Fgn => cmpS x.phone p) a
def acB (a : List Fgn) (p : ByteArray) : Bool := decide (acK a p < a.length ∧ cmpS (nth a (acK a p)).phone p = 0)
/-- What becomes of a phone. -/
def acF (a : List Fgn) (d : Int) (p : ByteArray) : List ByteArray := if acB a p = true ∧ d ≠ 0 then nth (nth a (acK a p)).sl (min d ((nth a (acK a p)).sl.length : Int) - 1).toNat else [p]
def accentC (a : List Fgn) (l : List ByteArray) (d : Int) : List ByteArray := l.flatMap (acF a d)
theorem take_flat {α β : Type} [Inhabited α] (f : α → List β) {l : List α} {k : Nat} (hk : k < l.length) : (l.take (k + 1)).flatMap f = (l.take k).flatMap f ++ f (nth l k) := by
  rw [List.take_succ_eq_append_getElem hk, List.flatMap_append, nth_get hk]; simp
theorem tflat_bd {α β : Type} (f : α → List β) {B : Nat} (h : ∀ x, (f x).length ≤ B) : ∀ l : List α, (l.flatMap f).length ≤ l.length * B
  | [] => by simp
  | x :: l => by
    rw [List.flatMap_cons, List.length_append, List.length_cons, Nat.succ_mul]
    have := tflat_bd f h l
    have := h x
    omega
def accentE (a : List Fgn) (l : List ByteArray) (d : Int) : Int := if foreignOk a && phonesOk l 120 && decide (0 ≤ d) && decide (d ≤ 5) then (if 120 < (accentC a l d).length then 4 else 0) else 2
def accentR (a : List Fgn) (l : List ByteArray) (d : Int) : List ByteArray := if accentE a l d = 0 then accentC a l d else []
theorem accent_spec (sa sl : SlV) (a : List Fgn) (l : List ByteArray) (d : Int) (w : World) (ha : Stb w [] (RdL sa.v a)) (hp : Stb w [] fun w' => ∀ u ∈ a, FgnIn u w') (hl : Stb w [] (RdL sl.v l)) :
    Calls Tryz.prog 47 #[sa.v, sl.v, .int .i64 d] w fun e w' => ∃ r : SlV, e = .returned (.tuple #[r.v, .int .i64 (accentE a l d)]) ∧ True ∧ Cl w [] [ownL 9 r.v (accentR a l d)] w' := by
  have hLa := rd_len ha.here
  have hLl := rd_len hl.here
  refine calls_cw (vs := [_, _, _]) Tryz.func47 rfl Tryz.ntmps47 rfl (Cl.start0 w) (cw_seq (cw_region (sr rfl rfl rfl ((q_assign rfl rfl)) (sr rfl rfl rfl ((q_assign rfl rfl)) (sw_nil (post_then (cw_seq (cw_seq (cw_region (sr rfl rfl rfl ((q_move rfl rfl)) ?_))))))))))
  refine sw_step rfl rfl rfl (q_call (CanCall.mk Tryz.call91) rfl (.cons rfl inferInstance (.nil)) (fun _ w hw => callq hw (foreign_spec _ _ w (by exact stb_arg hw (by assumption)) (stb_arg hw (by assumption))))) ?_
  refine sr rfl rfl rfl ((q_not rfl rfl)) (sr rfl rfl rfl ((q_move rfl rfl)) (sr rfl rfl rfl ((q_move rfl rfl)) ?_))
  refine sw_step rfl rfl rfl (q_call (CanCall.mk Tryz.call63) rfl (.cons rfl inferInstance (.cons rfl inferInstance (.nil))) (fun _ w hw => callq hw (phones_spec _ _ _ w (by exact stb_arg hw (by assumption))))) ?_
  refine sr rfl rfl rfl ((q_not rfl rfl)) (sr rfl rfl rfl ((q_or2 rfl rfl rfl)) (sr rfl rfl rfl ((q_move rfl rfl)) (sr rfl rfl rfl ((q_move rfl rfl)) (sr rfl rfl rfl ((q_lss rfl rfl rfl)) (sr rfl rfl rfl ((q_or2 rfl rfl rfl)) (sr rfl rfl rfl ((q_move rfl rfl)) (sr rfl rfl rfl ((q_move rfl rfl)) (sr rfl rfl rfl ((q_gtr rfl rfl rfl)) (sr rfl rfl rfl ((q_or2 rfl rfl rfl)) (sw_nil (post_then ?_)))))))))))
  have e1 : decide (d < 0) = !decide (0 ≤ d) := by rw [Bool.eq_iff_iff]; simp
  have e2 : decide (5 < d) = !decide (d ≤ 5) := by rw [Bool.eq_iff_iff]; simp
  rw [e1, e2]
  have e3 : (!foreignOk a || !phonesOk l 120 || !decide (0 ≤ d) || !decide (d ≤ 5)) = !(foreignOk a && phonesOk l 120 && decide (0 ≤ d) && decide (d ≤ 5)) := by
    cases foreignOk a <;> cases phonesOk l 120 <;> cases decide (0 ≤ d) <;> cases decide (d ≤ 5) <;> rfl
  rw [e3]
  refine cw_cond rfl (fun h => ?_) (fun h => ?_)
  · skip
    have h1 : accentE a l d = 2 := by unfold accentE; rw [if_neg (by rw [Bool.not_eq_true'] at h; rw [h]; decide)]
    have h2 : accentR a l d = [] := by unfold accentR; rw [if_neg (by rw [h1]; decide)]
    refine cw_seq (cw_region (sr rfl rfl rfl ((q_assign rfl rfl)) (sr rfl rfl rfl ((q_assign rfl rfl)) (sw_nil (post_then (cw_ret (post_then_r (post_ret2 rfl (resOk_tmp rfl) (resOk_tmp rfl) ?_))))))))
    exact fun w' hw => ⟨⟨none, 0, 0⟩, by rw [h1]; rfl, trivial, by rw [h2]; exact Cl.addNil 9 hw⟩
  · skip
    have h1 : (foreignOk a && phonesOk l 120 && decide (0 ≤ d) && decide (d ≤ 5)) = true := by simpa using h
    have h2 : accentE a l d = if 120 < (accentC a l d).length then 4 else 0 := by unfold accentE; rw [if_pos h1]
    simp only [Bool.and_eq_true, decide_eq_true_eq] at h1
    obtain ⟨⟨⟨h3, h4⟩, h5⟩, h6⟩ := h1
    have hll : l.length ≤ 120 := by simp [phonesOk] at h4; omega
    unfold foreignOk at h3
    simp only [Bool.and_eq_true, decide_eq_true_eq, List.all_eq_true] at h3
    obtain ⟨⟨h7, h8⟩, h9⟩ := h3
    have hsl : ∀ x ∈ a, 1 ≤ x.sl.length ∧ x.sl.length ≤ 5 ∧ ∀ p ∈ x.sl, p.length ≤ 3 := fun x hx => by
      have := h9 x hx
      unfold accOk at this
      simp only [Bool.and_eq_true, decide_eq_true_eq, List.all_eq_true] at this
      refine ⟨this.1.1.2, this.1.2, fun p hp => ?_⟩
      have := this.2 p hp
      simp [phonesOk] at this; omega
    have hfb : ∀ p, (acF a d p).length ≤ 3 := fun p => by
      unfold acF
      split
      · rename_i hh
        have hk : acK a p < a.length := by have := hh.1; unfold acB at this; simp only [decide_eq_true_eq] at this; exact this.1
        have := hsl _ (nth_mem hk)
        exact this.2.2 _ (nth_mem (by omega))
      · simp
    have hcb := tflat_bd (acF a d) hfb
    refine cw_skip (post_then (cw_seq (cw_region (sr rfl rfl rfl ((q_assign rfl rfl)) (sw_nil (post_then (cw_seq (cw_seq (cw_region (sr rfl rfl rfl ((q_move rfl rfl)) ?_))))))))))
    refine sr rfl rfl rfl ((q_len rfl (.cons rfl inferInstance (.nil)) (by exact fun w hw => Stb.cl (by assumption) hw))) ?_
    refine sr rfl rfl rfl ((q_move rfl rfl)) (sw_nil (post_then (cw_block ?_)))
    refine cw_loop (S := Nat × SlV × List ByteArray) (fun y => [(0, [], sa.v), (2, [], .int .i64 d), (8, [], y.2.1.v), (29, [], sl.v), (30, [], .int .i64 l.length), (31, [], .int .i64 y.1)]) (fun y => Cl w [] [ownL 9 y.2.1.v y.2.2]) (fun y => y.1 ≤ l.length ∧ y.2.2 = (l.take y.1).flatMap (acF a d)) (fun y => l.length - y.1) (0, ⟨none, 0, 0⟩, []) ⟨Nat.zero_le _, by simp⟩ (by exact .cons rfl (.cons rfl (.cons rfl (.cons rfl (.cons rfl (.cons rfl .nil)))))) (fun w' h => Cl.addNil 9 h) ?_
    rintro ⟨k, so, out⟩ ⟨hk, hout⟩
    dsimp only at hk hout ⊢
    refine cw_seq (cw_region (sr rfl rfl rfl ((q_lss rfl rfl rfl)) (sw_nil (post_then (cw_seq ?_)))))
    refine cw_cond rfl (fun h10 => ?_) (fun h10 => ?_)
    · skip
      have hk' : k < l.length := by simp at h10; omega
      obtain ⟨p, hpe⟩ : ∃ p, nth l k = p := ⟨_, rfl⟩
      have hst := take_flat (acF a d) hk'
      rw [hpe, ← hout] at hst
      have hol : out.length ≤ 400 := by
        have := hcb (l.take k)
        rw [← hout, List.length_take] at this; omega
      refine cw_skip (post_then (cw_seq (cw_block (cw_seq (cw_region ?_)))))
      refine sr rfl rfl rfl ((q_indexN rfl rfl rfl (by exact fun w hw => Stb.cl (by assumption) hw) (by intro hc; omega))) ?_
      refine sr rfl rfl rfl ((q_loadEl rfl rfl rfl (by exact fun w hw => Stb.cl (by assumption) hw) (by intro hc; omega))) ?_
      refine sr rfl rfl rfl ((q_assign rfl rfl)) (sw_nil (post_then (cw_seq (cw_region (sr rfl rfl rfl ((q_move rfl rfl)) (sr rfl rfl rfl ((q_move rfl rfl)) ?_))))))
      rw [hpe]
      refine sw_step rfl rfl rfl (q_call (CanCall.mk Tryz.call92) rfl (.cons rfl inferInstance (.cons rfl inferInstance (.cons rfl inferInstance (.nil)))) (fun _ w1 hw => callq hw (searchFgn_spec _ a p _ _ (fun x : Fgn => cmpS x.phone p) _ w1 (stb_arg hw ha) (stb_true w1 []) (CanCall.mk Tryz.call93) (holdA_spec a p) (halves_acc h8 p)))) (sr rfl rfl rfl ((q_move rfl rfl)) (sr rfl rfl rfl ((q_extract rfl rfl rfl)) (sr rfl rfl rfl ((q_extract rfl rfl rfl)) (sr rfl rfl rfl ((q_assign rfl rfl)) (sr rfl rfl rfl ((q_assign rfl rfl)) (sw_nil (post_then (cw_seq (cw_seq (cw_region (sr rfl rfl rfl ((q_move rfl rfl)) (sr rfl rfl rfl ((q_not rfl rfl)) (sr rfl rfl rfl ((q_move rfl rfl)) (sr rfl rfl rfl ((q_move rfl rfl)) (sr rfl rfl rfl ((q_eql rfl rfl rfl)) (sr rfl rfl rfl ((q_or2 rfl rfl rfl)) (sw_nil (post_then ?_))))))))))))))))))
      refine cw_cond rfl (fun h11 => ?_) (fun h11 => ?_)
      · skip
        have hF : acF a d p = [p] := by
          unfold acF
          rw [if_neg]
          rintro ⟨g1, g2⟩
          unfold acB acK at g1
          simp only [decide_eq_true_eq] at g1
          simp [g1.1, g1.2, g2] at h11
        refine cw_seq (cw_region (sr rfl rfl rfl ((q_move rfl rfl)) (sr rfl rfl rfl ((q_move rfl rfl)) ?_)))
        refine sw_x rfl rfl rfl (e_build1 (α := ByteArray) rfl rfl rfl rfl) (fun s49 => ?_)
        refine sw_x rfl rfl rfl (e_append (i := 1) rfl (.cons rfl inferInstance (.cons rfl inferInstance (.nil))) rfl rfl (by exact fun w hw => rd_own hw (by exact .head _)) (by first | omega | (simp only [List.length_set, List.length_append, List.length_cons, List.length_nil, List.length_replicate, List.length_take, List.length_drop, List.length_map]; omega)) rfl) (fun s50 => ?_)
        refine sr rfl rfl rfl ((q_assign rfl rfl)) (sw_nil (post_then (cw_exit (post_then_x (post_blk_eq (post_then (cw_region ?_)))))))
        refine sr rfl rfl rfl ((q_add rfl rfl rfl (by intro hc; omega))) ?_
        refine sr rfl rfl rfl ((q_move rfl rfl)) (sw_nil ?_)
        refine post_next (k + 1, s50, out ++ [p]) (by exact .cons rfl (.cons rfl (.cons rfl (.cons rfl (.cons rfl (.cons rfl .nil)))))) (fun w' h => (fun w h => Cl.sel (by exact .take 1 rfl (.nil _)) w h) _ h) ⟨by simp only; omega, by simp only; rw [hst, hF]⟩ (by simp only; omega)
      · skip
        have hB : acB a p = true ∧ d ≠ 0 := by
          simp only [Bool.or_eq_false_iff, Bool.not_eq_false', decide_eq_false_iff_not] at h11
          exact ⟨h11.1, h11.2⟩
        have hk2 : acK a p < a.length := by have := hB.1; unfold acB at this; simp only [decide_eq_true_eq] at this; exact this.1
        have hF : acF a d p = nth (nth a (acK a p)).sl (min d ((nth a (acK a p)).sl.length : Int) - 1).toNat := by unfold acF; rw [if_pos hB]
        rw [show lowB (fun x : Fgn => cmpS x.phone p) a = acK a p from rfl]
        have hxm := nth_mem hk2
        have hxs := hsl _ hxm
        obtain ⟨vs, g1, g2⟩ := hp.here _ hxm
        have g1 := rd_stb g1
        have hvl := g2.1
        have g3 : Stb w [] (RdL (nth vs (min d (vs.length : Int) - 1).toNat).v (nth (nth a (acK a p)).sl (min d (vs.length : Int) - 1).toNat)) := rd_stb (g2.2 _ (by omega))
        rw [← hvl] at hF
        have hF3 := hfb p
        rw [hF] at hF3
        refine cw_skip (post_then (cw_region_a (Cl w [] [ownL 9 so.v out]) [17] mixed_Tryz ?_))
        refine aw_pure 0 rfl (by kernel_rfl) (by kernel_rfl) (by kernel_rfl) (by kernel_rfl) (by kernel_rfl) rfl rfl rfl (q_move rfl rfl) ?_
        refine aw_pure 1 rfl (by kernel_rfl) (by kernel_rfl) (by kernel_rfl) (by kernel_rfl) (by kernel_rfl) rfl rfl rfl (q_move rfl rfl) ?_
        refine aw_pure 2 rfl (by kernel_rfl) (by kernel_rfl) (by kernel_rfl) (by kernel_rfl) (by kernel_rfl) rfl rfl rfl (q_move rfl rfl) ?_
        refine aw_take 3 (fun w h => Cl.sel (by exact .take 0 rfl (.nil _)) w h) rfl (by kernel_rfl) (by kernel_rfl) (by kernel_rfl) (by kernel_rfl) (by kernel_rfl) (by kernel_rfl) rfl rfl rfl (q_indexN rfl rfl rfl (by exact fun w hw => Stb.cl (by assumption) hw) (by intro hc; omega)) ?_
        refine aw_take 4 (fun w h => Cl.sel (by exact .take 0 rfl (.nil _)) w h) rfl (by kernel_rfl) (by kernel_rfl) (by kernel_rfl) (by kernel_rfl) (by kernel_rfl) (by kernel_rfl) rfl rfl rfl (q_fieldEl rfl rfl (by exact fun w hw => Stb.cl (by assumption) hw) (by intro hc; omega)) ?_
        refine aw_take 5 (fun w h => Cl.sel (by exact .take 0 rfl (.nil _)) w h) rfl (by kernel_rfl) (by kernel_rfl) (by kernel_rfl) (by kernel_rfl) (by kernel_rfl) (by kernel_rfl) rfl rfl rfl (q_loadF rfl rfl rfl (by exact fun w hw => Stb.cl (by assumption) hw) (by intro hc; omega) rfl) ?_
        refine aw_pure 6 rfl (by kernel_rfl) (by kernel_rfl) (by kernel_rfl) (by kernel_rfl) (by kernel_rfl) rfl rfl rfl (q_move rfl rfl) ?_
        refine aw_pure 7 rfl (by kernel_rfl) (by kernel_rfl) (by kernel_rfl) (by kernel_rfl) (by kernel_rfl) rfl rfl rfl (q_move rfl rfl) ?_
        refine aw_pure 8 rfl (by kernel_rfl) (by kernel_rfl) (by kernel_rfl) (by kernel_rfl) (by kernel_rfl) rfl rfl rfl (q_move rfl rfl) ?_
        refine aw_take 9 (fun w h => Cl.sel (by exact .take 0 rfl (.nil _)) w h) rfl (by kernel_rfl) (by kernel_rfl) (by kernel_rfl) (by kernel_rfl) (by kernel_rfl) (by kernel_rfl) rfl rfl rfl (q_indexN rfl rfl rfl (by exact fun w hw => Stb.cl (by assumption) hw) (by intro hc; omega)) ?_
        refine aw_take 10 (fun w h => Cl.sel (by exact .take 0 rfl (.nil _)) w h) rfl (by kernel_rfl) (by kernel_rfl) (by kernel_rfl) (by kernel_rfl) (by kernel_rfl) (by kernel_rfl) rfl rfl rfl (q_fieldEl rfl rfl (by exact fun w hw => Stb.cl (by assumption) hw) (by intro hc; omega)) ?_
        refine aw_take 11 (fun w h => Cl.sel (by exact .take 0 rfl (.nil _)) w h) rfl (by kernel_rfl) (by kernel_rfl) (by kernel_rfl) (by kernel_rfl) (by kernel_rfl) (by kernel_rfl) rfl rfl rfl (q_loadF rfl rfl rfl (by exact fun w hw => Stb.cl (by assumption) hw) (by intro hc; omega) rfl) ?_
        refine aw_take 12 (fun w h => Cl.sel (by exact .take 0 rfl (.nil _)) w h) rfl (by kernel_rfl) (by kernel_rfl) (by kernel_rfl) (by kernel_rfl) (by kernel_rfl) (by kernel_rfl) rfl rfl rfl (q_len rfl (.cons rfl inferInstance (.nil)) (by exact fun w hw => Stb.cl (by assumption) hw)) ?_
        refine aw_pure 13 rfl (by kernel_rfl) (by kernel_rfl) (by kernel_rfl) (by kernel_rfl) (by kernel_rfl) rfl rfl rfl (q_min rfl (.cons rfl inferInstance (.cons rfl inferInstance (.nil)))) ?_
        refine aw_pure 14 rfl (by kernel_rfl) (by kernel_rfl) (by kernel_rfl) (by kernel_rfl) (by kernel_rfl) rfl rfl rfl (q_sub rfl rfl rfl (by intro hc; omega)) ?_
        refine aw_take 15 (fun w h => Cl.sel (by exact .take 0 rfl (.nil _)) w h) rfl (by kernel_rfl) (by kernel_rfl) (by kernel_rfl) (by kernel_rfl) (by kernel_rfl) (by kernel_rfl) rfl rfl rfl (q_index rfl rfl rfl (by exact fun w hw => Stb.cl (by assumption) hw) (by intro hc; omega)) ?_
        refine aw_take 16 (fun w h => Cl.sel (by exact .take 0 rfl (.nil _)) w h) rfl (by kernel_rfl) (by kernel_rfl) (by kernel_rfl) (by kernel_rfl) (by kernel_rfl) (by kernel_rfl) rfl rfl rfl (q_loadEl rfl rfl rfl (by exact fun w hw => Stb.cl (by assumption) hw) (by intro hc; omega)) ?_
        refine aw_x 17 (by kernel_rfl) rfl rfl rfl rfl (e_append (i := 0) rfl (.cons rfl inferInstance (.cons rfl inferInstance (.nil))) rfl rfl (by exact fun w hw => Stb.cl (by assumption) hw) (by first | omega | (simp only [List.length_set, List.length_append, List.length_cons, List.length_nil, List.length_replicate, List.length_take, List.length_drop, List.length_map]; omega)) rfl) (by intro hb; (exact absurd hb (by decide))) (fun s68 => ?_)
        refine aw_pure 18 rfl (by kernel_rfl) (by kernel_rfl) (by kernel_rfl) (by kernel_rfl) (by kernel_rfl) rfl rfl rfl (q_assign rfl rfl) ?_
        refine aw_end (by kernel_rfl) ?_
        refine post_blk (post_then (cw_region ?_))
        refine sr rfl rfl rfl ((q_add rfl rfl rfl (by intro hc; omega))) ?_
        refine sr rfl rfl rfl ((q_move rfl rfl)) (sw_nil ?_)
        refine post_next (k + 1, s68, out ++ nth (nth a (acK a p)).sl (min d (vs.length : Int) - 1).toNat) (by exact .cons rfl (.cons rfl (.cons rfl (.cons rfl (.cons rfl (.cons rfl .nil)))))) (fun w' h => (fun w h => Cl.sel (by exact .take 0 rfl (.nil _)) w h) _ h) ⟨by simp only; omega, by simp only; rw [hst, hF]⟩ (by simp only; omega)
    · skip
      have hk' : k = l.length := by simp at h10; omega
      have he : accentC a l d = out := by rw [hout, hk', List.take_length]; rfl
      rw [he] at h2
      refine cw_exit (post_then_x (post_then_x (post_blk_eq (post_then (cw_seq (cw_seq (cw_region (sr rfl rfl rfl ((q_move rfl rfl)) ?_))))))))
      refine sr rfl rfl rfl ((q_len rfl (.cons rfl inferInstance (.nil)) (by exact fun w hw => rd_own hw (by exact .head _)))) ?_
      refine sr rfl rfl rfl ((q_gtr rfl rfl rfl)) (sw_nil (post_then ?_))
      refine cw_cond rfl (fun h11 => ?_) (fun h11 => ?_)
      · skip
        have h12 : accentE a l d = 4 := by rw [h2, if_pos (by simp at h11; omega)]
        have h13 : accentR a l d = [] := by unfold accentR; rw [if_neg (by rw [h12]; decide)]
        refine cw_seq (cw_region (sr rfl rfl rfl ((q_assign rfl rfl)) (sr rfl rfl rfl ((q_assign rfl rfl)) (sw_nil (post_then (cw_ret (post_then_r (post_ret2 rfl (resOk_tmp rfl) (resOk_tmp rfl) ?_))))))))
        exact fun w' hw => ⟨⟨none, 0, 0⟩, by rw [h12]; rfl, trivial, by rw [h13]; exact Cl.addNil 9 ((fun w h => Cl.sel (by exact .nil _) w h) _ hw)⟩
      · skip
        have h12 : accentE a l d = 0 := by rw [h2, if_neg (by simp at h11; omega)]
        have h13 : accentR a l d = out := by unfold accentR; rw [if_pos h12, he]
        refine cw_skip (post_then (cw_seq (cw_region (sr rfl rfl rfl ((q_move rfl rfl)) (sr rfl rfl rfl ((q_assign rfl rfl)) (sr rfl rfl rfl ((q_assign rfl rfl)) (sw_nil (post_then (cw_ret (post_ret2 rfl (resOk_tmp rfl) (resOk_tmp rfl) ?_))))))))))
        exact fun w' hw => ⟨so, by rw [h12], trivial, by rw [h13]; exact hw⟩
end Go.Proofs.YtkmbliojafefdaaGreatDoor

/-
  Rows: a list of slices, each the call's own, told by a function. General lemmas, no program text.
-/
set_option autoImplicit false
set_option linter.unusedSectionVars false
namespace Go.Sx
open Enc (enc val)
section
variable {α : Type} [Enc α] (e : TypeId) (vs : List SlV) (f : Nat → List α)
def rowsAt (is : List Nat) : List Asn := is.map fun i => ownL e (nth vs i).v (f i)
def rowsF : List Asn := rowsAt e vs f (List.range vs.length)
def rowsO (i : Nat) : List Asn := rowsAt e vs f ((List.range vs.length).erase i)
def rowsO2 (i j : Nat) : List Asn := rowsAt e vs f (((List.range vs.length).erase i).erase j)
variable {e vs f}
theorem rowsAt_out {is : List Nat} {i : Nat} (hi : i ∈ is) : (rowsAt e vs f is).Perm (ownL e (nth vs i).v (f i) :: rowsAt e vs f (is.erase i)) := (List.perm_cons_erase hi).map _
theorem rowsAt_congr {is : List Nat} {f' : Nat → List α} {vs' : List SlV} (h : ∀ i ∈ is, f' i = f i) (h2 : ∀ i ∈ is, nth vs' i = nth vs i) : rowsAt e vs' f' is = rowsAt e vs f is := List.map_congr_left fun i hi => by rw [h i hi, h2 i hi]
theorem rowsF_out {i : Nat} (hi : i < vs.length) : (rowsF e vs f).Perm (ownL e (nth vs i).v (f i) :: rowsO e vs f i) := rowsAt_out (by simpa using hi)
theorem rowsF_in {f' : Nat → List α} {i : Nat} {l : List α} (hi : i < vs.length) (h : ∀ k, k < vs.length → k ≠ i → f' k = f k) (hl : f' i = l) : (ownL e (nth vs i).v l :: rowsO e vs f i).Perm (rowsF e vs f') := by
  refine List.Perm.trans ?_ (rowsF_out (f := f') hi).symm
  rw [hl]
  have : rowsO e vs f' i = rowsO e vs f i := rowsAt_congr (fun k hk => by
    have hn : (List.range vs.length).Nodup := List.nodup_range
    have := (hn.mem_erase_iff).1 hk
    exact h k (by simpa using this.2) this.1) fun _ _ => rfl
  rw [this]
theorem rowsO_out {i j : Nat} (hj : j < vs.length) (hij : j ≠ i) : (rowsO e vs f i).Perm (ownL e (nth vs j).v (f j) :: rowsO2 e vs f i j) := rowsAt_out (by
  have hn : (List.range vs.length).Nodup := List.nodup_range
  exact (hn.mem_erase_iff).2 ⟨hij, by simpa using hj⟩)
/-- Two rows apart. -/
theorem rowsF_out2 {i j : Nat} (hi : i < vs.length) (hj : j < vs.length) (hij : j ≠ i) : (rowsF e vs f).Perm (ownL e (nth vs i).v (f i) :: ownL e (nth vs j).v (f j) :: rowsO2 e vs f i j) := (rowsF_out hi).trans ((rowsO_out hj hij).cons _)
theorem rowsF_in2 {f' : Nat → List α} {i j : Nat} {l : List α} (hi : i < vs.length) (hj : j < vs.length) (hij : j ≠ i) (h : ∀ k, k < vs.length → k ≠ i → f' k = f k) (hl : f' i = l) : (ownL e (nth vs i).v l :: ownL e (nth vs j).v (f j) :: rowsO2 e vs f i j).Perm (rowsF e vs f') :=
  ((rowsO_out (e := e) (f := f) hj hij).symm.cons _).trans (rowsF_in hi h hl)
theorem rowsF_snoc {s : SlV} : rowsF e (vs ++ [s]) f = rowsF e vs f ++ [ownL e s.v (f vs.length)] := by
  unfold rowsF
  rw [List.length_append, List.length_singleton, List.range_succ]
  unfold rowsAt
  rw [List.map_append]
  congr 1
  · refine List.map_congr_left fun i hi => ?_
    have hi : i < vs.length := by simpa using hi
    have : nth (vs ++ [s]) i = nth vs i := by simp only [nth, List.getD]; rw [List.getElem?_append_left hi]
    rw [this]
  · have : nth (vs ++ [s]) vs.length = s := by simp [nth]
    simp [this]
theorem rowsF_congr {f' : Nat → List α} (h : ∀ i, i < vs.length → f' i = f i) : rowsF e vs f' = rowsF e vs f := rowsAt_congr (fun i hi => h i (by simpa using hi)) fun _ _ => rfl
theorem rowsF_mem {i : Nat} (hi : i < vs.length) : ownL e (nth vs i).v (f i) ∈ rowsF e vs f := List.mem_map_of_mem (f := fun i => ownL e (nth vs i).v (f i)) (by simpa using hi)
end
end Go.Sx

/- An own slice cut to its front. General lemma. -/
set_option autoImplicit false
namespace Go.Sx
theorem own_shrink {w0 w : World} {fp : List Nat} {H : List Asn} {α : Type} [Enc α] {e : TypeId} {s : SlV} {l : List α} {k : Nat} (hk : k ≤ l.length) (h : Cl w0 fp (ownL e s.v l :: H) w) : Cl w0 fp (ownL e (s.sub (Enc.sz α) 0 k).v (l.take k) :: H) w := by
  obtain ⟨hc, bs, ⟨b1, b2, rfl, h1, h2⟩, hn, hb⟩ := h
  refine ⟨hc, b1 ++ b2, ⟨b1, b2, rfl, ?_, h2⟩, hn, hb⟩
  obtain ⟨a, m, cap⟩ := s
  rcases h1 with ⟨e1, e2, e3⟩ | ⟨b, n, cap', cur, e1, e2, e3, e4, e5, e6, e7, e8⟩
  · simp only [SlV.v, Value.slice.injEq] at e1
    obtain ⟨rfl, rfl, rfl⟩ := e1
    have hl : l = [] := by
      have := flat_len l
      rw [e2] at this
      rcases Nat.mul_eq_zero.1 this.symm with h | h
      · exact List.eq_nil_of_length_eq_zero h
      · have := Enc.pos (α := α); omega
    subst hl
    simp only [List.length_nil, Nat.le_zero] at hk
    subst hk
    exact .inl ⟨rfl, rfl, e3⟩
  · simp only [SlV.v, Value.slice.injEq] at e1
    obtain ⟨rfl, rfl, rfl⟩ := e1
    rw [flat_len] at e7
    have hnl := Nat.eq_of_mul_eq_mul_right (Enc.pos (α := α)) e7
    refine   .inr ⟨b, k, cap, cur, ?_, e2, e3, by omega, e5, e6, ?_, ?_⟩
    · simp only [SlV.v, SlV.sub, Option.map_some, Nat.zero_mul, Nat.sub_zero]
      have : (⟨b, 0, none⟩ : Addr).add 0 = ⟨b, 0, none⟩ := by simp [Addr.add]
      rw [this, ite_self]
    · rw [flat_len, List.length_take, Nat.min_eq_left hk]
    · rw [flat_take, ← e8, List.take_take, Nat.min_eq_left (Nat.mul_le_mul_right _ (by omega))]
end Go.Sx

set_option autoImplicit false
set_option maxRecDepth 100000
namespace Go.Proofs.YtkmbliojafefdaaGreatDoor
open Go.Sx
open Enc (enc val)
def JntIn (x : Jnt) (w : World) : Prop := RdL x.l.v x.ll w ∧ RdL x.r.v x.rl w ∧ RdL x.tol.v x.toll w ∧ RdL x.tor.v x.torl w
theorem jntIn_stb {l : List Jnt} {w : World} (h : ∀ u ∈ l, JntIn u w) : Stb w [] fun w' => ∀ u ∈ l, JntIn u w' := ⟨fun w' k u hu => ⟨(rd_stb (h u hu).1).stb w' k, (rd_stb (h u hu).2.1).stb w' k, (rd_stb (h u hu).2.2.1).stb w' k, (rd_stb (h u hu).2.2.2).stb w' k⟩⟩
def jointOk (x : Jnt) : Bool := decide (0 < x.ll.length + x.rl.length) && phonesOk x.ll 3 && phonesOk x.rl 3 && phonesOk x.toll 3 && phonesOk x.torl 3
theorem joint_spec (x : Jnt) (w : World) (hx : JntIn x w) : Calls Tryz.prog 84 #[val x] w fun e w' => e = .returned (.bool (jointOk x)) ∧ Cl w [] [] w' := by
  obtain ⟨h1, h2, h3, h4⟩ := hx
  have h1 := rd_stb h1
  have h2 := rd_stb h2
  have h3 := rd_stb h3
  have h4 := rd_stb h4
  have z1 := rd_len h1.here
  have z2 := rd_len h2.here
  refine calls_cw (vs := [_]) Tryz.func84 rfl Tryz.ntmps84 rfl (Cl.start0 w) (cw_seq (cw_region ?_))
  refine sw_x rfl rfl rfl (e_box rfl rfl rfl) (fun b1 => ?_)
  refine sr rfl rfl rfl ((q_assign rfl rfl)) (sw_nil (post_then (cw_seq (cw_region (sr rfl rfl rfl ((q_fieldAddr rfl rfl)) ?_)))))
  refine sr rfl rfl rfl ((q_loadC rfl rfl (by exact .head _) rfl)) ?_
  refine sr rfl rfl rfl ((q_len rfl (.cons rfl inferInstance (.nil)) (by exact fun w hw => Stb.cl (by assumption) hw))) ?_
  refine sr rfl rfl rfl ((q_fieldAddr rfl rfl)) ?_
  refine sr rfl rfl rfl ((q_loadC rfl rfl (by exact .head _) rfl)) ?_
  refine sr rfl rfl rfl ((q_len rfl (.cons rfl inferInstance (.nil)) (by exact fun w hw => Stb.cl (by assumption) hw))) ?_
  refine sr rfl rfl rfl ((q_add_w rfl rfl rfl)) (sr rfl rfl rfl ((q_gtr rfl rfl rfl)) (sr rfl rfl rfl ((q_move rfl rfl)) (sr rfl rfl rfl ((q_fieldAddr rfl rfl)) ?_)))
  refine sr rfl rfl rfl ((q_loadC rfl rfl (by exact .head _) rfl)) ?_
  refine sw_step rfl rfl rfl (q_call (CanCall.mk Tryz.call63) rfl (.cons rfl inferInstance (.cons rfl inferInstance (.nil))) (fun _ w hw => callq hw (phones_spec _ _ _ w (by exact stb_arg hw (by assumption))))) ?_
  refine sr rfl rfl rfl ((q_and2 rfl rfl rfl)) (sr rfl rfl rfl ((q_move rfl rfl)) (sr rfl rfl rfl ((q_fieldAddr rfl rfl)) ?_))
  refine sr rfl rfl rfl ((q_loadC rfl rfl (by exact .head _) rfl)) ?_
  refine sw_step rfl rfl rfl (q_call (CanCall.mk Tryz.call63) rfl (.cons rfl inferInstance (.cons rfl inferInstance (.nil))) (fun _ w hw => callq hw (phones_spec _ _ _ w (by exact stb_arg hw (by assumption))))) ?_
  refine sr rfl rfl rfl ((q_and2 rfl rfl rfl)) (sr rfl rfl rfl ((q_move rfl rfl)) (sr rfl rfl rfl ((q_fieldAddr rfl rfl)) ?_))
  refine sr rfl rfl rfl ((q_loadC rfl rfl (by exact .head _) rfl)) ?_
  refine sw_step rfl rfl rfl (q_call (CanCall.mk Tryz.call63) rfl (.cons rfl inferInstance (.cons rfl inferInstance (.nil))) (fun _ w hw => callq hw (phones_spec _ _ _ w (by exact stb_arg hw (by assumption))))) ?_
  refine sr rfl rfl rfl ((q_and2 rfl rfl rfl)) (sr rfl rfl rfl ((q_move rfl rfl)) (sr rfl rfl rfl ((q_fieldAddr rfl rfl)) ?_))
  refine sr rfl rfl rfl ((q_loadC rfl rfl (by exact .head _) rfl)) ?_
  refine sw_step rfl rfl rfl (q_call (CanCall.mk Tryz.call63) rfl (.cons rfl inferInstance (.cons rfl inferInstance (.nil))) (fun _ w hw => callq hw (phones_spec _ _ _ w (by exact stb_arg hw (by assumption))))) ?_
  refine sr rfl rfl rfl ((q_and2 rfl rfl rfl)) (sr rfl rfl rfl ((q_assign rfl rfl)) (sw_nil (post_then (cw_ret (post_ret1 rfl (resOk_tmp rfl) ?_)))))
  refine fun w' hw => ⟨?_, (fun w h => Cl.sel (by exact .nil _) w h) _ hw⟩
  congr 2
  unfold jointOk
  cases h5 : phonesOk x.ll 3 with
  | false => simp
  | true =>
    cases h6 : phonesOk x.rl 3 with
    | false => simp
    | true =>
      have a1 : x.ll.length ≤ 3 := by simp [phonesOk] at h5; omega
      have a2 : x.rl.length ≤ 3 := by simp [phonesOk] at h6; omega
      have e1 : decide (0 < IntKind.i64.wrap ((x.ll.length : Int) + (x.rl.length : Int))) = decide (0 < x.ll.length + x.rl.length) := by
        rw [IntKind.wrap_i64]
        exact decide_eq_decide.2 ⟨fun h => by omega, fun h => by omega⟩
      rw [e1]
theorem badJoint_spec (l : List Jnt) : PredL Tryz.prog 83 #[] (fun x => !jointOk x) (fun w => ∀ u ∈ l, JntIn u w) l := by
  intro x hx w hR
  have hxi := hR x hx
  have hxs : Stb w [] (JntIn x) := stb_mem (jntIn_stb hR) hx
  refine calls_cw (vs := [_]) Tryz.func83 rfl Tryz.ntmps83 rfl (Cl.start0 w) (cw_seq (cw_region ?_))
  refine sw_x rfl rfl rfl (e_box rfl rfl rfl) (fun b1 => ?_)
  refine sr rfl rfl rfl ((q_assign rfl rfl)) (sw_nil (post_then (cw_seq (cw_region ?_))))
  refine sr rfl rfl rfl ((q_loadA rfl rfl (by exact .head _) rfl)) ?_
  refine sw_step rfl rfl rfl (q_call (CanCall.mk Tryz.call84) rfl (.cons rfl inferInstance (.nil)) (fun _ w hw => callq hw (joint_spec _ w (stb_arg hw hxs).here))) (sr rfl rfl rfl ((q_not rfl rfl)) (sr rfl rfl rfl ((q_assign rfl rfl)) (sw_nil (post_then (cw_ret (post_ret1 rfl (resOk_tmp rfl) ?_))))))
  exact fun w' hw => ⟨rfl, (fun w h => Cl.sel (by exact .nil _) w h) _ hw⟩
theorem badWord_spec (vs : List SlV) (ll : List (List ByteArray)) (hl : vs.length = ll.length) : PredN Tryz.prog 86 #[] (fun i => !phonesOk (nth ll i) 120) (fun w => RdR vs ll w) vs := by
  intro i hi w hR
  have h1 : Stb w [] (RdL (nth vs i).v (nth ll i)) := rd_stb (hR.2 i (by omega))
  refine calls_cw (vs := [_]) Tryz.func86 rfl Tryz.ntmps86 rfl (Cl.start0 w) (cw_seq (cw_region (sr rfl rfl rfl ((q_assign rfl rfl)) (sw_nil (post_then (cw_seq (cw_region (sr rfl rfl rfl ((q_move rfl rfl)) ?_))))))))
  refine sw_step rfl rfl rfl (q_call (CanCall.mk Tryz.call63) rfl (.cons rfl inferInstance (.cons rfl inferInstance (.nil))) (fun _ w hw => callq hw (phones_spec _ _ _ w (by exact stb_arg hw (by assumption))))) ?_
  refine sr rfl rfl rfl ((q_not rfl rfl)) (sr rfl rfl rfl ((q_assign rfl rfl)) (sw_nil (post_then (cw_ret (post_ret1 rfl (resOk_tmp rfl) ?_)))))
  exact fun w' hw => ⟨rfl, hw⟩
/-- A joint fits between two pronunciations. -/
def fitsC (x : Jnt) (a b : List ByteArray) : Bool := decide (x.ll.length ≤ a.length) && decide (x.rl.length ≤ b.length) && decide (a.drop (a.length - x.ll.length) = x.ll) && decide (b.take x.rl.length = x.rl)
theorem fits_spec (x : Jnt) (sa sb : SlV) (a b : List ByteArray) (w : World) (hx : Stb w [] (JntIn x)) (ha : Stb w [] (RdL sa.v a)) (hb : Stb w [] (RdL sb.v b)) : Calls Tryz.prog 90 #[val x, sa.v, sb.v] w fun e w' => e = .returned (.bool (fitsC x a b)) ∧ Cl w [] [] w' := by
  have h1 : Stb w [] (RdL x.l.v x.ll) := stb_map hx fun _ h => h.1
  have h2 : Stb w [] (RdL x.r.v x.rl) := stb_map hx fun _ h => h.2.1
  have z1 := rd_len h1.here
  have z2 := rd_len h2.here
  have z3 := rd_len ha.here
  have z4 := rd_len hb.here
  have f1 : x.ll.length ≤ a.length → Stb w [] (RdL (sa.sub 1 ((a.length : Int) - (x.ll.length : Int)).toNat a.length).v ((a.take a.length).drop (a.length - x.ll.length))) := fun h => by
    rw [show ((a.length : Int) - (x.ll.length : Int)).toNat = a.length - x.ll.length by omega]
    exact stb_sub ha (by omega) (Nat.le_refl _)
  have f2 : x.rl.length ≤ b.length → Stb w [] (RdL (sb.sub 1 0 (x.rl.length : Int).toNat).v ((b.take x.rl.length).drop 0)) := fun h => stb_sub hb (Nat.zero_le _) h
  refine calls_cw (vs := [_, _, _]) Tryz.func90 rfl Tryz.ntmps90 rfl (Cl.start0 w) (cw_seq (cw_region ?_))
  refine sw_x rfl rfl rfl (e_box rfl rfl rfl) (fun b3 => ?_)
  refine sr rfl rfl rfl ((q_assign rfl rfl)) (sw_nil (post_then (cw_seq ?_)))
  refine cw_region_q mixed_Tryz (by kernel_rfl) ?_
  refine qr rfl rfl rfl ((q_move rfl rfl)) ?_
  refine qr rfl rfl rfl ((q_len rfl (.cons rfl inferInstance (.nil)) (by exact fun w hw => Stb.cl (by assumption) hw))) ?_
  refine qr rfl rfl rfl ((q_fieldAddr rfl rfl)) ?_
  refine qr rfl rfl rfl ((q_loadC rfl rfl (by exact .head _) rfl)) ?_
  refine qr rfl rfl rfl ((q_len rfl (.cons rfl inferInstance (.nil)) (by exact fun w hw => Stb.cl (by assumption) hw))) ?_
  refine qr rfl rfl rfl ((q_geq rfl rfl rfl)) (qr rfl rfl rfl ((q_move rfl rfl)) (qr rfl rfl rfl ((q_move rfl rfl)) ?_))
  refine qr rfl rfl rfl ((q_len rfl (.cons rfl inferInstance (.nil)) (by exact fun w hw => Stb.cl (by assumption) hw))) ?_
  refine qr rfl rfl rfl ((q_fieldAddr rfl rfl)) ?_
  refine qr rfl rfl rfl ((q_loadC rfl rfl (by exact .head _) rfl)) ?_
  refine qr rfl rfl rfl ((q_len rfl (.cons rfl inferInstance (.nil)) (by exact fun w hw => Stb.cl (by assumption) hw))) ?_
  refine qr rfl rfl rfl ((q_geq rfl rfl rfl)) (qr rfl rfl rfl ((q_and2 rfl rfl rfl)) (qr rfl rfl rfl ((q_move rfl rfl)) (qr rfl rfl rfl ((q_move rfl rfl)) (qr rfl rfl rfl ((q_move rfl rfl)) ?_))))
  refine qr rfl rfl rfl ((q_len rfl (.cons rfl inferInstance (.nil)) (by exact fun w hw => Stb.cl (by assumption) hw))) ?_
  refine qr rfl rfl rfl ((q_fieldAddr rfl rfl)) ?_
  refine qr rfl rfl rfl ((q_loadC rfl rfl (by exact .head _) rfl)) ?_
  refine qr rfl rfl rfl ((q_len rfl (.cons rfl inferInstance (.nil)) (by exact fun w hw => Stb.cl (by assumption) hw))) ?_
  refine qr rfl rfl rfl ((q_sub rfl rfl rfl (by intro hc; omega))) ?_
  refine qr rfl rfl rfl ((q_sliceL rfl rfl rfl (by exact fun w hw => Stb.cl (by assumption) hw) (fun hcc => by simp [AllT] at hcc; omega))) ?_
  refine qr rfl rfl rfl ((q_fieldAddr rfl rfl)) ?_
  refine qr rfl rfl rfl ((q_loadC rfl rfl (by exact .head _) rfl)) ?_
  refine qw_step rfl rfl rfl (q_call (CanCall.mk Tryz.call100) rfl (.cons rfl inferInstance (.cons rfl inferInstance (.nil))) (fun hcc w1 hw => callq hw (equalL_spec _ _ ((a.take a.length).drop (a.length - x.ll.length)) x.ll w1 (stb_arg hw (f1 (by simp [AllT] at hcc; omega))) (stb_arg hw h1)))) ?_
  refine qr rfl rfl rfl ((q_and2 rfl rfl rfl)) (qr rfl rfl rfl ((q_move rfl rfl)) (qr rfl rfl rfl ((q_move rfl rfl)) (qr rfl rfl rfl ((q_fieldAddr rfl rfl)) ?_)))
  refine qr rfl rfl rfl ((q_loadC rfl rfl (by exact .head _) rfl)) ?_
  refine qr rfl rfl rfl ((q_len rfl (.cons rfl inferInstance (.nil)) (by exact fun w hw => Stb.cl (by assumption) hw))) ?_
  refine qr rfl rfl rfl ((q_sliceH rfl rfl rfl (by exact fun w hw => Stb.cl (by assumption) hw) (fun hcc => by simp [AllT] at hcc; omega))) ?_
  refine qr rfl rfl rfl ((q_fieldAddr rfl rfl)) ?_
  refine qr rfl rfl rfl ((q_loadC rfl rfl (by exact .head _) rfl)) ?_
  refine qw_step rfl rfl rfl (q_call (CanCall.mk Tryz.call100) rfl (.cons rfl inferInstance (.cons rfl inferInstance (.nil))) (fun hcc w1 hw => callq hw (equalL_spec _ _ ((b.take x.rl.length).drop 0) x.rl w1 (stb_arg hw (f2 (by simp [AllT] at hcc; omega))) (stb_arg hw h2)))) ?_
  refine qr rfl rfl rfl ((q_and2 rfl rfl rfl)) (qr rfl rfl rfl ((q_assign rfl rfl)) (qw_end (post_then (cw_ret (post_ret1 rfl (resOk_tmp rfl) ?_)))))
  refine fun w' hw => ⟨?_, (fun w h => Cl.sel (by exact .nil _) w h) _ hw⟩
  congr 2
  unfold fitsC
  rw [List.take_length, List.drop_zero, show decide ((x.ll.length : Int) ≤ (a.length : Int)) = decide (x.ll.length ≤ a.length) from decide_eq_decide.2 ⟨fun h => by omega, fun h => by omega⟩, show decide ((x.rl.length : Int) ≤ (b.length : Int)) = decide (x.rl.length ≤ b.length) from decide_eq_decide.2 ⟨fun h => by omega, fun h => by omega⟩]
theorem fitsAt_spec (b6 b9 : Nat) (so : SlV) (vs : List SlV) (i : Nat) (hi : i + 1 < vs.length) (a b : List ByteArray) (l : List Jnt) : PredL Tryz.prog 89 #[.pointer (some ⟨b6, 0, none⟩), .pointer (some ⟨b9, 0, none⟩)] (fun x => fitsC x a b) (fun w => (BlkAt b6 [so.v] 27 w ∧ BlkAt b9 [.int .i64 i] 3 w ∧ RdL so.v vs w) ∧ RdL (nth vs i).v a w ∧ RdL (nth vs (i + 1)).v b w ∧ ∀ u ∈ l, JntIn u w) l := by
  intro x hx w ⟨⟨hR1, hR2, hR3⟩, hR4, hR5, hR6⟩
  have h1 := blk_stb hR1
  have h2 := blk_stb hR2
  have h3 := rd_stb hR3
  have h4 := rd_stb hR4
  have h5 := rd_stb hR5
  have z3 := rd_len h3.here
  have hxs : Stb w [] (JntIn x) := stb_mem (jntIn_stb hR6) hx
  refine calls_cw (vs := [_, _, _]) Tryz.func89 rfl Tryz.ntmps89 rfl (Cl.start0 w) (cw_seq (cw_region ?_))
  refine sw_x rfl rfl rfl (e_box rfl rfl rfl) (fun b3 => ?_)
  refine sr rfl rfl rfl ((q_assign rfl rfl)) (sw_nil (post_then (cw_seq ?_)))
  refine cw_region_q mixed_Tryz (by kernel_rfl) ?_
  refine qr rfl rfl rfl ((q_loadA rfl rfl (by exact .head _) rfl)) ?_
  refine qr rfl rfl rfl ((q_loadS rfl rfl (fun w hw => Stb.cl (by assumption) hw) rfl)) ?_
  refine qr rfl rfl rfl ((q_loadS rfl rfl (fun w hw => Stb.cl (by assumption) hw) rfl)) ?_
  refine qr rfl rfl rfl ((q_indexN rfl rfl rfl (by exact fun w hw => Stb.cl (by assumption) hw) (by intro hc; omega))) ?_
  refine qr rfl rfl rfl ((q_loadEl rfl rfl rfl (by exact fun w hw => Stb.cl (by assumption) hw) (by intro hc; omega))) ?_
  refine qr rfl rfl rfl ((q_loadS rfl rfl (fun w hw => Stb.cl (by assumption) hw) rfl)) ?_
  refine qr rfl rfl rfl ((q_loadS rfl rfl (fun w hw => Stb.cl (by assumption) hw) rfl)) ?_
  refine qr rfl rfl rfl ((q_add rfl rfl rfl (by intro hc; omega))) ?_
  refine qr rfl rfl rfl ((q_indexN rfl rfl rfl (by exact fun w hw => Stb.cl (by assumption) hw) (by intro hc; omega))) ?_
  refine qr rfl rfl rfl ((q_loadEl rfl rfl rfl (by exact fun w hw => Stb.cl (by assumption) hw) (by intro hc; omega))) ?_
  refine qw_step rfl rfl rfl (q_call (CanCall.mk Tryz.call90) rfl (.cons rfl inferInstance (.cons rfl inferInstance (.cons rfl inferInstance (.nil)))) (fun _ w1 hw => callq hw (fits_spec x (nth vs i) (nth vs (i + 1)) a b w1 (stb_arg hw hxs) (stb_arg hw h4) (stb_arg hw h5)))) (qr rfl rfl rfl ((q_assign rfl rfl)) (qw_end (post_then (cw_ret (post_ret1 rfl (resOk_tmp rfl) ?_)))))
  exact fun w' hw => ⟨rfl, (fun w h => Cl.sel (by exact .nil _) w h) _ hw⟩
end Go.Proofs.YtkmbliojafefdaaGreatDoor

set_option autoImplicit false
set_option maxRecDepth 100000
namespace Go.Proofs.YtkmbliojafefdaaGreatDoor
open Go.Sx
open Enc (enc val)
def stepJ (j : List Jnt) (a b : List ByteArray) : List ByteArray × List ByteArray := match j.find? fun x => fitsC x a b with
  | none => (a, b)
  | some x => (a.take (a.length - x.ll.length) ++ x.toll, x.torl ++ b.drop x.rl.length)
def joinAt (j : List Jnt) (ll : List (List ByteArray)) (i : Nat) : List (List ByteArray) := (ll.set i (stepJ j (nth ll i) (nth ll (i + 1))).1).set (i + 1) (stepJ j (nth ll i) (nth ll (i + 1))).2
def joinF (j : List Jnt) : Nat → Nat → List (List ByteArray) → Option (List (List ByteArray))
  | 0, _, ll => some ll
  | n + 1, i, ll => if 120 < (nth (joinAt j ll i) i).length ∨ 120 < (nth (joinAt j ll i) (i + 1)).length then none else joinF j n (i + 1) (joinAt j ll i)
def joinC (j : List Jnt) (ll : List (List ByteArray)) : Option (List (List ByteArray)) := joinF j (ll.length - 1) 0 ll
theorem set_same {α : Type} [Inhabited α] (l : List α) (i : Nat) : l.set i (nth l i) = l := by
  by_cases h : i < l.length
  · rw [nth_get h, List.set_getElem_self]
  · rw [List.set_eq_of_length_le (by omega)]
theorem nth_set_ne {α : Type} [Inhabited α] (l : List α) {i k : Nat} (x : α) (h : k ≠ i) : nth (l.set i x) k = nth l k := by
  simp only [nth, List.getD, List.getElem?_set]
  rw [if_neg (fun e => h e.symm)]
theorem nth_set_eq {α : Type} [Inhabited α] {l : List α} {i : Nat} (x : α) (h : i < l.length) : nth (l.set i x) i = x := by
  rw [nth_setP _ _ _ _ h, if_pos rfl]
theorem joinAt_len (j : List Jnt) (ll : List (List ByteArray)) (i : Nat) : (joinAt j ll i).length = ll.length := by simp [joinAt]
theorem joinAt_no {j : List Jnt} {ll : List (List ByteArray)} {i : Nat} (h : j.find? (fun x => fitsC x (nth ll i) (nth ll (i + 1))) = none) : joinAt j ll i = ll := by
  unfold joinAt stepJ
  rw [h]
  dsimp only
  rw [set_same, set_same]
theorem joinAt_1 {j : List Jnt} {ll : List (List ByteArray)} {i : Nat} (h : i + 1 < ll.length) : nth (joinAt j ll i) i = (stepJ j (nth ll i) (nth ll (i + 1))).1 := by
  unfold joinAt
  rw [nth_set_ne _ _ (by omega), nth_set_eq _ (by omega)]
theorem joinAt_2 {j : List Jnt} {ll : List (List ByteArray)} {i : Nat} (h : i + 1 < ll.length) : nth (joinAt j ll i) (i + 1) = (stepJ j (nth ll i) (nth ll (i + 1))).2 := by
  unfold joinAt
  rw [nth_set_eq _ (by simpa using h)]
theorem idxP_find {α : Type} [Inhabited α] (p : α → Bool) (l : List α) : (idxP p l < 0 → l.find? p = none) ∧ (0 ≤ idxP p l → (idxP p l).toNat < l.length ∧ l.find? p = some (nth l (idxP p l).toNat)) := by
  unfold idxP
  cases h : l.findIdx? p with
  | none =>
    refine ⟨fun _ => ?_, fun h2 => by simp at h2⟩
    rw [List.findIdx?_eq_none_iff] at h
    rw [List.find?_eq_none]
    intro x hx; simp [h x hx]
  | some i =>
    obtain ⟨hi, hp, hn⟩ := List.findIdx?_eq_some_iff_getElem.1 h
    refine ⟨fun h2 => by simp at h2; omega, fun _ => ⟨hi, ?_⟩⟩
    show l.find? p = some (nth l i)
    refine find_at hi (fun k hk => ?_) (by rw [nth_get hi]; exact hp)
    have := hn k hk
    rw [nth_get (by omega)]
    simpa using this
theorem sep_mem : ∀ {L : List Asn} {w : World} {bs : List Nat}, Sep L w bs → ∀ A ∈ L, ∃ b, A.holds w b
  | [], _, _, _, A, hA => by simp at hA
  | X :: L, w, bs, ⟨b1, b2, _, k1, k2⟩, A, hA => by
    rcases List.mem_cons.1 hA with rfl | hA
    · exact ⟨_, k1⟩
    · exact sep_mem k2 A hA
theorem rows_rd {e : TypeId} {vs : List SlV} {ll : List (List ByteArray)} {w : World} {bs : List Nat} (hl : vs.length = ll.length) (h : Sep (rowsF e vs (nth ll)) w bs) : RdR vs ll w := by
  refine ⟨hl, fun i hi => ?_⟩
  obtain ⟨b, hb⟩ := sep_mem h _ (rowsF_mem (e := e) (vs := vs) (f := nth ll) (i := i) (by omega))
  exact ownL.rd hb
theorem perm_two {A B : Asn} {P R : List Asn} : (P ++ A :: B :: R).Perm (A :: B :: (P ++ R)) := List.perm_middle.trans (List.perm_middle.cons A)
theorem perm_three {A B C : Asn} {R : List Asn} : (A :: B :: C :: R).Perm (C :: B :: A :: R) :=
  ((List.perm_append_comm (l₁ := [A, B]) (l₂ := [C])).append_right R).trans ((List.Perm.swap B A R).cons C)
theorem rd_dropS {s : SlV} {l : List ByteArray} {w : World} (h : RdL s.v l w) {k : Nat} (hk : k ≤ l.length) : RdL (s.sub 1 k l.length).v (l.drop k) w := by
  have := rd_sub h (a := k) (b := l.length) hk (Nat.le_refl _)
  rwa [List.take_length] at this
theorem rowsO2_congr {e : TypeId} {vs vs' : List SlV} {f f' : Nat → List ByteArray} {i j : Nat} (hl : vs'.length = vs.length) (h : ∀ k, k < vs.length → k ≠ i → k ≠ j → f' k = f k ∧ nth vs' k = nth vs k) : rowsO2 e vs' f' i j = rowsO2 e vs f i j := by
  unfold rowsO2
  rw [hl]
  have hn : (List.range vs.length).Nodup := List.nodup_range
  have key : ∀ k ∈ ((List.range vs.length).erase i).erase j, k < vs.length ∧ k ≠ i ∧ k ≠ j := fun k hk => by
    have h1 := ((hn.erase i).mem_erase_iff).1 hk
    have h2 := (hn.mem_erase_iff).1 h1.2
    exact ⟨by simpa using h2.2, h2.1, h1.1⟩
  exact rowsAt_congr (fun k hk => (h k (key k hk).1 (key k hk).2.1 (key k hk).2.2).1) fun k hk => (h k (key k hk).1 (key k hk).2.1 (key k hk).2.2).2
def joinE (j : List Jnt) (ll : List (List ByteArray)) : Int := if 200 < j.length ∨ 100 < ll.length then 4 else if j.all jointOk && ll.all fun l => phonesOk l 120 then (match joinC j ll with | some _ => 0 | none => 4) else 2
def joinR (j : List Jnt) (ll : List (List ByteArray)) : List (List ByteArray) := if joinE j ll = 0 then (joinC j ll).getD [] else []
theorem cl_fin {w0 w : World} {A B C D E F G O : Asn} {R R' : List Asn} (h : Cl w0 [] (A :: B :: C :: D :: E :: F :: G :: O :: R) w) (p : R'.Perm (C :: B :: R)) : Cl w0 [] (F :: A :: O :: R') w := by
  have h1 : (A :: B :: C :: D :: E :: F :: G :: O :: R).Perm (D :: E :: G :: (F :: A :: O :: C :: B :: R)) := by
    have p1 : (A :: B :: C :: D :: E :: F :: G :: O :: R).Perm ([D, E, F, G, O] ++ ([A, B, C] ++ R)) := (List.perm_append_comm (l₁ := [A, B, C]) (l₂ := [D, E, F, G, O])).append_right R |>.trans (by simp)
    refine p1.trans ?_
    show (D :: E :: F :: G :: O :: A :: B :: C :: R).Perm _
    refine .cons _ (.cons _ ?_)
    refine (List.Perm.swap G F _).trans (.cons _ (.cons _ ?_))
    refine (List.Perm.swap A O _).trans (.cons _ (.cons _ ?_))
    exact List.Perm.swap C B R
  exact (h.perm (h1.trans (((((p.symm.cons O).cons A).cons F).cons G).cons E |>.cons D))).tail.tail.tail
theorem join_spec (sj sw : SlV) (j : List Jnt) (ll : List (List ByteArray)) (w : World) (hj : Stb w [] (RdL sj.v j)) (hji : Stb w [] fun w' => ∀ u ∈ j, JntIn u w') (hsw : Stb w [] (RdRR sw.v ll)) :
    Calls Tryz.prog 46 #[sj.v, sw.v] w fun e w' => ∃ r : SlV, e = .returned (.tuple #[r.v, .int .i64 (joinE j ll)]) ∧ True ∧ Cl w [] [frz (RdRR r.v (joinR j ll))] w' := by
  obtain ⟨vs0, g1, g2⟩ := hsw.here
  have h0 := rd_stb g1
  have hR := rdR_stb g2
  have hvl := g2.1
  have hLj := rd_len hj.here
  have hLw := rd_len h0.here
  refine calls_cw (vs := [_, _]) Tryz.func46 rfl Tryz.ntmps46 rfl (Cl.start0 w) (cw_seq (cw_region (sr rfl rfl rfl ((q_assign rfl rfl)) (sr rfl rfl rfl ((q_assign rfl rfl)) (sw_nil (post_then (cw_seq (cw_seq (cw_region (sr rfl rfl rfl ((q_move rfl rfl)) ?_))))))))))
  refine sr rfl rfl rfl ((q_len rfl (.cons rfl inferInstance (.nil)) (by exact fun w hw => Stb.cl (by assumption) hw))) ?_
  refine sr rfl rfl rfl ((q_gtr rfl rfl rfl)) (sr rfl rfl rfl ((q_move rfl rfl)) (sr rfl rfl rfl ((q_move rfl rfl)) ?_))
  refine sr rfl rfl rfl ((q_len rfl (.cons rfl inferInstance (.nil)) (by exact fun w hw => Stb.cl (by assumption) hw))) ?_
  refine sr rfl rfl rfl ((q_gtr rfl rfl rfl)) (sr rfl rfl rfl ((q_or2 rfl rfl rfl)) (sw_nil (post_then ?_)))
  refine cw_cond rfl (fun h => ?_) (fun h => ?_)
  · skip
    have e1 : joinE j ll = 4 := by unfold joinE; rw [if_pos (by simp at h; omega)]
    have e2 : joinR j ll = [] := by unfold joinR; rw [if_neg (by rw [e1]; decide)]
    refine cw_seq (cw_region (sr rfl rfl rfl ((q_assign rfl rfl)) (sr rfl rfl rfl ((q_assign rfl rfl)) (sw_nil (post_then (cw_ret (post_then_r (post_ret2 rfl (resOk_tmp rfl) (resOk_tmp rfl) ?_))))))))
    exact fun w' hw => ⟨⟨none, 0, 0⟩, by rw [e1]; rfl, trivial, by rw [e2]; exact frz_nil hw⟩
  · skip
    have hb : ¬ (200 < j.length ∨ 100 < ll.length) := by simp at h; omega
    have e0 : joinE j ll = if j.all jointOk && ll.all fun l => phonesOk l 120 then (match joinC j ll with | some _ => 0 | none => 4) else 2 := by unfold joinE; rw [if_neg hb]
    refine cw_skip (post_then (cw_seq (cw_seq (cw_region (sr rfl rfl rfl ((q_move rfl rfl)) ?_)))))
    refine sw_step rfl rfl rfl (q_call (CanCall.mk Tryz.call82) rfl (.cons rfl inferInstance (.cons rfl inferInstance (.nil))) (fun _ w hw => callq hw (hasJnt_spec _ _ _ _ _ _ w (by exact stb_arg hw (by assumption)) (stb_arg hw hji) (CanCall.mk Tryz.call83) (badJoint_spec j)))) ?_
    refine sr rfl rfl rfl ((q_move rfl rfl)) (sr rfl rfl rfl ((q_move rfl rfl)) (sw_step rfl rfl rfl (q_call (CanCall.mk Tryz.call85) rfl (.cons rfl inferInstance (.cons rfl inferInstance (.nil))) (fun _ w hw => callq hw (hasN_spec _ vs0 _ _ _ _ w (stb_arg hw h0) (stb_arg hw hR) (CanCall.mk Tryz.call86) (badWord_spec vs0 ll hvl)))) (sr rfl rfl rfl ((q_or2 rfl rfl rfl)) (sw_nil (post_then ?_)))))
    rw [all_not_any, hvl, any_range (fun l => phonesOk l 120)]
    refine cw_cond rfl (fun h2 => ?_) (fun h2 => ?_)
    · skip
      have e1 : joinE j ll = 2 := by
        rw [e0, if_neg]
        cases h3 : j.all jointOk <;> cases h4 : (ll.all fun l => phonesOk l 120) <;> simp [h3, h4] at h2 ⊢
      have e2 : joinR j ll = [] := by unfold joinR; rw [if_neg (by rw [e1]; decide)]
      refine cw_seq (cw_region (sr rfl rfl rfl ((q_assign rfl rfl)) (sr rfl rfl rfl ((q_assign rfl rfl)) (sw_nil (post_then (cw_ret (post_then_r (post_ret2 rfl (resOk_tmp rfl) (resOk_tmp rfl) ?_))))))))
      exact fun w' hw => ⟨⟨none, 0, 0⟩, by rw [e1]; rfl, trivial, by rw [e2]; exact frz_nil hw⟩
    · skip
      have h3 : j.all jointOk = true ∧ (ll.all fun l => phonesOk l 120) = true := by
        cases h3 : j.all jointOk <;> cases h4 : (ll.all fun l => phonesOk l 120) <;> simp [h3, h4] at h2 ⊢
      rw [if_pos (by rw [h3.1, h3.2]; rfl)] at e0
      have hjo : ∀ x ∈ j, x.ll.length ≤ 3 ∧ x.rl.length ≤ 3 ∧ x.toll.length ≤ 3 ∧ x.torl.length ≤ 3 := fun x hx => by
        have := List.all_eq_true.1 h3.1 x hx
        simp [jointOk, phonesOk] at this; omega
      have hlo : ∀ l ∈ ll, l.length ≤ 120 := fun l hl => by
        have := List.all_eq_true.1 h3.2 l hl
        simp [phonesOk] at this; omega
      refine cw_skip (post_then (cw_seq (cw_region ?_)))
      refine sw_x rfl rfl rfl (e_alloc rfl) (fun b6 => ?_)
      refine sw_nil (post_then (cw_seq (cw_seq (cw_region (sr rfl rfl rfl ((q_move rfl rfl)) ?_)))))
      refine sr rfl rfl rfl ((q_len rfl (.cons rfl inferInstance (.nil)) (by exact fun w hw => Stb.cl (by assumption) hw))) ?_
      refine sr rfl rfl rfl ((q_move rfl rfl)) (sw_nil (post_then (cw_block ?_)))
      refine cw_loop (S := Nat × SlV × List SlV) (fun y => [(0, [], sj.v), (6, [], .pointer (some ⟨b6, 0, none⟩)), (26, [], sw.v), (27, [], .int .i64 vs0.length), (28, [], .int .i64 y.1)]) (fun y => Cl w [] (blk b6 [y.2.1.v] 27 :: ownL 23 y.2.1.v y.2.2 :: rowsF 9 y.2.2 (nth ll))) (fun y => y.1 ≤ ll.length ∧ y.2.2.length = y.1) (fun y => ll.length - y.1) (0, ⟨none, 0, 0⟩, []) ⟨Nat.zero_le _, rfl⟩ (by exact .cons rfl (.cons rfl (.cons rfl (.cons rfl (.cons rfl .nil))))) (fun w' h => (Cl.addNil 23 h).perm (.swap _ _ _)) ?_
      rintro ⟨k, so, vs⟩ ⟨hk, hvk⟩
      dsimp only at hk hvk ⊢
      refine cw_seq (cw_region (sr rfl rfl rfl ((q_lss rfl rfl rfl)) (sw_nil (post_then (cw_seq ?_)))))
      refine cw_cond rfl (fun h4 => ?_) (fun h4 => ?_)
      · skip
        have hk' : k < ll.length := by simp at h4; omega
        have hrow : Stb w [] (RdL (nth vs0 k).v (nth ll k)) := stb_row hR hk'
        have hrl := hlo _ (nth_mem hk')
        refine cw_skip (post_then (cw_seq (cw_block (cw_seq (cw_region ?_)))))
        refine sr rfl rfl rfl ((q_indexN rfl rfl rfl (by exact fun w hw => Stb.cl (by assumption) hw) (by intro hc; omega))) ?_
        refine sr rfl rfl rfl ((q_loadEl rfl rfl rfl (by exact fun w hw => Stb.cl (by assumption) hw) (by intro hc; omega))) ?_
        refine sr rfl rfl rfl ((q_assign rfl rfl)) (sw_nil (post_then (cw_region_a (Cl w [] [blk b6 [so.v] 27]) [5] mixed_Tryz ?_)))
        refine aw_take 0 (fun w h => Cl.sel (by exact .take 0 rfl (.nil _)) w h) rfl (by kernel_rfl) (by kernel_rfl) (by kernel_rfl) (by kernel_rfl) (by kernel_rfl) (by kernel_rfl) rfl rfl rfl (q_loadC rfl rfl (by exact .head _) rfl) ?_
        refine aw_pure 1 rfl (by kernel_rfl) (by kernel_rfl) (by kernel_rfl) (by kernel_rfl) (by kernel_rfl) rfl rfl rfl (q_move rfl rfl) ?_
        refine aw_x 2 (by kernel_rfl) rfl rfl rfl rfl (e_call (CanCall.mk Tryz.call87) rfl (.cons rfl inferInstance (.nil)) (fun w1 hw => cloneL_spec _ (nth ll k) (by omega) w1 (stb_arg hw hrow))) (by intro hb; exact fun _ w h => (fun w h => Cl.sel (by exact .take 1 rfl (.nil _)) w h) w h.2) (fun s34 => ?_)
        refine aw_imp fun _ => ?_
        refine aw_x 3 (by kernel_rfl) rfl rfl rfl rfl (e_build1 (α := SlV) rfl rfl rfl rfl) (by intro hb; exact fun _ => (fun w h => Cl.sel (by exact .take 2 rfl (.nil _)) w h)) (fun s35 => ?_)
        refine aw_x 4 (by kernel_rfl) rfl rfl rfl rfl (e_append (i := 3) rfl (.cons rfl inferInstance (.cons rfl inferInstance (.nil))) rfl rfl (by exact fun w hw => rd_own hw (by exact .head _)) (by first | omega | (simp only [List.length_set, List.length_append, List.length_cons, List.length_nil, List.length_replicate, List.length_take, List.length_drop, List.length_map]; omega)) rfl) (by intro hb; exact fun _ => (fun w h => Cl.sel (by exact .take 2 rfl (.nil _)) w h)) (fun s36 => ?_)
        refine aw_one0 5 (by kernel_rfl) rfl rfl rfl (e_store (i := 2) rfl rfl rfl rfl rfl rfl rfl rfl) (by intro hb; (exact absurd hb (by decide))) ?_
        refine aw_end (by kernel_rfl) ?_
        refine post_blk (post_then (cw_region ?_))
        refine sr rfl rfl rfl ((q_add rfl rfl rfl (by intro hc; omega))) ?_
        refine sr rfl rfl rfl ((q_move rfl rfl)) (sw_nil ?_)
        refine post_next (k + 1, s36, vs ++ [s34]) (by exact .cons rfl (.cons rfl (.cons rfl (.cons rfl (.cons rfl .nil))))) (fun w' h => ?_) ⟨by simp only; omega, by simp; omega⟩ (by simp only; omega)
        have h7 : Cl w [] (ownL 23 s35.v [s34] :: ownL 9 s34.v (nth ll k) :: blk b6 [s36.v] 27 :: ownL 23 s36.v (vs ++ [s34]) :: rowsF 9 vs (nth ll)) w' := h
        simp only
        rw [rowsF_snoc, hvk]
        exact h7.tail.perm (List.perm_append_singleton _ _).symm
      · skip
        have hk' : k = ll.length := by simp at h4; omega
        subst hk'
        refine cw_exit (post_then_x (post_then_x (post_blk_eq (post_then (cw_seq (cw_seq (cw_region ?_)))))))
        refine sw_x rfl rfl rfl (e_alloc rfl) (fun b9 => ?_)
        refine sw_eff0 rfl rfl (e_store (i := 0) rfl rfl rfl rfl rfl rfl rfl rfl) (sw_nil (post_then (cw_block ?_)))
        refine cw_loop (S := Nat × Nat × List SlV × List (List ByteArray)) (fun y => [(0, [], sj.v), (6, [], .pointer (some ⟨b6, 0, none⟩)), (9, [], .pointer (some ⟨y.2.1, 0, none⟩))]) (fun y => Cl w [] (blk b6 [so.v] 27 :: blk y.2.1 [.int .i64 y.1] 3 :: ownL 23 so.v y.2.2.1 :: rowsF 9 y.2.2.1 (nth y.2.2.2))) (fun y => y.1 ≤ ll.length ∧ y.2.2.1.length = ll.length ∧ y.2.2.2.length = ll.length ∧ (∀ l ∈ y.2.2.2, l.length ≤ 120) ∧ joinC j ll = joinF j (ll.length - 1 - y.1) y.1 y.2.2.2) (fun y => ll.length - y.1) (0, b9, vs, ll) ⟨Nat.zero_le _, hvk, rfl, hlo, rfl⟩ (by exact .cons rfl (.cons rfl (.cons rfl .nil))) (fun w' h => h.perm (.swap _ _ _)) ?_
        rintro ⟨i, bi, vs, mm⟩ ⟨hi0, hvn, hmn, hmb, hjc⟩
        dsimp only at hi0 hvn hmn hmb hjc ⊢
        refine cw_seq (cw_seq (cw_region ?_))
        refine sr rfl rfl rfl ((q_loadC rfl rfl (by exact .tail _ (.head _)) rfl)) ?_
        refine sr rfl rfl rfl ((q_add rfl rfl rfl (by intro hc; omega))) ?_
        refine sr rfl rfl rfl ((q_loadC rfl rfl (by exact .head _) rfl)) ?_
        refine sr rfl rfl rfl ((q_len rfl (.cons rfl inferInstance (.nil)) (by exact fun w hw => rd_own hw (by exact .tail _ (.tail _ (.head _)))))) ?_
        refine sr rfl rfl rfl ((q_lss rfl rfl rfl)) (sw_nil (post_then ?_))
        refine cw_cond rfl (fun h5 => ?_) (fun h5 => ?_)
        · skip
          have hi : i + 1 < ll.length := by simp at h5; omega
          have ha := hmb _ (nth_mem (l := mm) (i := i) (by omega))
          have hb2 := hmb _ (nth_mem (l := mm) (i := i + 1) (by omega))
          obtain ⟨a, hae⟩ : ∃ a, nth mm i = a := ⟨_, rfl⟩
          obtain ⟨b, hbe⟩ : ∃ b, nth mm (i + 1) = b := ⟨_, rfl⟩
          have hsucc : ll.length - 1 - i = (ll.length - 1 - (i + 1)) + 1 := by omega
          have hr1 : rowsF 9 vs (nth mm) = rowsF 9 vs (nth mm) := rfl
          rw [hae] at ha
          rw [hbe] at hb2
          obtain ⟨f1, f2⟩ := idxP_find (fun x => fitsC x a b) j
          refine cw_skip (post_then (cw_seq (cw_block (cw_seq (cw_region (sr rfl rfl rfl ((q_move rfl rfl)) (sr rfl rfl rfl ((q_func_l rfl (.cons rfl inferInstance (.cons rfl inferInstance (.nil))))) ?_)))))))
          refine sw_step rfl rfl rfl (q_call (CanCall.mk Tryz.call88) rfl (.cons rfl inferInstance (.cons rfl inferInstance (.nil))) (fun _ w1 hw => callq hw (hasJnt_index _ j _ _ (fun x => fitsC x a b) _ w1 (stb_arg hw hj) ⟨fun w' k => ⟨⟨(stb_blk (t := 27) hw (by exact .head _)).stb w' k, (stb_blk (t := 3) hw (by exact .tail _ (.head _))).stb w' k, (stb_own (e := 23) hw (by exact .tail _ (.tail _ (.head _)))).stb w' k⟩, (stb_own (e := 9) (l := a) hw (by rw [← hae]; exact .tail _ (.tail _ (.tail _ (rowsF_mem (by omega)))))).stb w' k, (stb_own (e := 9) (l := b) hw (by rw [← hbe]; exact .tail _ (.tail _ (.tail _ (rowsF_mem (by omega)))))).stb w' k, (stb_arg hw hji).stb w' k⟩⟩ (CanCall.mk Tryz.call89) (fitsAt_spec b6 bi so vs i (by omega) a b j)))) ?_
          refine sr rfl rfl rfl ((q_assign rfl rfl)) (sw_nil (post_then (cw_seq (cw_seq (cw_region (sr rfl rfl rfl ((q_move rfl rfl)) (sr rfl rfl rfl ((q_lss rfl rfl rfl)) (sw_nil (post_then ?_)))))))))
          refine cw_cond rfl (fun h6 => ?_) (fun h6 => ?_)
          · skip
            have hnone := f1 (by simpa using h6)
            have hsame : joinAt j mm i = mm := joinAt_no (by rw [hae, hbe]; exact hnone)
            have hjc2 : joinC j ll = joinF j (ll.length - 1 - (i + 1)) (i + 1) mm := by
              rw [hjc, hsucc]
              show (if _ then _ else _) = _
              rw [hsame, hae, hbe, if_neg (by omega)]
            refine cw_exit (post_then_x (post_blk_eq (post_then (cw_seq (cw_seq (cw_region ?_))))))
            refine sr rfl rfl rfl ((q_loadC rfl rfl (by exact .tail _ (.head _)) rfl)) ?_
            refine sw_nil (post_then (cw_region ?_))
            refine sw_x rfl rfl rfl (e_alloc rfl) (fun b9 => ?_)
            refine sw_eff0 rfl rfl (e_store (i := 0) rfl rfl rfl rfl rfl rfl rfl rfl) (sw_nil (post_then (cw_region ?_)))
            refine sr rfl rfl rfl ((q_loadC rfl rfl (by exact .head _) rfl)) ?_
            refine sr rfl rfl rfl ((q_add rfl rfl rfl (by intro hc; omega))) ?_
            refine sw_eff0 rfl rfl (e_store (i := 0) rfl rfl rfl rfl rfl rfl rfl rfl) (sw_nil ?_)
            refine post_next (i + 1, b9, vs, mm) (by exact .cons rfl (.cons rfl (.cons rfl .nil))) (fun w' h => ?_) ⟨by simp only; omega, hvn, hmn, hmb, hjc2⟩ (by simp only; omega)
            have h7 : Cl w [] (blk b9 [.int .i64 ((i + 1 : Nat) : Int)] 3 :: blk b6 [so.v] 27 :: blk bi [.int .i64 i] 3 :: ownL 23 so.v vs :: rowsF 9 vs (nth mm)) w' := h
            exact (h7.perm perm_three).tail
          · skip
            obtain ⟨f3, f4⟩ := f2 (by simpa using h6)
            have f5 : 0 ≤ idxP (fun x => fitsC x a b) j := by simpa using h6
            obtain ⟨x, hxe⟩ : ∃ x, nth j (idxP (fun x => fitsC x a b) j).toNat = x := ⟨_, rfl⟩
            have hxm : x ∈ j := by rw [← hxe]; exact nth_mem f3
            rw [hxe] at f4
            have hfit := List.find?_some f4
            have hxo := hjo x hxm
            have hst : stepJ j a b = (a.take (a.length - x.ll.length) ++ x.toll, x.torl ++ b.drop x.rl.length) := by unfold stepJ; rw [f4]
            have hJ1 := joinAt_1 (j := j) (ll := mm) (i := i) (by omega)
            have hJ2 := joinAt_2 (j := j) (ll := mm) (i := i) (by omega)
            rw [hae, hbe, hst] at hJ1 hJ2
            dsimp only at hJ1 hJ2
            simp only [fitsC, Bool.and_eq_true, decide_eq_true_eq] at hfit
            obtain ⟨⟨⟨q1, q2⟩, q3⟩, q4⟩ := hfit
            have hx1 : Stb w [] (RdL x.l.v x.ll) := stb_map (stb_mem hji hxm) fun _ h => h.1
            have hx2 : Stb w [] (RdL x.r.v x.rl) := stb_map (stb_mem hji hxm) fun _ h => h.2.1
            have hx3 : Stb w [] (RdL x.tol.v x.toll) := stb_map (stb_mem hji hxm) fun _ h => h.2.2.1
            have hx4 : Stb w [] (RdL x.tor.v x.torl) := stb_map (stb_mem hji hxm) fun _ h => h.2.2.2
            refine cw_skip (post_then (cw_seq (cw_region (sr rfl rfl rfl ((q_move rfl rfl)) (sr rfl rfl rfl ((q_move rfl rfl)) ?_)))))
            refine sr rfl rfl rfl ((q_index rfl rfl rfl (by exact fun w hw => Stb.cl (by assumption) hw) (by intro hc; omega))) ?_
            refine sr rfl rfl rfl ((q_loadEl rfl rfl rfl (by exact fun w hw => Stb.cl (by assumption) hw) (by intro hc; omega))) ?_
            rw [hxe]
            refine sw_x rfl rfl rfl (e_alloc rfl) (fun b11 => ?_)
            refine sw_eff0 rfl rfl (e_store (i := 0) rfl rfl rfl rfl rfl rfl rfl rfl) (sw_nil (post_then (cw_seq ?_)))
            refine cw_c (C' := Cl w [] (ownL 9 (nth vs i).v a :: ownL 9 (nth vs (i + 1)).v b :: blk b11 (enc x) 81 :: blk b6 [so.v] 27 :: blk bi [.int .i64 i] 3 :: ownL 23 so.v vs :: rowsO2 9 vs (nth mm) i (i + 1))) (fun w' h => ?_) ?_
            · have h7 : Cl w [] (blk b11 (enc x) 81 :: blk b6 [so.v] 27 :: blk bi [.int .i64 i] 3 :: ownL 23 so.v vs :: rowsF 9 vs (nth mm)) w' := h
              have p1 := (rowsF_out2 (e := 9) (vs := vs) (f := nth mm) (i := i) (j := i + 1) (by omega) (by omega) (by omega)).append_left [blk b11 (enc x) 81, blk b6 [so.v] 27, blk bi [.int .i64 i] 3, ownL 23 so.v vs]
              rw [hae, hbe] at p1
              exact h7.perm (p1.trans perm_two)
            refine cw_c (C' := fun w' => ((nth vs i).len = a.length ∧ (nth vs i).len ≤ (nth vs i).cap ∧ (nth vs i).cap ≤ maxLen) ∧ Cl w [] (ownL 9 (nth vs i).v a :: ownL 9 (nth vs (i + 1)).v b :: blk b11 (enc x) 81 :: blk b6 [so.v] 27 :: blk bi [.int .i64 i] 3 :: ownL 23 so.v vs :: rowsO2 9 vs (nth mm) i (i + 1)) w') (fun w' h => ⟨rd_lens (rd_own (e := 9) (l := a) h (.head _)), h⟩) (cw_imp fun hln => ?_)
            have hln1 := hln.1
            have e5 : (((nth vs i).len : Int) - (x.ll.length : Int)).toNat = a.length - x.ll.length := by omega
            refine cw_region_a (Cl w [] [blk b11 (enc x) 81, blk b6 [so.v] 27, blk bi [.int .i64 i] 3, ownL 23 so.v vs]) [20] mixed_Tryz ?_
            refine aw_take 0 (fun w h => Cl.sel (by exact .take 2 rfl (.take 2 rfl (.take 2 rfl (.take 2 rfl (.nil _))))) w h) rfl (by kernel_rfl) (by kernel_rfl) (by kernel_rfl) (by kernel_rfl) (by kernel_rfl) (by kernel_rfl) rfl rfl rfl (q_loadC rfl rfl (by exact .tail _ (.head _)) rfl) ?_
            refine aw_take 1 (fun w h => Cl.sel (by exact .take 2 rfl (.take 2 rfl (.take 2 rfl (.take 2 rfl (.nil _))))) w h) rfl (by kernel_rfl) (by kernel_rfl) (by kernel_rfl) (by kernel_rfl) (by kernel_rfl) (by kernel_rfl) rfl rfl rfl (q_loadC rfl rfl (by exact .tail _ (.tail _ (.head _))) rfl) ?_
            refine aw_take 2 (fun w h => Cl.sel (by exact .take 2 rfl (.take 2 rfl (.take 2 rfl (.take 2 rfl (.nil _))))) w h) rfl (by kernel_rfl) (by kernel_rfl) (by kernel_rfl) (by kernel_rfl) (by kernel_rfl) (by kernel_rfl) rfl rfl rfl (q_loadC rfl rfl (by exact .tail _ (.head _)) rfl) ?_
            refine aw_take 3 (fun w h => Cl.sel (by exact .take 2 rfl (.take 2 rfl (.take 2 rfl (.take 2 rfl (.nil _))))) w h) rfl (by kernel_rfl) (by kernel_rfl) (by kernel_rfl) (by kernel_rfl) (by kernel_rfl) (by kernel_rfl) rfl rfl rfl (q_loadC rfl rfl (by exact .tail _ (.tail _ (.head _))) rfl) ?_
            refine aw_take 4 (fun w h => Cl.sel (by exact .take 2 rfl (.take 2 rfl (.take 2 rfl (.take 2 rfl (.nil _))))) w h) rfl (by kernel_rfl) (by kernel_rfl) (by kernel_rfl) (by kernel_rfl) (by kernel_rfl) (by kernel_rfl) rfl rfl rfl (q_indexN rfl rfl rfl (by exact fun w hw => rd_own hw (by exact .tail _ (.tail _ (.tail _ (.head _))))) (by intro hc; omega)) ?_
            refine aw_take 5 (fun w h => Cl.sel (by exact .take 2 rfl (.take 2 rfl (.take 2 rfl (.take 2 rfl (.nil _))))) w h) rfl (by kernel_rfl) (by kernel_rfl) (by kernel_rfl) (by kernel_rfl) (by kernel_rfl) (by kernel_rfl) rfl rfl rfl (q_loadEl rfl rfl rfl (by exact fun w hw => rd_own hw (by exact .tail _ (.tail _ (.tail _ (.head _))))) (by intro hc; omega)) ?_
            refine aw_take 6 (fun w h => Cl.sel (by exact .take 2 rfl (.take 2 rfl (.take 2 rfl (.take 2 rfl (.nil _))))) w h) rfl (by kernel_rfl) (by kernel_rfl) (by kernel_rfl) (by kernel_rfl) (by kernel_rfl) (by kernel_rfl) rfl rfl rfl (q_loadC rfl rfl (by exact .tail _ (.head _)) rfl) ?_
            refine aw_take 7 (fun w h => Cl.sel (by exact .take 2 rfl (.take 2 rfl (.take 2 rfl (.take 2 rfl (.nil _))))) w h) rfl (by kernel_rfl) (by kernel_rfl) (by kernel_rfl) (by kernel_rfl) (by kernel_rfl) (by kernel_rfl) rfl rfl rfl (q_loadC rfl rfl (by exact .tail _ (.tail _ (.head _))) rfl) ?_
            refine aw_take 8 (fun w h => Cl.sel (by exact .take 2 rfl (.take 2 rfl (.take 2 rfl (.take 2 rfl (.nil _))))) w h) rfl (by kernel_rfl) (by kernel_rfl) (by kernel_rfl) (by kernel_rfl) (by kernel_rfl) (by kernel_rfl) rfl rfl rfl (q_indexN rfl rfl rfl (by exact fun w hw => rd_own hw (by exact .tail _ (.tail _ (.tail _ (.head _))))) (by intro hc; omega)) ?_
            refine aw_take 9 (fun w h => Cl.sel (by exact .take 2 rfl (.take 2 rfl (.take 2 rfl (.take 2 rfl (.nil _))))) w h) rfl (by kernel_rfl) (by kernel_rfl) (by kernel_rfl) (by kernel_rfl) (by kernel_rfl) (by kernel_rfl) rfl rfl rfl (q_loadEl rfl rfl rfl (by exact fun w hw => rd_own hw (by exact .tail _ (.tail _ (.tail _ (.head _))))) (by intro hc; omega)) ?_
            refine aw_take 10 (fun w h => Cl.sel (by exact .take 2 rfl (.take 2 rfl (.take 2 rfl (.take 2 rfl (.nil _))))) w h) rfl (by kernel_rfl) (by kernel_rfl) (by kernel_rfl) (by kernel_rfl) (by kernel_rfl) (by kernel_rfl) rfl rfl rfl (q_lenV rfl (.cons rfl inferInstance (.nil))) ?_
            refine aw_take 11 (fun w h => Cl.sel (by exact .take 2 rfl (.take 2 rfl (.take 2 rfl (.take 2 rfl (.nil _))))) w h) rfl (by kernel_rfl) (by kernel_rfl) (by kernel_rfl) (by kernel_rfl) (by kernel_rfl) (by kernel_rfl) rfl rfl rfl (q_fieldAddr rfl rfl) ?_
            refine aw_take 12 (fun w h => Cl.sel (by exact .take 2 rfl (.take 2 rfl (.take 2 rfl (.take 2 rfl (.nil _))))) w h) rfl (by kernel_rfl) (by kernel_rfl) (by kernel_rfl) (by kernel_rfl) (by kernel_rfl) (by kernel_rfl) rfl rfl rfl (q_loadC rfl rfl (by exact .head _) rfl) ?_
            refine aw_take 13 (fun w h => Cl.sel (by exact .take 2 rfl (.take 2 rfl (.take 2 rfl (.take 2 rfl (.nil _))))) w h) rfl (by kernel_rfl) (by kernel_rfl) (by kernel_rfl) (by kernel_rfl) (by kernel_rfl) (by kernel_rfl) rfl rfl rfl (q_len rfl (.cons rfl inferInstance (.nil)) (by exact fun w hw => Stb.cl (by assumption) hw)) ?_
            refine aw_pure 14 rfl (by kernel_rfl) (by kernel_rfl) (by kernel_rfl) (by kernel_rfl) (by kernel_rfl) rfl rfl rfl (q_sub rfl rfl rfl (by intro hc; omega)) ?_
            refine aw_take 16 (fun w h => Cl.sel (by exact .take 2 rfl (.take 2 rfl (.take 2 rfl (.take 2 rfl (.nil _))))) w h) rfl (by kernel_rfl) (by kernel_rfl) (by kernel_rfl) (by kernel_rfl) (by kernel_rfl) (by kernel_rfl) rfl rfl rfl (q_fieldAddr rfl rfl) ?_
            refine aw_take 17 (fun w h => Cl.sel (by exact .take 2 rfl (.take 2 rfl (.take 2 rfl (.take 2 rfl (.nil _))))) w h) rfl (by kernel_rfl) (by kernel_rfl) (by kernel_rfl) (by kernel_rfl) (by kernel_rfl) (by kernel_rfl) rfl rfl rfl (q_loadC rfl rfl (by exact .head _) rfl) ?_
            refine aw_take 15 (fun w h => Cl.sel (by exact .take 2 rfl (.take 2 rfl (.take 2 rfl (.take 2 rfl (.nil _))))) w h) rfl (by kernel_rfl) (by kernel_rfl) (by kernel_rfl) (by kernel_rfl) (by kernel_rfl) (by kernel_rfl) rfl rfl rfl (q_slicePH rfl rfl rfl hln (fun _ => by omega)) ?_
            refine aw_c (C' := Cl w [] (ownL 9 ((nth vs i).sub 1 0 (((nth vs i).len : Int) - (x.ll.length : Int)).toNat).v (a.take (a.length - x.ll.length)) :: ownL 9 (nth vs (i + 1)).v b :: blk b11 (enc x) 81 :: blk b6 [so.v] 27 :: blk bi [.int .i64 i] 3 :: ownL 23 so.v vs :: rowsO2 9 vs (nth mm) i (i + 1))) (fun w' h => by rw [e5]; exact own_shrink (by omega) h) ?_
            refine aw_x 18 (by kernel_rfl) rfl rfl rfl rfl (e_append (i := 0) rfl (.cons rfl inferInstance (.cons rfl inferInstance (.nil))) rfl rfl (by exact fun w hw => Stb.cl (by assumption) hw) (by rw [List.length_take]; omega) rfl) (by intro hb; exact fun _ => (fun w h => Cl.sel (by exact .take 2 rfl (.take 2 rfl (.take 2 rfl (.take 2 rfl (.nil _))))) w h)) (fun s72 => ?_)
            refine aw_take 19 (fun w h => Cl.sel (by exact .take 2 rfl (.take 2 rfl (.take 2 rfl (.take 2 rfl (.nil _))))) w h) rfl (by kernel_rfl) (by kernel_rfl) (by kernel_rfl) (by kernel_rfl) (by kernel_rfl) (by kernel_rfl) rfl rfl rfl (q_indexN rfl rfl rfl (by exact fun w hw => rd_own hw (by exact .tail _ (.tail _ (.tail _ (.head _))))) (by intro hc; omega)) ?_
            refine aw_one0 20 (by kernel_rfl) rfl rfl rfl (e_storeEl1 (i := 5) rfl rfl rfl rfl rfl (by omega)) (by intro hb; (exact absurd hb (by decide))) ?_
            refine aw_end (by kernel_rfl) ?_
            refine post_then (cw_seq ?_)
            have hw1 : nth (vs.set i s72) ((i : Int) + 1).toNat = nth vs (i + 1) := nth_set_ne vs s72 (by omega : i + 1 ≠ i)
            have hl1 : (vs.set i s72).length = ll.length := by rw [List.length_set, hvn]
            have e6 : (x.rl.length : Int).toNat = x.rl.length := by omega
            refine cw_c (C' := Cl w [] (ownL 9 s72.v (a.take (a.length - x.ll.length) ++ x.toll) :: ownL 9 (nth vs (i + 1)).v b :: blk b11 (enc x) 81 :: blk b6 [so.v] 27 :: blk bi [.int .i64 i] 3 :: ownL 23 so.v (vs.set i s72) :: rowsO2 9 vs (nth mm) i (i + 1))) (fun w' h => h) (cw_region_a (Cl w [] [ownL 9 (nth vs (i + 1)).v b, blk b11 (enc x) 81, blk b6 [so.v] 27, blk bi [.int .i64 i] 3, ownL 23 so.v (vs.set i s72)]) [16, 17] mixed_Tryz ?_)
            refine aw_take 0 (fun w h => Cl.sel (by exact .take 1 rfl (.take 1 rfl (.take 1 rfl (.take 1 rfl (.take 1 rfl (.nil _)))))) w h) rfl (by kernel_rfl) (by kernel_rfl) (by kernel_rfl) (by kernel_rfl) (by kernel_rfl) (by kernel_rfl) rfl rfl rfl (q_loadC rfl rfl (by exact .tail _ (.tail _ (.head _))) rfl) ?_
            refine aw_take 1 (fun w h => Cl.sel (by exact .take 1 rfl (.take 1 rfl (.take 1 rfl (.take 1 rfl (.take 1 rfl (.nil _)))))) w h) rfl (by kernel_rfl) (by kernel_rfl) (by kernel_rfl) (by kernel_rfl) (by kernel_rfl) (by kernel_rfl) rfl rfl rfl (q_loadC rfl rfl (by exact .tail _ (.tail _ (.tail _ (.head _)))) rfl) ?_
            refine aw_pure 2 rfl (by kernel_rfl) (by kernel_rfl) (by kernel_rfl) (by kernel_rfl) (by kernel_rfl) rfl rfl rfl (q_add rfl rfl rfl (by intro hc; omega)) ?_
            refine aw_take 3 (fun w h => Cl.sel (by exact .take 1 rfl (.take 1 rfl (.take 1 rfl (.take 1 rfl (.take 1 rfl (.nil _)))))) w h) rfl (by kernel_rfl) (by kernel_rfl) (by kernel_rfl) (by kernel_rfl) (by kernel_rfl) (by kernel_rfl) rfl rfl rfl (q_fieldAddr rfl rfl) ?_
            refine aw_take 4 (fun w h => Cl.sel (by exact .take 1 rfl (.take 1 rfl (.take 1 rfl (.take 1 rfl (.take 1 rfl (.nil _)))))) w h) rfl (by kernel_rfl) (by kernel_rfl) (by kernel_rfl) (by kernel_rfl) (by kernel_rfl) (by kernel_rfl) rfl rfl rfl (q_loadC rfl rfl (by exact .tail _ (.head _)) rfl) ?_
            refine aw_take 6 (fun w h => Cl.sel (by exact .take 1 rfl (.take 1 rfl (.take 1 rfl (.take 1 rfl (.take 1 rfl (.nil _)))))) w h) rfl (by kernel_rfl) (by kernel_rfl) (by kernel_rfl) (by kernel_rfl) (by kernel_rfl) (by kernel_rfl) rfl rfl rfl (q_loadC rfl rfl (by exact .tail _ (.tail _ (.head _))) rfl) ?_
            refine aw_take 7 (fun w h => Cl.sel (by exact .take 1 rfl (.take 1 rfl (.take 1 rfl (.take 1 rfl (.take 1 rfl (.nil _)))))) w h) rfl (by kernel_rfl) (by kernel_rfl) (by kernel_rfl) (by kernel_rfl) (by kernel_rfl) (by kernel_rfl) rfl rfl rfl (q_loadC rfl rfl (by exact .tail _ (.tail _ (.tail _ (.head _)))) rfl) ?_
            refine aw_pure 8 rfl (by kernel_rfl) (by kernel_rfl) (by kernel_rfl) (by kernel_rfl) (by kernel_rfl) rfl rfl rfl (q_add rfl rfl rfl (by intro hc; omega)) ?_
            refine aw_take 9 (fun w h => Cl.sel (by exact .take 1 rfl (.take 1 rfl (.take 1 rfl (.take 1 rfl (.take 1 rfl (.nil _)))))) w h) rfl (by kernel_rfl) (by kernel_rfl) (by kernel_rfl) (by kernel_rfl) (by kernel_rfl) (by kernel_rfl) rfl rfl rfl (q_indexN rfl rfl rfl (by exact fun w hw => rd_own hw (by exact .tail _ (.tail _ (.tail _ (.tail _ (.head _)))))) (by intro hc; (simp only [List.length_set, List.length_append, List.length_cons, List.length_nil, List.length_replicate, List.length_take, List.length_drop, List.length_map]; omega))) ?_
            refine aw_take 11 (fun w h => Cl.sel (by exact .take 1 rfl (.take 1 rfl (.take 1 rfl (.take 1 rfl (.take 1 rfl (.nil _)))))) w h) rfl (by kernel_rfl) (by kernel_rfl) (by kernel_rfl) (by kernel_rfl) (by kernel_rfl) (by kernel_rfl) rfl rfl rfl (q_fieldAddr rfl rfl) ?_
            refine aw_take 12 (fun w h => Cl.sel (by exact .take 1 rfl (.take 1 rfl (.take 1 rfl (.take 1 rfl (.take 1 rfl (.nil _)))))) w h) rfl (by kernel_rfl) (by kernel_rfl) (by kernel_rfl) (by kernel_rfl) (by kernel_rfl) (by kernel_rfl) rfl rfl rfl (q_loadC rfl rfl (by exact .tail _ (.head _)) rfl) ?_
            refine aw_take 13 (fun w h => Cl.sel (by exact .take 1 rfl (.take 1 rfl (.take 1 rfl (.take 1 rfl (.take 1 rfl (.nil _)))))) w h) rfl (by kernel_rfl) (by kernel_rfl) (by kernel_rfl) (by kernel_rfl) (by kernel_rfl) (by kernel_rfl) rfl rfl rfl (q_len rfl (.cons rfl inferInstance (.nil)) (by exact fun w hw => Stb.cl (by assumption) hw)) ?_
            refine aw_take 10 (fun w h => Cl.sel (by exact .take 1 rfl (.take 1 rfl (.take 1 rfl (.take 1 rfl (.take 1 rfl (.nil _)))))) w h) rfl (by kernel_rfl) (by kernel_rfl) (by kernel_rfl) (by kernel_rfl) (by kernel_rfl) (by kernel_rfl) rfl rfl rfl (q_loadElY hw1 rfl rfl rfl (by exact fun w hw => rd_own hw (by exact .tail _ (.tail _ (.tail _ (.tail _ (.head _)))))) (by intro hc; omega)) ?_
            refine aw_take 14 (fun w h => Cl.sel (by exact .take 1 rfl (.take 1 rfl (.take 1 rfl (.take 1 rfl (.take 1 rfl (.nil _)))))) w h) rfl (by kernel_rfl) (by kernel_rfl) (by kernel_rfl) (by kernel_rfl) (by kernel_rfl) (by kernel_rfl) rfl rfl rfl (q_sliceL rfl rfl rfl (by exact fun w hw => rd_own hw (by exact .head _)) (by intro hc; omega)) ?_
            refine aw_x 5 (by kernel_rfl) rfl rfl rfl rfl (e_call (CanCall.mk Tryz.call87) rfl (.cons rfl inferInstance (.nil)) (fun w1 hw => cloneL_spec _ x.torl (by omega) w1 (stb_arg hw hx4))) (by intro hb; exact fun _ w h => (fun w h => Cl.sel (by exact .take 2 rfl (.take 2 rfl (.take 2 rfl (.take 2 rfl (.take 2 rfl (.nil _)))))) w h) w h.2) (fun s79 => ?_)
            refine aw_imp fun _ => ?_
            refine aw_x 15 (by kernel_rfl) rfl rfl rfl rfl (e_append (i := 0) (r := b.drop x.rl.length) rfl (.cons rfl inferInstance (.cons rfl inferInstance (.nil))) rfl rfl (fun w1 h1 => rd_dropS (rd_own (e := 9) (l := b) h1 (by exact .tail _ (.tail _ (.head _)))) q2) (by rw [List.length_drop]; omega) rfl) (by intro hb; exact fun _ => (fun w h => Cl.sel (by exact .take 2 rfl (.take 2 rfl (.take 2 rfl (.take 2 rfl (.take 2 rfl (.nil _)))))) w h)) (fun s89 => ?_)
            have ei : ((i : Int) + 1).toNat = i + 1 := by omega
            have hy1 : nth ((vs.set i s72).set ((i : Int) + 1).toNat s89) i = s72 := by rw [ei, nth_set_ne _ _ (by omega), nth_set_eq _ (by omega)]
            have hy2 : nth ((vs.set i s72).set ((i : Int) + 1).toNat s89) ((i : Int) + 1).toNat = s89 := by rw [ei, nth_set_eq _ (by omega)]
            have hl2 : ((vs.set i s72).set ((i : Int) + 1).toNat s89).length = ll.length := by rw [List.length_set, hl1]
            refine aw_q 16 (by kernel_rfl) rfl rfl rfl rfl (OpR.q (q_indexN rfl rfl rfl (by exact fun w hw => rd_own hw (by exact .tail _ (.tail _ (.tail _ (.tail _ (.tail _ (.tail _ (.head _)))))))) (by intro hc; (simp only [List.length_set, List.length_append, List.length_cons, List.length_nil, List.length_replicate, List.length_take, List.length_drop, List.length_map]; omega)))) (by intro hb; (exact absurd hb (by decide))) ?_
            refine aw_one0 17 (by kernel_rfl) rfl rfl rfl (e_storeEl1 (i := 6) rfl rfl rfl rfl rfl (by (simp only [List.length_set, List.length_append, List.length_cons, List.length_nil, List.length_replicate, List.length_take, List.length_drop, List.length_map]; omega))) (by intro hb; (exact absurd hb (by decide))) ?_
            refine aw_end (by kernel_rfl) ?_
            refine post_then (cw_seq (cw_region ?_))
            refine sr rfl rfl rfl ((q_loadC rfl rfl (by exact .tail _ (.tail _ (.tail _ (.tail _ (.head _))))) rfl)) ?_
            refine sr rfl rfl rfl ((q_loadC rfl rfl (by exact .tail _ (.tail _ (.tail _ (.tail _ (.tail _ (.head _)))))) rfl)) ?_
            refine sr rfl rfl rfl ((q_indexN rfl rfl rfl (by exact fun w hw => rd_own hw (by exact .tail _ (.tail _ (.tail _ (.tail _ (.tail _ (.tail _ (.head _)))))))) (by intro hc; (simp only [List.length_set, List.length_append, List.length_cons, List.length_nil, List.length_replicate, List.length_take, List.length_drop, List.length_map]; omega)))) ?_
            refine sr rfl rfl rfl ((q_loadElY hy1 rfl rfl rfl (by exact fun w hw => rd_own hw (by exact .tail _ (.tail _ (.tail _ (.tail _ (.tail _ (.tail _ (.head _)))))))) (by intro hc; omega))) ?_
            refine sr rfl rfl rfl ((q_len rfl (.cons rfl inferInstance (.nil)) (by exact fun w hw => rd_own hw (by exact .tail _ (.head _))))) ?_
            refine sr rfl rfl rfl ((q_gtr rfl rfl rfl)) (sr rfl rfl rfl ((q_move rfl rfl)) ?_)
            refine sr rfl rfl rfl ((q_loadC rfl rfl (by exact .tail _ (.tail _ (.tail _ (.tail _ (.head _))))) rfl)) ?_
            refine sr rfl rfl rfl ((q_loadC rfl rfl (by exact .tail _ (.tail _ (.tail _ (.tail _ (.tail _ (.head _)))))) rfl)) ?_
            refine sr rfl rfl rfl ((q_add rfl rfl rfl (by intro hc; omega))) ?_
            refine sr rfl rfl rfl ((q_indexN rfl rfl rfl (by exact fun w hw => rd_own hw (by exact .tail _ (.tail _ (.tail _ (.tail _ (.tail _ (.tail _ (.head _)))))))) (by intro hc; (simp only [List.length_set, List.length_append, List.length_cons, List.length_nil, List.length_replicate, List.length_take, List.length_drop, List.length_map]; omega)))) ?_
            refine sr rfl rfl rfl ((q_loadElY hy2 rfl rfl rfl (by exact fun w hw => rd_own hw (by exact .tail _ (.tail _ (.tail _ (.tail _ (.tail _ (.tail _ (.head _)))))))) (by intro hc; omega))) ?_
            refine sr rfl rfl rfl ((q_len rfl (.cons rfl inferInstance (.nil)) (by exact fun w hw => rd_own hw (by exact .head _)))) ?_
            refine sr rfl rfl rfl ((q_gtr rfl rfl rfl)) (sr rfl rfl rfl ((q_or2 rfl rfl rfl)) (sw_nil (post_then ?_)))
            refine cw_cond rfl (fun h7 => ?_) (fun h7 => ?_)
            · skip
              have hjc2 : joinC j ll = none := by
                rw [hjc, hsucc]
                show (if _ then _ else _) = _
                rw [hJ1, hJ2, if_pos]
                simp only [Bool.or_eq_true, decide_eq_true_eq] at h7
                omega
              have e1 : joinE j ll = 4 := by rw [e0, hjc2]
              have e2 : joinR j ll = [] := by unfold joinR; rw [if_neg (by rw [e1]; decide)]
              refine cw_seq (cw_region (sr rfl rfl rfl ((q_assign rfl rfl)) (sr rfl rfl rfl ((q_assign rfl rfl)) (sw_nil (post_then (cw_ret (post_blk_r (post_then_r (post_then_r (post_blk_r (post_then_r (post_ret2 rfl (resOk_tmp rfl) (resOk_tmp rfl) ?_))))))))))))
              exact fun w' hw => ⟨⟨none, 0, 0⟩, by rw [e1]; rfl, trivial, by rw [e2]; exact frz_nil hw⟩
            · skip
              simp only [Bool.or_eq_false_iff, decide_eq_false_iff_not] at h7
              have hjc2 : joinC j ll = joinF j (ll.length - 1 - (i + 1)) (i + 1) (joinAt j mm i) := by
                rw [hjc, hsucc]
                show (if _ then _ else _) = _
                rw [hJ1, hJ2, if_neg (by omega)]
              have hmb2 : ∀ l ∈ joinAt j mm i, l.length ≤ 120 := by
                intro l hl
                have h8 : l ∈ mm ∨ l = (stepJ j a b).1 ∨ l = (stepJ j a b).2 := by
                  unfold joinAt at hl
                  rw [hae, hbe] at hl
                  rcases List.mem_or_eq_of_mem_set hl with h9 | h9
                  · rcases List.mem_or_eq_of_mem_set h9 with h10 | h10
                    · exact .inl h10
                    · exact .inr (.inl h10)
                  · exact .inr (.inr h9)
                rcases h8 with h8 | h8 | h8
                · exact hmb l h8
                · rw [h8, hst]; dsimp only; omega
                · rw [h8, hst]; dsimp only; omega
              refine cw_skip (post_blk (post_then (cw_seq (cw_seq (cw_region ?_)))))
              refine sr rfl rfl rfl ((q_loadC rfl rfl (by exact .tail _ (.tail _ (.tail _ (.tail _ (.tail _ (.head _)))))) rfl)) ?_
              refine sw_nil (post_then (cw_region ?_))
              refine sw_x rfl rfl rfl (e_alloc rfl) (fun b9 => ?_)
              refine sw_eff0 rfl rfl (e_store (i := 0) rfl rfl rfl rfl rfl rfl rfl rfl) (sw_nil (post_then (cw_region ?_)))
              refine sr rfl rfl rfl ((q_loadC rfl rfl (by exact .head _) rfl)) ?_
              refine sr rfl rfl rfl ((q_add rfl rfl rfl (by intro hc; omega))) ?_
              refine sw_eff0 rfl rfl (e_store (i := 0) rfl rfl rfl rfl rfl rfl rfl rfl) (sw_nil ?_)
              refine post_next (i + 1, b9, (vs.set i s72).set ((i : Int) + 1).toNat s89, joinAt j mm i) (by exact .cons rfl (.cons rfl (.cons rfl .nil))) (fun w' h => ?_) ⟨by simp only; omega, hl2, by simp only; rw [joinAt_len]; exact hmn, hmb2, hjc2⟩ (by simp only; omega)
              have h9 : Cl w [] (blk b9 [.int .i64 ((i + 1 : Nat) : Int)] 3 :: ownL 9 s89.v (x.torl ++ b.drop x.rl.length) :: ownL 9 s72.v (a.take (a.length - x.ll.length) ++ x.toll) :: ownL 9 (nth vs (i + 1)).v b :: blk b11 (enc x) 81 :: blk b6 [so.v] 27 :: blk bi [.int .i64 i] 3 :: ownL 23 so.v ((vs.set i s72).set ((i : Int) + 1).toNat s89) :: rowsO2 9 vs (nth mm) i (i + 1)) w' := h
              have p1 := rowsF_out2 (e := 9) (vs := (vs.set i s72).set ((i : Int) + 1).toNat s89) (f := nth (joinAt j mm i)) (i := i) (j := i + 1) (by omega) (by omega) (by omega)
              rw [hJ1, hJ2, hy1] at p1
              have hy3 := hy2
              rw [ei] at hy3
              rw [ei] at p1 h9 ⊢
              rw [hy3, rowsO2_congr (vs := vs) (f := nth mm) (by simp) (fun k k1 k2 k3 => ⟨by unfold joinAt; rw [nth_set_ne _ _ k3, nth_set_ne _ _ k2], by rw [nth_set_ne _ _ k3, nth_set_ne _ _ k2]⟩)] at p1
              exact cl_fin h9 p1
        · skip
          have hi : ll.length ≤ i + 1 := by simp at h5; omega
          have hjc2 : joinC j ll = some mm := by rw [hjc, show ll.length - 1 - i = 0 by omega]; rfl
          have e1 : joinE j ll = 0 := by rw [e0, hjc2]
          have e2 : joinR j ll = mm := by unfold joinR; rw [if_pos e1, hjc2]; rfl
          refine cw_exit (post_then_x (post_then_x (post_blk_eq (post_then (cw_seq (cw_region ?_))))))
          refine sr rfl rfl rfl ((q_loadC rfl rfl (by exact .head _) rfl)) ?_
          refine sr rfl rfl rfl ((q_assign rfl rfl)) (sr rfl rfl rfl ((q_assign rfl rfl)) (sw_nil (post_then (cw_ret (post_ret2 rfl (resOk_tmp rfl) (resOk_tmp rfl) ?_)))))
          refine fun w' hw => ⟨so, by rw [e1], trivial, ?_⟩
          rw [e2]
          have h7 : Cl w [] (blk b6 [so.v] 27 :: blk bi [.int .i64 i] 3 :: ownL 23 so.v vs :: rowsF 9 vs (nth mm)) w' := hw
          exact (Cl.frz (H := ownL 23 so.v vs :: rowsF 9 vs (nth mm)) (F := []) (by rw [List.append_nil]; exact h7.tail.tail) fun w' bs ⟨c1, c2, _, k1, k2⟩ => ⟨vs, ownL.rd k1, rows_rd (by omega) k2⟩)
end Go.Proofs.YtkmbliojafefdaaGreatDoor

/- Maps whose values are slices of our own. General lemmas, no program text. -/
set_option autoImplicit false
namespace Go.Sx
variable {κ α : Type} [DecidableEq κ] [Enc α] {e : TypeId} {f f' : κ → List α} {m : List (κ × SlV)} {k : κ} {s : SlV}
def rowsK (e : TypeId) (m : List (κ × SlV)) (f : κ → List α) : List Asn := m.map fun kv => ownL e kv.2.v (f kv.1)
def eraseK (m : List (κ × SlV)) (k : κ) : List (κ × SlV) := m.filter fun kv => !decide (kv.1 = k)
theorem eraseK_none : ∀ {m : List (κ × SlV)}, k ∉ m.map (·.1) → eraseK m k = m
  | [], _ => rfl
  | x :: m, h => by
    simp only [List.map_cons, List.mem_cons, not_or] at h
    have h1 : ¬ x.1 = k := fun e => h.1 e.symm
    unfold eraseK
    rw [List.filter_cons, if_pos (by simp [h1])]
    exact congrArg _ (eraseK_none h.2)
theorem upd_perm : ∀ {m : List (κ × SlV)}, (m.map (·.1)).Nodup → (upd m k s).Perm ((k, s) :: eraseK m k)
  | [], _ => .refl _
  | x :: m, h => by
    have h2 := List.nodup_cons.1 h
    unfold upd
    by_cases h1 : x.1 = k
    · have h3 : eraseK (x :: m) k = m := by
        unfold eraseK
        rw [List.filter_cons, if_neg (by simp [h1])]
        exact eraseK_none (by rw [← h1]; exact h2.1)
      rw [h3]; simp [h1]
    · have h3 : eraseK (x :: m) k = x :: eraseK m k := by
        unfold eraseK
        rw [List.filter_cons, if_pos (by simp [h1])]
      rw [h3]; simp only [if_neg h1]
      exact ((upd_perm (m := m) h2.2).cons x).trans (.swap _ _ _)
theorem get_perm : ∀ {m : List (κ × SlV)}, (m.map (·.1)).Nodup → get? m k = some s → m.Perm ((k, s) :: eraseK m k)
  | [], _, h => by simp [get?] at h
  | x :: m, hn, h => by
    have h2 := List.nodup_cons.1 hn
    by_cases h1 : x.1 = k
    · have h3 : eraseK (x :: m) k = m := by
        unfold eraseK
        rw [List.filter_cons, if_neg (by simp [h1])]
        exact eraseK_none (by rw [← h1]; exact h2.1)
      simp [get?, h1] at h
      rw [h3, ← h, ← h1]
    · have h3 : eraseK (x :: m) k = x :: eraseK m k := by
        unfold eraseK
        rw [List.filter_cons, if_pos (by simp [h1])]
      simp [get?, h1] at h
      rw [h3]
      exact ((get_perm (m := m) h2.2 h).cons x).trans (.swap _ _ _)
theorem rowsK_congr (h : ∀ kv ∈ m, f' kv.1 = f kv.1) : rowsK e m f' = rowsK e m f := List.map_congr_left fun kv hk => by rw [h kv hk]
theorem eraseK_ne {kv : κ × SlV} (h : kv ∈ eraseK m k) : kv.1 ≠ k := by
  unfold eraseK at h
  simp at h
  exact h.2
variable {w0 w : World} {fp : List Nat} {H : List Asn}
theorem open_row (hn : (m.map (·.1)).Nodup) (hf : get? m k = none → f k = []) (h : Cl w0 fp (H ++ rowsK e m f) w) : Cl w0 fp (ownL e (getZ default m k).v (f k) :: (H ++ rowsK e (eraseK m k) f)) w := by
  cases hg : get? m k with
  | none =>
    have h1 := get?_none.1 hg
    rw [eraseK_none h1, hf hg]
    have e1 : (getZ default m k : SlV) = ⟨none, 0, 0⟩ := by simp [getZ, hg]; rfl
    rw [e1]
    exact Cl.addNil e h
  | some s =>
    have e1 : (getZ default m k : SlV) = s := by simp [getZ, hg]
    rw [e1]
    have p1 : (rowsK e m f).Perm (ownL e s.v (f k) :: rowsK e (eraseK m k) f) := (get_perm hn hg).map _
    exact h.perm ((p1.append_left H).trans List.perm_middle)
theorem shut_row {l : List α} (hn : (m.map (·.1)).Nodup) (hf : ∀ k', k' ≠ k → f' k' = f k') (hl : f' k = l) (h : Cl w0 fp (ownL e s.v l :: (H ++ rowsK e (eraseK m k) f)) w) : Cl w0 fp (H ++ rowsK e (upd m k s) f') w := by
  have p1 : (rowsK e (upd m k s) f').Perm (ownL e s.v l :: rowsK e (eraseK m k) f) := by
    have p2 : (rowsK e (upd m k s) f').Perm (ownL e s.v (f' k) :: rowsK e (eraseK m k) f') := (upd_perm hn).map _
    rw [hl, rowsK_congr (f' := f') (f := f) fun kv hk => hf _ (eraseK_ne hk)] at p2
    exact p2
  exact h.perm (List.perm_middle.symm.trans (p1.symm.append_left H))
theorem rowsK_mem {kv : κ × SlV} (h : kv ∈ m) : ownL e kv.2.v (f kv.1) ∈ rowsK e m f := List.mem_map_of_mem h
/-- All rows frozen. -/
theorem rowsK_frz (h : Cl w0 fp (H ++ rowsK e m f) w) : Cl w0 fp (H ++ [Sx.frz fun w => ∀ kv ∈ m, RdL kv.2.v (f kv.1) w]) w := by
  have h1 : Cl w0 fp (rowsK e m f ++ H) w := h.perm List.perm_append_comm
  have h2 := Cl.frz (R := fun w => ∀ kv ∈ m, RdL kv.2.v (f kv.1) w) h1 fun w bs hs kv hk => by
    have : ∀ {L : List Asn} {bs : List Nat}, Sep L w bs → ∀ A ∈ L, ∃ b, A.holds w b := by
      intro L
      induction L with
      | nil => intro bs _ A hA; simp at hA
      | cons X L ih =>
        rintro bs ⟨b1, b2, rfl, k1, k2⟩ A hA
        rcases List.mem_cons.1 hA with rfl | hA
        · exact ⟨_, k1⟩
        · exact ih k2 A hA
    obtain ⟨b, hb⟩ := this hs _ (rowsK_mem hk)
    exact ownL.rd hb
  exact h2.perm (by simpa using (List.perm_append_comm (l₁ := [Sx.frz _]) (l₂ := H)))
end Go.Sx

set_option autoImplicit false
set_option maxRecDepth 100000
namespace Go.Proofs.YtkmbliojafefdaaGreatDoor
open Go.Sx
open Enc (enc val)
structure TT where
  a1 : Int
  c1 : Int
  a2 : Int
  c2 : Int
deriving DecidableEq
instance : Inhabited TT := ⟨⟨0, 0, 0, 0⟩⟩
instance : Enc TT := ⟨fun u => [.int .i64 u.a1, .int .i32 u.c1, .int .i64 u.a2, .int .i32 u.c2], 4, fun u => .agg #[.int .i64 u.a1, .int .i32 u.c1, .int .i64 u.a2, .int .i32 u.c2], fun _ => rfl, by simp [Value.oneCell'], fun _ => rfl, by decide⟩
instance : HasTy Tryz.prog 211 TT := hasTy_agg Tryz.sizeOf211 Tryz.isAgg211 (fun _ => rfl)
instance : ArT Tryz.prog 211 2 [.int .i64 0, .int .i32 0, .int .i64 0, .int .i32 0] := ⟨fun _ => by kernel_rfl⟩
structure Tly where
  t : TT
  p : SlV
  n : Int
  m : Int
  pl : List ByteArray
instance : Inhabited Tly := ⟨⟨default, default, 0, 0, []⟩⟩
instance : Enc Tly := ⟨fun u => [.int .i64 u.t.a1, .int .i32 u.t.c1, .int .i64 u.t.a2, .int .i32 u.t.c2, u.p.v, .int .i64 u.n, .int .i64 u.m], 7, fun u => .agg #[.int .i64 u.t.a1, .int .i32 u.t.c1, .int .i64 u.t.a2, .int .i32 u.t.c2, u.p.v, .int .i64 u.n, .int .i64 u.m], fun _ => rfl, by simp [Value.oneCell', SlV.v], fun _ => rfl, by decide⟩
instance : HasTy Tryz.prog 213 Tly := hasTy_agg Tryz.sizeOf213 Tryz.isAgg213 (fun _ => rfl)
structure Ety where
  word : ByteArray
  p : SlV
  s : SlV
  sl : List (List ByteArray)
  pl : List ByteArray
instance : Inhabited Ety := ⟨⟨default, default, default, [], []⟩⟩
instance : Enc Ety := ⟨fun u => [.string u.word, u.p.v, u.s.v], 3, fun u => .agg #[.string u.word, u.p.v, u.s.v], fun _ => rfl, by simp [Value.oneCell', SlV.v], fun _ => rfl, by decide⟩
instance : HasTy Tryz.prog 153 Ety := hasTy_agg Tryz.sizeOf153 Tryz.isAgg153 (fun _ => rfl)
instance : DecidableEq Rn := fun a b => decidable_of_iff (a.v = b.v) ⟨fun h => by cases a; cases b; simp at h; rw [h], fun h => by rw [h]⟩
instance : KeyT Tryz.prog 21 Rn := keyT_basic Tryz.underlying21 (fun _ => rfl) (fun k k' => by
  obtain ⟨a⟩ := k
  obtain ⟨b⟩ := k'
  simp [Enc.val, Instr.sameNow, eq_comm, BEq.beq])
theorem chk211 (k : TT) (em : Bool) (w : World) : (Instr.checkKey em 10000 211 (val k)).run Tryz.prog w = .ok () w := by kernel_rfl
theorem eq109 (a c a' c' : Int) (w : World) : (Op.equalIn 9999 109 (.agg #[.int .i64 a, .int .i32 c]) (.agg #[.int .i64 a', .int .i32 c'])).run Tryz.prog w = .ok (decide (a' = a ∧ c' = c)) w := by
  simp [go_sem]
  by_cases h1 : a = a' <;> by_cases h2 : c = c' <;> simp [h1, h2] <;> omega
theorem eq211 (k k' : TT) (w : World) : (Op.equal 211 (val k) (val k')).run Tryz.prog w = .ok (decide (k' = k)) w := by
  obtain ⟨a1, a2, a3, a4⟩ := k
  obtain ⟨b1, b2, b3, b4⟩ := k'
  obtain ⟨i, hi⟩ : ∃ i, Tryz.prog.info? 109 = some i := Option.isSome_iff_exists.1 (by kernel_rfl)
  have hc : Tryz.prog.cellsOf 109 = 2 := by kernel_rfl
  have p0 : ∀ w, (part 109 #[.int .i64 a1, .int .i32 a2, .int .i64 a3, .int .i32 a4] 0).run Tryz.prog w = .ok (.agg #[.int .i64 a1, .int .i32 a2]) w := fun w => by kernel_rfl
  have p1 : ∀ w, (part 109 #[.int .i64 a1, .int .i32 a2, .int .i64 a3, .int .i32 a4] 2).run Tryz.prog w = .ok (.agg #[.int .i64 a3, .int .i32 a4]) w := fun w => by kernel_rfl
  have q0 : ∀ w, (part 109 #[.int .i64 b1, .int .i32 b2, .int .i64 b3, .int .i32 b4] 0).run Tryz.prog w = .ok (.agg #[.int .i64 b1, .int .i32 b2]) w := fun w => by kernel_rfl
  have q1 : ∀ w, (part 109 #[.int .i64 b1, .int .i32 b2, .int .i64 b3, .int .i32 b4] 2).run Tryz.prog w = .ok (.agg #[.int .i64 b3, .int .i32 b4]) w := fun w => by kernel_rfl
  show (Op.equalIn (9999 + 1) 211 (.agg #[.int .i64 a1, .int .i32 a2, .int .i64 a3, .int .i32 a4]) (.agg #[.int .i64 b1, .int .i32 b2, .int .i64 b3, .int .i32 b4])).run Tryz.prog w = _
  rw [run_equalIn_array (w := w) 9999 _ _ Tryz.underlying211 hi, hc]
  have hr : List.range 2 = [0, 1] := rfl
  rw [hr]
  simp only [Op.eqItems, Sem.run_bind, Nat.zero_mul, Nat.one_mul, p0, p1, q0, q1, eq109, Result.andThen_ok]
  by_cases h1 : b1 = a1 ∧ b2 = a2
  · obtain ⟨rfl, rfl⟩ := h1
    by_cases h2 : b3 = a3 ∧ b4 = a4
    · simp [h2.1, h2.2, p1, eq109, Result.andThen]
    · simp [h2, p1, q1, eq109, Result.andThen]
  · simp [h1, Result.andThen]
    intro e1 e2; exact absurd ⟨e1, e2⟩ h1
instance : KeyT Tryz.prog 211 TT where
  chk k em w := chk211 k em w
  find {ν _} k es w := by
    rw [run_findKey_eq w (by rw [Tryz.underlying211])]
    have key : ∀ (es : Ents TT ν) (j : Nat), (Instr.findAsking 211 (val k) (es.map rawE) j).run Tryz.prog w = .ok ((findK k es j).map fun p => (p.1, val p.2)) w := by
      intro es
      induction es with
      | nil => intro j; rfl
      | cons x es ih =>
        intro j
        have h1 := eq211 k x.1 w
        have h2 := ih (j + 1)
        simp only [List.map_cons, Instr.findAsking, Sem.run_bind, findK]
        rw [show (rawE x).key = val x.1 from rfl, h1]
        simp only [Result.andThen_ok]
        by_cases hx : x.1 = k
        · simp [hx, rawE]
        · simp [hx, h2]
    exact key es 0
  stays k w := by
    have h1 : ∀ n : Nat, Instr.sameBits (n + 1 + 1) (Value.agg #[.int .i64 k.a1, .int .i32 k.c1, .int .i64 k.a2, .int .i32 k.c2]) (Value.agg #[.int .i64 k.a1, .int .i32 k.c1, .int .i64 k.a2, .int .i32 k.c2]) = true := fun n => by simp [Instr.sameBits]
    have h2 : Instr.sameBits 10000 (val k) (val k) = true := h1 9998
    unfold Instr.keyThatStays
    rw [h2]; rfl
end Go.Proofs.YtkmbliojafefdaaGreatDoor

set_option autoImplicit false
set_option maxRecDepth 100000
namespace Go.Proofs.YtkmbliojafefdaaGreatDoor
open Go.Sx
open Enc (enc val)
def joinS (l : List ByteArray) : ByteArray := ⟨(Lib.join (l.map (·.data.toList)) [32]).toArray⟩
theorem tail_len (r : List (List UInt8)) {B : Nat} (h : ∀ x ∈ r, x.length ≤ B) : (Lib.joinTail [32] r).length ≤ r.length * (B + 1) := by
  induction r with
  | nil => simp [Lib.joinTail]
  | cons x r ih =>
    have h1 := ih fun y hy => h y (.tail _ hy)
    have h2 := h x (.head _)
    simp only [Lib.joinTail, List.map_cons, List.flatten_cons, List.length_append, List.length_cons, List.length_nil] at h1 ⊢
    rw [Nat.succ_mul]
    omega
theorem join_len (l : List (List UInt8)) {B : Nat} (h : ∀ x ∈ l, x.length ≤ B) : (Lib.join l [32]).length ≤ l.length * (B + 1) := by
  cases l with
  | nil => simp [Lib.join_nil]
  | cons x r =>
    rw [Lib.join_cons, List.length_append, List.length_cons, Nat.succ_mul]
    have h1 := tail_len r fun y hy => h y (.tail _ hy)
    have h2 := h x (.head _)
    omega
theorem split32 : ∀ {a b s t : List UInt8}, (32 : UInt8) ∉ a → (32 : UInt8) ∉ b → (s = [] ∨ s.head? = some 32) → (t = [] ∨ t.head? = some 32) → a ++ s = b ++ t → a = b ∧ s = t
  | [], [], s, t, _, _, _, _, h => ⟨rfl, by simpa using h⟩
  | [], y :: b, s, t, _, hb, hs, _, h => by
    exfalso
    rcases hs with rfl | hs
    · simp at h
    · simp only [List.nil_append] at h
      rw [h] at hs
      simp at hs
      exact hb (by rw [hs]; exact .head _)
  | x :: a, [], s, t, ha, _, _, ht, h => by
    exfalso
    rcases ht with rfl | ht
    · simp at h
    · simp only [List.nil_append] at h
      rw [← h] at ht
      simp at ht
      exact ha (by rw [ht]; exact .head _)
  | x :: a, y :: b, s, t, ha, hb, hs, ht, h => by
    simp only [List.cons_append, List.cons.injEq] at h
    obtain ⟨rfl, h⟩ := h
    have := split32 (fun h => ha (.tail _ h)) (fun h => hb (.tail _ h)) hs ht h
    exact ⟨by rw [this.1], this.2⟩
theorem tail_head (r : List (List UInt8)) : Lib.joinTail [32] r = [] ∨ (Lib.joinTail [32] r).head? = some 32 := by
  cases r with
  | nil => left; rfl
  | cons x r => right; simp [Lib.joinTail]
theorem tail_inj : ∀ {r q : List (List UInt8)}, (∀ x ∈ r, (32 : UInt8) ∉ x) → (∀ x ∈ q, (32 : UInt8) ∉ x) → Lib.joinTail [32] r = Lib.joinTail [32] q → r = q
  | [], [], _, _, _ => rfl
  | [], y :: q, _, _, h => by simp [Lib.joinTail] at h
  | x :: r, [], _, _, h => by simp [Lib.joinTail] at h
  | x :: r, y :: q, hr, hq, h => by
    have e1 : Lib.joinTail [32] (x :: r) = 32 :: (x ++ Lib.joinTail [32] r) := by simp [Lib.joinTail]
    have e2 : Lib.joinTail [32] (y :: q) = 32 :: (y ++ Lib.joinTail [32] q) := by simp [Lib.joinTail]
    rw [e1, e2, List.cons.injEq] at h
    obtain ⟨h1, h2⟩ := split32 (hr x (.head _)) (hq y (.head _)) (tail_head r) (tail_head q) h.2
    rw [h1, tail_inj (fun z hz => hr z (.tail _ hz)) (fun z hz => hq z (.tail _ hz)) h2]
theorem phone_bytes {x : ByteArray} (h : phoneOk x = true) : x.data.toList ≠ [] ∧ (32 : UInt8) ∉ x.data.toList := by
  simp only [phoneOk, Bool.and_eq_true, decide_eq_true_eq, Bool.not_eq_true', List.any_eq_false, List.mem_range] at h
  obtain ⟨⟨h1, h2⟩, h3⟩ := h
  have hsz : x.data.toList.length = x.size := Array.length_toList
  refine ⟨fun e => by rw [e] at hsz; simp at hsz; omega, fun hm => ?_⟩
  obtain ⟨k, hk, he⟩ := List.getElem_of_mem hm
  have h4 := h3 k (by omega)
  have h5 : byteAt x k = 32 := by
    unfold byteAt
    rw [getElem?_pos x k (by omega)]
    show (x.data[k]).toNat = 32
    have : x.data[k]'(by simpa using hk) = 32 := by simpa using he
    rw [this]; rfl
  rw [h5] at h4
  exact h4 (by decide)
theorem joinS_inj {l m : List ByteArray} (hl : ∀ x ∈ l, phoneOk x = true) (hm : ∀ x ∈ m, phoneOk x = true) (h : joinS l = joinS m) : l = m := by
  have h1 : Lib.join (l.map (·.data.toList)) [32] = Lib.join (m.map (·.data.toList)) [32] := by
    have := congrArg (fun b : ByteArray => b.data.toList) h
    simpa [joinS] using this
  have hinj : ∀ a b : ByteArray, a.data.toList = b.data.toList → a = b := fun a b e => str_inj (by rw [ba_toList, ba_toList, e])
  have hmi : l.map (·.data.toList) = m.map (·.data.toList) → l = m := fun e => (List.map_inj_right fun a b => hinj a b).1 e
  cases l with
  | nil =>
    cases m with
    | nil => rfl
    | cons y m =>
      exfalso
      rw [List.map_nil, List.map_cons, Lib.join_nil, Lib.join_cons] at h1
      have := (phone_bytes (hm y (.head _))).1
      have h2 := (List.append_eq_nil_iff.1 h1.symm).1
      exact this h2
  | cons x l =>
    cases m with
    | nil =>
      exfalso
      rw [List.map_nil, List.map_cons, Lib.join_nil, Lib.join_cons] at h1
      exact (phone_bytes (hl x (.head _))).1 (List.append_eq_nil_iff.1 h1).1
    | cons y m =>
      apply hmi
      rw [List.map_cons, List.map_cons, Lib.join_cons, Lib.join_cons] at h1
      obtain ⟨h2, h3⟩ := split32 (phone_bytes (hl x (.head _))).2 (phone_bytes (hm y (.head _))).2 (tail_head _) (tail_head _) h1
      rw [List.map_cons, List.map_cons, h2, tail_inj (fun z hz => by
        obtain ⟨u, hu, rfl⟩ := List.mem_map.1 hz
        exact (phone_bytes (hl u (.tail _ hu))).2) (fun z hz => by
        obtain ⟨u, hu, rfl⟩ := List.mem_map.1 hz
        exact (phone_bytes (hm u (.tail _ hu))).2) h3]
theorem joinS_spec (s : SlV) (l : List ByteArray) (hsp : SpotOk s) (hl : l.length ≤ 1000) (hz : ∀ x ∈ l, phoneOk x = true) (w : World) (hs : Stb w [] (RdL s.v l)) : Calls Tryz.prog 185 #[s.v, .string ⟨#[32]⟩] w fun e w' => e = .returned (.string (joinS l)) ∧ Cl w [] [] w' := by
  obtain ⟨ad, n, c⟩ := s
  have h1 := rd_lens hs.here
  dsimp only at h1
  cases l with
  | nil =>
    obtain rfl : n = 0 := by simpa using h1.1
    exact (Tryz.strings_Join_none ad c ⟨#[32]⟩ w).mono fun e w' ⟨h2, h3⟩ => ⟨h2, by rw [h3]; exact Cl.start0 w⟩
  | cons x l =>
    obtain ⟨a, n', c', e1, e2, e3, e4, e5⟩ := hs.here
    simp only [SlV.v, Value.slice.injEq] at e1
    obtain ⟨rfl, rfl, rfl⟩ := e1
    obtain ⟨b, hb, hc⟩ := e5 0 x 0 (.string x) rfl rfl
    subst hb
    obtain ⟨bk, o, sp⟩ := b
    have hsp2 : sp = none := hsp _ rfl
    subst hsp2
    have hcl := fun (j : Nat) (y : ByteArray) (hj : (x :: l)[j]? = some y) => e5 j y 0 (.string y) hj rfl
    have hszd : ∀ y : ByteArray, y.data.toList.length = y.size := fun y => Array.length_toList
    have hlen := join_len ((x :: l).map (·.data.toList)) (B := 8) (fun y hy => by
      obtain ⟨u, hu, rfl⟩ := List.mem_map.1 hy
      have := hz u hu
      simp only [phoneOk, Bool.and_eq_true, decide_eq_true_eq] at this
      rw [hszd]; omega)
    rw [List.length_map] at hlen
    have hN : (x :: l).length * (8 + 1) ≤ 9000 := by omega
    have := Tryz.strings_Join bk o c (x :: l) ⟨#[32]⟩ w (fun j y hj => by
      obtain ⟨b', hb', hc'⟩ := hcl j y hj
      cases hb'
      rw [addr_add] at hc'
      have e : j * Enc.sz ByteArray + 0 = j := by show j * 1 + 0 = j; omega
      rw [e] at hc'
      exact hc') (Go.Sx.cell_lt hc) (by omega) (by omega) (by exact Nat.le_trans hlen (by omega))
    rw [← e2]
    exact this.mono fun e w' ⟨h2, h3⟩ => ⟨h2, cl_below h3⟩
end Go.Proofs.YtkmbliojafefdaaGreatDoor

set_option autoImplicit false
set_option maxRecDepth 100000
namespace Go.Proofs.YtkmbliojafefdaaGreatDoor
open Go.Sx
open Enc (enc val)
def ExIn (e : XL) (w : World) : Prop := RdL e.w.v e.wl w ∧ RdL e.p.v e.pl w
theorem exIn_stb {l : List XL} {w : World} (h : ∀ u ∈ l, ExIn u w) : Stb w [] fun w' => ∀ u ∈ l, ExIn u w' := ⟨fun w' k u hu => ⟨(rd_stb (h u hu).1).stb w' k, (rd_stb (h u hu).2).stb w' k⟩⟩
structure ExOk (e : XL) : Prop where
  spot : SpotOk e.p
  small : e.pl.length ≤ 1000
  ok : ∀ x ∈ e.pl, phoneOk x = true
  at0 : 0 ≤ e.at_ ∧ e.at_ ≤ 1000
def cnt (l : List XL) (pl : List ByteArray) : Nat := l.countP fun e => decide (e.pl = pl)
structure MS where
  s : SlV
  b : List ByteArray
  m : Int
def mostStep (l : List XL) (s : MS) (e : XL) : MS := if s.m < (cnt l e.pl : Int) ∨ ((cnt l e.pl : Int) = s.m ∧ ordL e.pl s.b < 0) then ⟨e.p, e.pl, cnt l e.pl⟩ else s
def mostC (l : List XL) : MS := l.foldl (mostStep l) ⟨⟨none, 0, 0⟩, [], 0⟩
theorem cnt_succ {l : List XL} {k : Nat} (hk : k < l.length) (pl : List ByteArray) : cnt (l.take (k + 1)) pl = cnt (l.take k) pl + if (nth l k).pl = pl then 1 else 0 := by
  unfold cnt
  rw [List.take_succ_eq_append_getElem hk, List.countP_append, nth_get hk]
  by_cases h : (l[k]).pl = pl <;> simp [h]
theorem cnt_le (l : List XL) (pl : List ByteArray) : cnt l pl ≤ l.length := List.countP_le_length
theorem most_rd {l : List XL} {w : World} (h : ∀ e ∈ l, ExIn e w) : ∀ {k : Nat}, k ≤ l.length → RdL ((l.take k).foldl (mostStep l) ⟨⟨none, 0, 0⟩, [], 0⟩).s.v ((l.take k).foldl (mostStep l) ⟨⟨none, 0, 0⟩, [], 0⟩).b w
  | 0, _ => rd_nil0 w
  | k + 1, hk => by
    rw [take_fold _ _ (by omega : k < l.length)]
    unfold mostStep
    split
    · exact (h _ (nth_mem (by omega))).2
    · exact most_rd h (by omega)
theorem most_spec (sv : Value) (l : List XL) (hl : l.length ≤ 1000000) (hok : ∀ e ∈ l, ExOk e) (w : World) (hs : Stb w [] (RdL sv l)) (hin : Stb w [] fun w' => ∀ u ∈ l, ExIn u w') : Calls Tryz.prog 149 #[sv] w fun e w' => e = .returned (.tuple #[(mostC l).s.v, .int .i64 (mostC l).m]) ∧ Cl w [] [] w' := by
  have hkey : ∀ e ∈ l, ∀ e' ∈ l, joinS e.pl = joinS e'.pl ↔ e.pl = e'.pl := fun e he e' he' => ⟨joinS_inj (hok e he).ok (hok e' he').ok, fun h => by rw [h]⟩
  refine calls_cw (vs := [_]) Tryz.func149 rfl Tryz.ntmps149 rfl (Cl.start0 w) (cw_seq (cw_region (sr rfl rfl rfl ((q_assign rfl rfl)) (sr rfl rfl rfl ((q_assign rfl rfl)) (sw_nil (post_then (cw_seq (cw_region ?_))))))))
  refine sw_x rfl rfl rfl (e_makeMap (κ := ByteArray) (ν := Int) rfl) (fun b12 => ?_)
  refine sr rfl rfl rfl ((q_assign rfl rfl)) (sw_nil (post_then (cw_seq (cw_region (sr rfl rfl rfl ((q_assign rfl rfl)) (sw_nil (post_then (cw_seq (cw_region (sr rfl rfl rfl ((q_assign rfl rfl)) (sw_nil (post_then (cw_seq (cw_seq (cw_region (sr rfl rfl rfl ((q_move rfl rfl)) ?_))))))))))))))))
  refine sr rfl rfl rfl ((q_len rfl (.cons rfl inferInstance (.nil)) (by exact fun w hw => Stb.cl (by assumption) hw))) ?_
  refine sr rfl rfl rfl ((q_move rfl rfl)) (sw_nil (post_then (cw_block ?_)))
  refine cw_loop (S := Nat × List (ByteArray × Int)) (fun y => [(0, [], sv), (4, [], .map (some b12)), (5, [], .slice none 0 0), (6, [], .int .i64 0), (13, [], sv), (14, [], .int .i64 l.length), (15, [], .int .i64 y.1)]) (fun y => Cl w [] [mpA b12 y.2]) (fun y => y.1 ≤ l.length ∧ ∀ e ∈ l, getZ 0 y.2 (joinS e.pl) = (cnt (l.take y.1) e.pl : Int)) (fun y => l.length - y.1) (0, []) ⟨Nat.zero_le _, fun e he => rfl⟩ (by exact .cons rfl (.cons rfl (.cons rfl (.cons rfl (.cons rfl (.cons rfl (.cons rfl .nil))))))) (fun _ h => h) ?_
  rintro ⟨k, m⟩ ⟨hk, hm⟩
  dsimp only at hk hm ⊢
  refine cw_seq (cw_region (sr rfl rfl rfl ((q_lss rfl rfl rfl)) (sw_nil (post_then (cw_seq ?_)))))
  refine cw_cond rfl (fun h => ?_) (fun h => ?_)
  · skip
    have hk' : k < l.length := by simp at h; omega
    obtain ⟨x, hx⟩ : ∃ x, nth l k = x := ⟨_, rfl⟩
    have hxm : x ∈ l := by rw [← hx]; exact nth_mem hk'
    have hxo := hok x hxm
    have hxr : Stb w [] (RdL x.p.v x.pl) := stb_map hin fun _ h => (h x hxm).2
    have hmx := hm x hxm
    have hcl := cnt_le (l.take k) x.pl
    rw [List.length_take] at hcl
    have hcs := fun pl => cnt_succ hk' pl
    rw [hx] at hcs
    refine cw_skip (post_then (cw_seq (cw_block (cw_seq (cw_region ?_)))))
    refine sr rfl rfl rfl ((q_indexN rfl rfl rfl (by exact fun w hw => Stb.cl (by assumption) hw) (by intro hc; omega))) ?_
    refine sr rfl rfl rfl ((q_loadEl rfl rfl rfl (by exact fun w hw => Stb.cl (by assumption) hw) (by intro hc; omega))) ?_
    rw [hx]
    refine sw_x rfl rfl rfl (e_alloc rfl) (fun b8 => ?_)
    refine sw_eff0 rfl rfl (e_store (i := 0) rfl rfl rfl rfl rfl rfl rfl rfl) (sw_nil (post_then (cw_region (sr rfl rfl rfl ((q_move rfl rfl)) (sr rfl rfl rfl ((q_fieldAddr rfl rfl)) ?_)))))
    refine sr rfl rfl rfl ((q_loadC rfl rfl (by exact .head _) rfl)) ?_
    refine sw_step rfl rfl rfl (q_call (CanCall.mk Tryz.call185) rfl (.cons rfl inferInstance (.cons rfl inferInstance (.nil))) (fun _ w1 hw => callq hw (joinS_spec x.p x.pl hxo.spot hxo.small hxo.ok w1 (stb_arg hw hxr)))) ?_
    refine sr rfl rfl rfl ((q_lookup (κ := ByteArray) (ν := Int) (k := joinS x.pl) rfl rfl rfl (by exact fun w hw => rdm_own hw (by exact .tail _ (.head _))))) ?_
    rw [hmx]
    refine sr rfl rfl rfl ((q_add rfl rfl rfl (by intro hc; omega))) ?_
    refine sw_eff0 rfl rfl (e_mapUpdate (κ := ByteArray) (ν := Int) (i := 1) (.inl rfl) rfl rfl rfl rfl) (sw_nil (post_blk (post_then (cw_region ?_))))
    refine sr rfl rfl rfl ((q_add rfl rfl rfl (by intro hc; omega))) ?_
    refine sr rfl rfl rfl ((q_move rfl rfl)) (sw_nil ?_)
    refine post_next (k + 1, upd m (joinS x.pl) ((cnt (l.take k) x.pl : Int) + 1)) (by exact .cons rfl (.cons rfl (.cons rfl (.cons rfl (.cons rfl (.cons rfl (.cons rfl .nil))))))) (fun w' h => (fun w h => Cl.sel (by exact .take 1 rfl (.nil _)) w h) _ h) ⟨by simp only; omega, fun e he => ?_⟩ (by simp only; omega)
    simp only
    rw [getZ_upd, hcs]
    by_cases h2 : e.pl = x.pl
    · rw [if_pos ((hkey e he x hxm).2 h2), if_pos h2.symm, h2]; omega
    · rw [if_neg (fun h3 => h2 ((hkey e he x hxm).1 h3)), if_neg (fun h3 => h2 h3.symm), hm e he]; omega
  · skip
    have hk' : k = l.length := by simp at h; omega
    subst hk'
    rw [List.take_length] at hm
    refine cw_exit (post_then_x (post_then_x (post_blk_eq (post_then (cw_seq (cw_seq (cw_region (sr rfl rfl rfl ((q_move rfl rfl)) ?_))))))))
    refine sr rfl rfl rfl ((q_len rfl (.cons rfl inferInstance (.nil)) (by exact fun w hw => Stb.cl (by assumption) hw))) ?_
    refine sr rfl rfl rfl ((q_move rfl rfl)) (sw_nil (post_then (cw_block ?_)))
    refine cw_loop (S := Nat) (fun k => [(4, [], .map (some b12)), (5, [], ((l.take k).foldl (mostStep l) ⟨⟨none, 0, 0⟩, [], 0⟩).s.v), (6, [], .int .i64 ((l.take k).foldl (mostStep l) ⟨⟨none, 0, 0⟩, [], 0⟩).m), (26, [], sv), (27, [], .int .i64 l.length), (28, [], .int .i64 k)]) (fun _ => Cl w [] [mpA b12 m]) (fun k => k ≤ l.length) (fun k => l.length - k) 0 (Nat.zero_le _) (by exact .cons rfl (.cons rfl (.cons rfl (.cons rfl (.cons rfl (.cons rfl .nil)))))) (fun _ h => h) ?_
    intro k hk
    refine cw_seq (cw_region (sr rfl rfl rfl ((q_lss rfl rfl rfl)) (sw_nil (post_then (cw_seq ?_)))))
    refine cw_cond rfl (fun h2 => ?_) (fun h2 => ?_)
    · skip
      have hk' : k < l.length := by simp at h2; omega
      obtain ⟨x, hx⟩ : ∃ x, nth l k = x := ⟨_, rfl⟩
      have hxm : x ∈ l := by rw [← hx]; exact nth_mem hk'
      have hxo := hok x hxm
      have hxr : Stb w [] (RdL x.p.v x.pl) := stb_map hin fun _ h => (h x hxm).2
      have hmx := hm x hxm
      have hfold := take_fold (mostStep l) (⟨⟨none, 0, 0⟩, [], 0⟩ : MS) hk'
      have hrd : Stb w [] (RdL ((l.take k).foldl (mostStep l) ⟨⟨none, 0, 0⟩, [], 0⟩).s.v ((l.take k).foldl (mostStep l) ⟨⟨none, 0, 0⟩, [], 0⟩).b) := stb_map hin fun _ h => most_rd h hk
      obtain ⟨S, hS⟩ : ∃ S, (l.take k).foldl (mostStep l) ⟨⟨none, 0, 0⟩, [], 0⟩ = S := ⟨_, rfl⟩
      rw [hS] at hfold hrd ⊢
      rw [hx] at hfold
      refine cw_skip (post_then (cw_seq (cw_block (cw_seq (cw_region ?_)))))
      refine sr rfl rfl rfl ((q_indexN rfl rfl rfl (by exact fun w hw => Stb.cl (by assumption) hw) (by intro hc; omega))) ?_
      refine sr rfl rfl rfl ((q_loadEl rfl rfl rfl (by exact fun w hw => Stb.cl (by assumption) hw) (by intro hc; omega))) ?_
      rw [hx]
      refine sw_x rfl rfl rfl (e_alloc rfl) (fun b10 => ?_)
      refine sw_eff0 rfl rfl (e_store (i := 0) rfl rfl rfl rfl rfl rfl rfl rfl) (sw_nil (post_then (cw_seq (cw_region (sr rfl rfl rfl ((q_move rfl rfl)) (sr rfl rfl rfl ((q_fieldAddr rfl rfl)) ?_))))))
      refine sr rfl rfl rfl ((q_loadC rfl rfl (by exact .head _) rfl)) ?_
      refine sw_step rfl rfl rfl (q_call (CanCall.mk Tryz.call185) rfl (.cons rfl inferInstance (.cons rfl inferInstance (.nil))) (fun _ w1 hw => callq hw (joinS_spec x.p x.pl hxo.spot hxo.small hxo.ok w1 (stb_arg hw hxr)))) ?_
      refine sr rfl rfl rfl ((q_lookup (κ := ByteArray) (ν := Int) (k := joinS x.pl) rfl rfl rfl (by exact fun w hw => rdm_own hw (by exact .tail _ (.head _))))) ?_
      rw [hmx]
      refine sr rfl rfl rfl ((q_assign rfl rfl)) (sw_nil (post_then (cw_seq (cw_region (sr rfl rfl rfl ((q_move rfl rfl)) (sr rfl rfl rfl ((q_move rfl rfl)) (sr rfl rfl rfl ((q_gtr rfl rfl rfl)) (sr rfl rfl rfl ((q_move rfl rfl)) (sr rfl rfl rfl ((q_move rfl rfl)) (sr rfl rfl rfl ((q_move rfl rfl)) (sr rfl rfl rfl ((q_eql rfl rfl rfl)) (sr rfl rfl rfl ((q_move rfl rfl)) (sr rfl rfl rfl ((q_fieldAddr rfl rfl)) ?_)))))))))))))
      refine sr rfl rfl rfl ((q_loadC rfl rfl (by exact .head _) rfl)) ?_
      refine sr rfl rfl rfl ((q_move rfl rfl)) ?_
      refine sw_step rfl rfl rfl (q_call (CanCall.mk Tryz.call142) rfl (.cons rfl inferInstance (.cons rfl inferInstance (.nil))) (fun _ w hw => callq hw (compareL_spec _ _ _ _ w (by exact stb_arg hw (by assumption)) (by exact stb_arg hw (by assumption))))) ?_
      refine sr rfl rfl rfl ((q_lss rfl rfl rfl)) (sr rfl rfl rfl ((q_and2 rfl rfl rfl)) (sr rfl rfl rfl ((q_or2 rfl rfl rfl)) (sw_nil (post_then ?_))))
      refine cw_cond rfl (fun h3 => ?_) (fun h3 => ?_)
      · skip
        have hst : mostStep l S x = ⟨x.p, x.pl, cnt l x.pl⟩ := by
          unfold mostStep
          rw [if_pos]
          simp only [Bool.or_eq_true, Bool.and_eq_true, decide_eq_true_eq] at h3
          exact h3
        rw [hst] at hfold
        refine cw_region (sr rfl rfl rfl ((q_fieldAddr rfl rfl)) ?_)
        refine sr rfl rfl rfl ((q_loadC rfl rfl (by exact .head _) rfl)) ?_
        refine sr rfl rfl rfl ((q_move rfl rfl)) (sr rfl rfl rfl ((q_assign rfl rfl)) (sr rfl rfl rfl ((q_assign rfl rfl)) (sw_nil (post_blk (post_then (cw_region ?_))))))
        refine sr rfl rfl rfl ((q_add rfl rfl rfl (by intro hc; omega))) ?_
        refine sr rfl rfl rfl ((q_move rfl rfl)) (sw_nil ?_)
        exact post_next (k + 1) (by rw [hfold]; exact (by exact .cons rfl (.cons rfl (.cons rfl (.cons rfl (.cons rfl (.cons rfl .nil))))))) (fun _ h => (fun w h => Cl.sel (by exact .take 1 rfl (.nil _)) w h) _ h) (by omega) (by omega)
      · skip
        have hst : mostStep l S x = S := by
          unfold mostStep
          rw [if_neg]
          intro h4
          have : (decide (S.m < (cnt l x.pl : Int)) || (decide ((cnt l x.pl : Int) = S.m) && decide (ordL x.pl S.b < 0))) = true := by
            simp only [Bool.or_eq_true, Bool.and_eq_true, decide_eq_true_eq]; exact h4
          rw [this] at h3; cases h3
        rw [hst] at hfold
        refine cw_skip (post_blk (post_then (cw_region ?_)))
        refine sr rfl rfl rfl ((q_add rfl rfl rfl (by intro hc; omega))) ?_
        refine sr rfl rfl rfl ((q_move rfl rfl)) (sw_nil ?_)
        exact post_next (k + 1) (by rw [hfold]; exact (by exact .cons rfl (.cons rfl (.cons rfl (.cons rfl (.cons rfl (.cons rfl .nil))))))) (fun _ h => (fun w h => Cl.sel (by exact .take 1 rfl (.nil _)) w h) _ h) (by omega) (by omega)
    · skip
      have hk' : k = l.length := by simp at h2; omega
      rw [hk', List.take_length]
      refine cw_exit (post_then_x (post_then_x (post_blk_eq (post_then (cw_seq (cw_region (sr rfl rfl rfl ((q_move rfl rfl)) (sr rfl rfl rfl ((q_move rfl rfl)) (sr rfl rfl rfl ((q_assign rfl rfl)) (sr rfl rfl rfl ((q_assign rfl rfl)) (sw_nil (post_then (cw_ret (post_ret2 rfl (resOk_tmp rfl) (resOk_tmp rfl) ?_))))))))))))))
      exact fun w' hw => ⟨rfl, (fun w h => Cl.sel (by exact .nil _) w h) _ hw⟩
end Go.Proofs.YtkmbliojafefdaaGreatDoor

/-
  copy into a part of the call's own slice; a string of bytes; s[:b:b]. General lemmas, no program text.
-/
set_option autoImplicit false
namespace Go.Sx
open Enc (enc val)
section
variable {α : Type} [Enc α] {P : Program} {ops : Array Oper} {n : Fr} {E : Env} {C : World → Prop} {cs : List Bool} {o : Oper} {w0 : World} {fp : List Nat} {H : List Asn}
theorem flat_drop (l : List α) (k : Nat) (hk : k ≤ l.length) : (l.drop k).flatMap enc = (l.flatMap enc).drop (k * Enc.sz α) := by
  have h := congrArg (List.flatMap enc) (List.take_append_drop k l)
  rw [List.flatMap_append] at h
  rw [← h]
  have e : k * Enc.sz α = ((l.take k).flatMap enc).length := by rw [flat_len, List.length_take, Nat.min_eq_left hk]
  rw [e, List.drop_left]
theorem e_copy {t e : TypeId} {bytes : Nat} {z : List Value} {ops' : List Operand} {s d : SlV} {sw : Value} {l r : List α} {lo m i : Nat} (ho : o.op = .call { callee := .builtin .copy, args := ops'.toArray, argTypes := #[t, t] }) (hv : Evs E [] ops' [d.v, sw])
    [ht : SlT P t e] [hi : InfoT P e 1 bytes z] (hsz : Enc.sz α = 1) (hi' : nthA H i = some (ownL e s.v l)) (hd : d.addr = s.addr.map (·.add lo)) (hdl : d.len = m) (hrd : ∀ w, Cl w0 fp H w → RdL sw r w) (hm : m ≤ r.length) (hr0 : 0 < r.length) (hl : lo + m ≤ l.length) (hl0 : 0 < l.length) :
    OpE P n E (Cl w0 fp H) o (fun u w' => ∃ _x : Unit, u = .int .i64 m ∧ Cl w0 fp (setA H i (ownL e s.v (l.take lo ++ r.take m ++ l.drop (lo + m)))) w') :=
  .of_run fun a w ha hw => by
    obtain ⟨bs, ⟨b1, b2, rfl, hown, rfl⟩, _, _, _, _, h6⟩ := (hw.focus hi').split
    simp only [List.append_nil] at h6
    obtain ⟨inf, v0, g1, g2, _⟩ := hi.info
    have hlen := flat_len l
    rw [hsz, Nat.mul_one] at hlen
    rcases hown with ⟨_, h, _⟩ | ⟨b, n', cap, cur, h1, rfl, h3, h4, h5, h7, h8, h9⟩
    · rw [h] at hlen; simp at hlen; omega
    simp only [hsz, Nat.mul_one] at h7 h8 h9
    simp only [SlV.v, Value.slice.injEq] at h1
    obtain ⟨q1, q2, q3⟩ := h1
    obtain ⟨ad, k, cp, rfl, r1, r2, r3, r4⟩ := hrd w hw
    have hlr := flat_len (r.take m)
    rw [hsz, Nat.mul_one, List.length_take, Nat.min_eq_left hm] at hlr
    obtain ⟨a0, ha0⟩ : ∃ a0, ad = some a0 := by
      have hj : 0 < (enc r[0]).length := by rw [Enc.len, hsz]; decide
      obtain ⟨b, hb, _⟩ := r4 0 r[0] 0 _ (List.getElem?_eq_getElem hr0) (List.getElem?_eq_getElem hj)
      exact ⟨b, hb⟩
    subst ha0
    have hsrc : ∀ j v, ((r.take m).flatMap enc)[j]? = some v → w.cell? (a0.add j) = some v := fun j v hj => by
      obtain ⟨x, hx, hv'⟩ := flat_inv (r.take m) j v hj
      rw [hsz, Nat.div_one] at hx
      rw [hsz, Nat.mod_one] at hv'
      rw [List.getElem?_take] at hx
      split at hx
      · obtain ⟨b, hb, hc⟩ := r4 j x 0 v hx hv'
        cases hb
        rw [hsz, Nat.mul_one, Nat.add_zero] at hc
        exact hc
      · cases hx
    have hda : d.v = .slice (some ⟨b, lo, none⟩) m d.cap := by
      rw [SlV.v, hd, q1, hdl]; simp [addr_add]
    have hrun := run_copy_row (P := P) w t t o.type e b lo m d.cap a0 k cp cur e ((r.take m).flatMap enc) ht.und (by rw [g1]; simp [g2]) h3 (by rw [hlr, ← r1]; exact (Nat.min_eq_right hm).symm) hsrc (by rw [hlr]; omega) (flat_one _)
    have hfl : (l.take lo ++ r.take m ++ l.drop (lo + m)).flatMap enc = (l.flatMap enc).take lo ++ (r.take m).flatMap enc ++ (l.flatMap enc).drop (lo + m) := by
      rw [List.flatMap_append, List.flatMap_append, flat_take, flat_drop _ _ hl, hsz, Nat.mul_one, Nat.mul_one]
    have hll : (l.take lo ++ r.take m ++ l.drop (lo + m)).length = l.length := by simp; omega
    refine ⟨_, _, ?_, (), rfl, (h6 [ownL e s.v (l.take lo ++ r.take m ++ l.drop (lo + m))] _ (cl_setRow h3 (cs := (cur.toList.take lo ++ (r.take m).flatMap enc ++ cur.toList.drop (lo + ((r.take m).flatMap enc).length)).toArray) fun w' h' => .inr ⟨b, n', cap, _, by rw [SlV.v, q1, q2, q3], rfl, h', h4, h5, ?_, ?_, ?_⟩)).set hi'⟩
    · unfold execOp; simp only [ho]
      simp only [resolve, invoke, List.map_toArray, hv.eval ha AllT.nil, Sem.run_bind, Sem.run_pure, Result.andThen_ok]
      simp [builtin, hda, hrun, hlr, goInt]
    · simp only [hsz, Nat.mul_one, List.size_toArray, List.length_append, List.length_take, List.length_drop, Array.length_toList, hlr]; omega
    · rw [flat_len, hll, hsz, Nat.mul_one, Nat.mul_one]; omega
    · rw [hfl, hlr, hsz, Nat.mul_one, ← h9]
      have e1 : cur.toList = cur.toList.take n' ++ cur.toList.drop n' := (List.take_append_drop _ _).symm
      have hn : n' ≤ cur.toList.length := by rw [Array.length_toList]; omega
      have e2 : (cur.toList.take n').take lo = cur.toList.take lo := by rw [List.take_take, Nat.min_eq_left (by omega)]
      have e3 : (cur.toList.take n').drop (lo + m) = (cur.toList.drop (lo + m)).take (n' - (lo + m)) := by rw [List.drop_take]
      rw [e2, e3]
      rw [List.take_append, List.take_of_length_le (by simp only [List.length_append, List.length_take, hlr]; omega)]
      congr 2
      simp only [List.length_append, List.length_take, hlr, Array.length_toList]
      omega
theorem q_sliceF2 {t e : TypeId} {sz : Nat} {x y z : Operand} {cx cy cz : List Bool} {s : SlV} {l : List α} {b : Int} (ho : o.op = .slice t x none (some y) (some z)) (hx : evl E x = some (cx, s.v)) (hy : evl E y = some (cy, .int .i64 b)) (hz : evl E z = some (cz, .int .i64 b))
    [sx : Sub cx cs] [sy : Sub cy cs] [sz' : Sub cz cs] [ht : SlT P t e] [hs : SzT P e sz] (hrd : ∀ w, C w → RdL s.v l w) (h : AllT cs → 0 ≤ b ∧ b ≤ l.length) : OpR P n E C cs o (s.cut b.toNat).v :=
  .of_run fun e he hc w hw => by
    obtain ⟨l1, l2, l3⟩ := rd_lens (hrd w hw)
    have h1 := h hc
    unfold execOp; simp only [ho]
    have e1 := he.eval hx sx hc
    have e2 := he.eval hy sy hc
    have e3 := he.eval hz sz' hc
    have := run_slice_cut (P := P) (t := t) (s := s) (w := w) (b := b.toNat) (hi := some (.int .i64 b)) (by
      have f1 := run_sliceBound (P := P) (w := w) .i64 b s.cap .slice3Acap (by omega) (by omega)
      have f2 := run_sliceBound (P := P) (w := w) .i64 b b.toNat .slice3B (by omega) (by omega)
      simp [Instr.sliceBounds, f1, f2, Result.andThen])
    simp [e1, e2, e3, this, Result.andThen]
end
structure UB where
  n : UInt8
instance : Enc UB := ⟨fun b => [.int .u8 (b.n.toNat : Int)], 1, fun b => .int .u8 (b.n.toNat : Int), fun _ => rfl, by simp [Value.oneCell'], fun _ => rfl, by decide⟩
instance : Inhabited UB := ⟨⟨0⟩⟩
section
variable {P : Program} {n : Fr} {E : Env} {C : World → Prop} {cs : List Bool} {o : Oper}
theorem q_bytesStr {src dst e : TypeId} {x : Operand} {cx : List Bool} {s : SlV} {l : List UB} (ho : o.op = .convert src dst x) (hx : evl E x = some (cx, s.v)) [sx : Sub cx cs] [hs : SlT P src e] (he : P.underlying e = some (.int .u8)) (hd : P.underlying dst = some .string) (hrd : ∀ w, C w → RdL s.v l w) (h0 : 0 < l.length) :
    OpR P n E C cs o (.string ⟨(l.map UB.n).toArray⟩) :=
  .of_run fun a ha hc w hw => by
    obtain ⟨ad, k, cp, e1, e2, e3, e4, e5⟩ := hrd w hw
    obtain ⟨a0, rfl, _⟩ := e5 0 l[0] 0 _ (List.getElem?_eq_getElem h0) rfl
    unfold execOp; simp only [ho]; rw [ha.eval hx sx hc, e1, ← e2]
    have := run_convert_bytes_back (P := P) w src dst e a0 cp (l.map UB.n) hs.und he hd (fun j hj => by
      have hj' : j < l.length := by simpa using hj
      obtain ⟨b, hb, hc⟩ := e5 j l[j] 0 _ (List.getElem?_eq_getElem hj') rfl
      cases hb
      have hz : Enc.sz UB = 1 := rfl
      rw [hz, Nat.mul_one, Nat.add_zero] at hc
      rw [hc]; simp)
    rw [List.length_map] at this
    simp [this]
end
end Go.Sx

/- Elements of an array in a block; clear of the end of an own slice. General lemmas, no program text. -/
set_option autoImplicit false
namespace Go.Sx
open Enc (enc val)
section
variable {α : Type} [Enc α] {P : Program} {n : Fr} {E : Env} {C : World → Prop} {cs : List Bool} {o : Oper} {w0 : World} {fp : List Nat} {H : List Asn}
theorem q_indexArr {t e : TypeId} {len : Nat} {x y : Operand} {cx cy : List Bool} {b k : Nat} {kk : IntKind} {i : Int} {sz : Nat} (ho : o.op = .indexAddr t x y) (hx : evl E x = some (cx, .pointer (some ⟨b, k, none⟩))) (hy : evl E y = some (cy, .int kk i))
    [sx : Sub cx cs] [sy : Sub cy cs] (ht : P.underlying t = some (.array len e)) [hz : SzT P e sz] (h : 0 ≤ i ∧ i < len) : OpR P n E C cs o (.pointer (some ⟨b, k + i.toNat * sz, none⟩)) :=
  .of_run fun a ha hc w _ => by
    unfold execOp; simp only [ho]; rw [ha.eval hx sx hc, ha.eval hy sy hc]
    simp [Instr.indexAt, Instr.sureAddr, run_underlying ht, h, hz.sz, asIntOf, addr_add]
/-- A whole aggregate out of a block that stands. -/
theorem q_loadAS {t t' : TypeId} {x : Operand} {cx : List Bool} {b k sz : Nat} {cells : List Value} (ho : o.op = .load t x) (hx : evl E x = some (cx, .pointer (some ⟨b, k, none⟩))) [hs : Sub cx cs] [ht : AggT P t] [hz : SzT P t sz]
    (hH : ∀ w, C w → BlkAt b cells t' w) (hk : Nat.ble (k + sz) cells.length = true) : OpR P n E C cs o (.agg ((cells.drop k).take sz).toArray) :=
  load_run ho hx hs fun _ w hw => by
    obtain ⟨bs, hb⟩ := hH w hw
    refine ⟨_, rfl, ?_⟩
    have hk' := Nat.le_of_ble_eq_true hk
    have hl : ((cells.drop k).take sz).length = sz := by simp; omega
    have := run_loadCells_list (P := P) w ⟨b, k, none⟩ ((cells.drop k).take sz) (fun j v hv => by
      rw [addr_add, blk.cell hb]
      rw [List.getElem?_take] at hv
      split at hv
      · rw [List.getElem?_drop] at hv; exact hv
      · simp at hv)
    rw [hl] at this
    simp [loadVar, ht.agg w, hz.sz w, this]
variable {Q : Exit → Act → World → Prop} {ops : Array Oper}
theorem sw_effn {rest : List Oper} {R : World → Prop} (hg : o.guard = none) (hd : o.dst = none)
    (hop : OpE P n E C o (fun _ w' => R w')) (h : SW P ops Q rest n E R) : SW P ops Q (o :: rest) n E C := by
  intro a w ha hCw
  refine wpListIn_plain hg fun K hK => ((hop a w ha hCw).wpIn fun v w' hR => hK _ _ ?_)
  rw [hd]; exact h _ w' (ha.nodst v) hR
theorem zero_flat (zero : α) (m : Nat) : (Builtin.zeroCells (enc zero).toArray m).toList = (List.replicate m zero).flatMap enc := by
  have hp := Enc.pos (α := α)
  apply List.ext_getElem?
  intro q
  by_cases hq : q < m * Enc.sz α
  · have hd : q / Enc.sz α < m := (Nat.div_lt_iff_lt_mul hp).2 hq
    have hmod := Nat.mod_lt q hp
    have h7 := flat_get (List.replicate m zero) (q / Enc.sz α) zero (q % Enc.sz α) ((enc zero)[q % Enc.sz α]'(by rw [Enc.len]; exact hmod)) (by simp [hd]) (List.getElem?_eq_getElem _)
    rw [Nat.mul_comm, Nat.div_add_mod] at h7
    rw [h7]
    simp [Builtin.zeroCells, hq, Enc.len, hmod]
  · rw [List.getElem?_eq_none (by simp [Builtin.zeroCells, Enc.len]; omega), List.getElem?_eq_none (by rw [flat_len, List.length_replicate]; omega)]
theorem e_clear {t e : TypeId} {sz bytes : Nat} {z : List Value} {zero : α} {ops' : List Operand} {s : SlV} {l : List α} {k i : Nat} (ho : o.op = .call { callee := .builtin .clear, args := ops'.toArray, argTypes := #[t] }) (hv : Evs E [] ops' [(s.sub (Enc.sz α) k l.length).v])
    [ht : SlT P t e] [hi : InfoT P e sz bytes z] (hsz : sz = Enc.sz α) (hz : z = enc zero) (hi' : nthA H i = some (ownL e s.v l)) (hk : k ≤ l.length) :
    OpE P n E (Cl w0 fp H) o (fun u w' => Cl w0 fp (setA H i (ownL e s.v (l.take k ++ List.replicate (l.length - k) zero))) w') :=
  .of_run fun a w ha hw => by
    obtain ⟨bs, ⟨b1, b2, rfl, hown, rfl⟩, _, _, _, _, h6⟩ := (hw.focus hi').split
    simp only [List.append_nil] at h6
    obtain ⟨inf, v0, g1, g2, g3, g4, g5, g6⟩ := hi.info
    subst hsz
    have hp := Enc.pos (α := α)
    have hex : ∀ w', (Builtin.clear_ #[t] o.type #[(s.sub (Enc.sz α) k l.length).v]).run P w = .ok (.tuple #[]) w' → (execOp a.eval o).run P w = .ok (.value (.tuple #[])) w' := fun w' h => by
      unfold execOp; simp only [ho]
      simp only [resolve, invoke, List.map_toArray, hv.eval ha AllT.nil, Sem.run_bind, Sem.run_pure, Result.andThen_ok]
      simp [builtin, h]
    by_cases hkl : k = l.length
    · subst hkl
      refine ⟨_, w, hex w ?_, ?_⟩
      · simp [Builtin.clear_, SlV.v, SlV.sub, run_underlying ht.und]
        cases (if s.cap = l.length then s.addr else s.addr.map fun x => x.add (l.length * Enc.sz α)) <;> simp
      · rw [List.take_length, Nat.sub_self, List.replicate_zero, List.append_nil]
        exact Cl.set hi' (hw.focus hi')
    · rcases hown with ⟨_, h, _⟩ | ⟨b, n', cap, cur, h1, rfl, h3, h4, h5, h7, h8, h9⟩
      · have := flat_len l
        rw [h] at this
        have this : l.length * Enc.sz α = 0 := by simpa using this.symm
        rcases Nat.mul_eq_zero.1 this with h | h
        · omega
        · omega
      · simp only [SlV.v, Value.slice.injEq] at h1
        obtain ⟨q1, q2, q3⟩ := h1
        rw [flat_len] at h8
        have hnl := Nat.eq_of_mul_eq_mul_right hp h8
        have hcap : ¬ s.cap = k := by omega
        have hsub : (s.sub (Enc.sz α) k l.length).v = .slice (some ⟨b, k * Enc.sz α, none⟩) (l.length - k) (s.cap - k) := by
          simp only [SlV.v, SlV.sub, if_neg hcap, q1, Option.map_some, addr_add, Nat.zero_add]
        have hzl : (zeroValue e).run P w = .ok v0 w := by simp [zeroValue, typeInfo, g1, g4, Result.andThen]
        have hvs : (Builtin.zeroCells v0.cells (l.length - k)).toList = (List.replicate (l.length - k) zero).flatMap enc := by rw [g5, hz, zero_flat]
        have hvl : ((List.replicate (l.length - k) zero).flatMap enc).length = (l.length - k) * Enc.sz α := by rw [flat_len, List.length_replicate]
        have hmul : k * Enc.sz α + (l.length - k) * Enc.sz α = l.length * Enc.sz α := by rw [← Nat.add_mul]; congr 1; omega
        have hmc : n' * Enc.sz α ≤ cap * Enc.sz α := Nat.mul_le_mul_right _ h4
        have hst := run_storeCells_at P b (k * Enc.sz α) e ((List.replicate (l.length - k) zero).flatMap enc) 0 cur w h3 (by rw [hvl, h7]; rw [← hnl] at hmc; omega) (flat_one _)
        simp only [Nat.add_zero] at hst
        refine ⟨_, _, hex _ (by
          rw [hsub]
          obtain ⟨m, hm⟩ : ∃ m, l.length - k = m + 1 := ⟨l.length - k - 1, by omega⟩
          rw [hm] at hvs hst ⊢
          simp [Builtin.clear_, run_underlying ht.und, hzl, hvs, hst]), (h6 [ownL e s.v (l.take k ++ List.replicate (l.length - k) zero)] _ (cl_setRow h3 (cs := (cur.toList.take (k * Enc.sz α) ++ (List.replicate (l.length - k) zero).flatMap enc ++ cur.toList.drop (k * Enc.sz α + ((List.replicate (l.length - k) zero).flatMap enc).length)).toArray) fun w' h' => .inr ⟨b, n', cap, _, by rw [SlV.v, q1, q2, q3], rfl, h', h4, h5, ?_, ?_, ?_⟩)).set hi'⟩
        · simp only [List.size_toArray, List.length_append, List.length_take, List.length_drop, Array.length_toList, hvl]; rw [← hnl] at hmc; omega
        · rw [flat_len]; congr 1; simp; omega
        · rw [List.flatMap_append, flat_take, ← h9, hvl, hmul, ← hnl]
          have e2 : (cur.toList.take (l.length * Enc.sz α)).take (k * Enc.sz α) = cur.toList.take (k * Enc.sz α) := by rw [List.take_take, Nat.min_eq_left (by omega)]
          rw [e2]
          rw [List.take_append_of_le_length (by simp only [List.length_append, List.length_take, Array.length_toList, hvl]; rw [← hnl] at hmc; omega), List.take_of_length_le (by simp only [List.length_append, List.length_take, Array.length_toList, hvl]; omega)]
end
end Go.Sx

set_option autoImplicit false
set_option maxRecDepth 100000
namespace Go.Proofs.YtkmbliojafefdaaGreatDoor
open Go.Sx
open Enc (enc val)
def rankC (a : Int) : Int := if a < 0 then -2 * a else 2 * a + 1
theorem rank_spec (a : Int) (h : -1000 ≤ a ∧ a ≤ 1000) (w : World) : Calls Tryz.prog 206 #[.int .i64 a] w fun e w' => e = .returned (.int .i64 (rankC a)) ∧ Cl w [] [] w' := by
  refine calls_cw (vs := [_]) Tryz.func206 rfl Tryz.ntmps206 rfl (Cl.start0 w) (cw_seq (cw_region (sr rfl rfl rfl ((q_assign rfl rfl)) (sw_nil (post_then (cw_seq (cw_seq (cw_region (sr rfl rfl rfl ((q_move rfl rfl)) (sr rfl rfl rfl ((q_lss rfl rfl rfl)) (sw_nil (post_then ?_))))))))))))
  refine cw_cond rfl (fun h1 => ?_) (fun h1 => ?_)
  · skip
    have h2 : rankC a = -2 * a := by unfold rankC; rw [if_pos (by simpa using h1)]
    refine cw_seq (cw_region (sr rfl rfl rfl ((q_move rfl rfl)) ?_))
    refine sr rfl rfl rfl ((q_mul rfl rfl rfl (by intro hc; omega))) ?_
    refine sr rfl rfl rfl ((q_assign rfl rfl)) (sw_nil (post_then (cw_ret (post_then_r (post_ret1 rfl (resOk_tmp rfl) ?_)))))
    exact fun w' hw => ⟨by rw [h2], hw⟩
  · skip
    have h2 : rankC a = 2 * a + 1 := by unfold rankC; rw [if_neg (by simpa using h1)]
    refine cw_skip (post_then (cw_seq (cw_region (sr rfl rfl rfl ((q_move rfl rfl)) ?_))))
    refine sr rfl rfl rfl ((q_mul rfl rfl rfl (by intro hc; omega))) ?_
    refine sr rfl rfl rfl ((q_add rfl rfl rfl (by intro hc; omega))) ?_
    refine sr rfl rfl rfl ((q_assign rfl rfl)) (sw_nil (post_then (cw_ret (post_ret1 rfl (resOk_tmp rfl) ?_))))
    exact fun w' hw => ⟨by rw [h2], hw⟩
def TT.list (t : TT) : List Cond := if t.a2 = 0 then [⟨t.a1, t.c1⟩] else [⟨t.a1, t.c1⟩, ⟨t.a2, t.c2⟩]
def CondB (c : Cond) : Prop := -1000 ≤ c.at_ ∧ c.at_ ≤ 1000
def TTB (t : TT) : Prop := (-1000 ≤ t.a1 ∧ t.a1 ≤ 1000) ∧ (-1000 ≤ t.a2 ∧ t.a2 ≤ 1000)
def condC (p q : Cond) : Int := orL [sgn (rankC p.at_ - rankC q.at_), sgn (p.c - q.c)]
theorem byCond_spec (p q : Cond) (hp : CondB p) (hq : CondB q) (w : World) : Calls Tryz.prog 205 #[val p, val q] w fun e w' => e = .returned (.int .i64 (condC p q)) ∧ Cl w [] [] w' := by
  have h1 : -1000 ≤ p.at_ ∧ p.at_ ≤ 1000 := hp
  have h2 : -1000 ≤ q.at_ ∧ q.at_ ≤ 1000 := hq
  have h3 : 0 ≤ rankC p.at_ ∧ rankC p.at_ ≤ 2001 := by unfold rankC; split <;> omega
  have h4 : 0 ≤ rankC q.at_ ∧ rankC q.at_ ≤ 2001 := by unfold rankC; split <;> omega
  refine calls_cw (vs := [_, _]) Tryz.func205 rfl Tryz.ntmps205 rfl (Cl.start0 w) (cw_seq (cw_region ?_))
  refine sw_x rfl rfl rfl (e_box rfl rfl rfl) (fun b2 => ?_)
  refine sw_x rfl rfl rfl (e_box rfl rfl rfl) (fun b3 => ?_)
  refine sr rfl rfl rfl ((q_assign rfl rfl)) (sw_nil (post_then (cw_seq (cw_region_a (Cl w [] [blk b3 (enc q) 109, blk b2 (enc p) 109]) [] mixed_Tryz ?_))))
  refine aw_take 0 (fun w h => Cl.sel (by exact .take 0 rfl (.take 0 rfl (.nil _))) w h) rfl (by kernel_rfl) (by kernel_rfl) (by kernel_rfl) (by kernel_rfl) (by kernel_rfl) (by kernel_rfl) rfl rfl rfl (q_fieldAddr rfl rfl) ?_
  refine aw_take 1 (fun w h => Cl.sel (by exact .take 0 rfl (.take 0 rfl (.nil _))) w h) rfl (by kernel_rfl) (by kernel_rfl) (by kernel_rfl) (by kernel_rfl) (by kernel_rfl) (by kernel_rfl) rfl rfl rfl (q_loadC rfl rfl (by exact .tail _ (.head _)) rfl) ?_
  refine aw_take 3 (fun w h => Cl.sel (by exact .take 0 rfl (.take 0 rfl (.nil _))) w h) rfl (by kernel_rfl) (by kernel_rfl) (by kernel_rfl) (by kernel_rfl) (by kernel_rfl) (by kernel_rfl) rfl rfl rfl (q_fieldAddr rfl rfl) ?_
  refine aw_take 4 (fun w h => Cl.sel (by exact .take 0 rfl (.take 0 rfl (.nil _))) w h) rfl (by kernel_rfl) (by kernel_rfl) (by kernel_rfl) (by kernel_rfl) (by kernel_rfl) (by kernel_rfl) rfl rfl rfl (q_loadC rfl rfl (by exact .head _) rfl) ?_
  refine aw_take 7 (fun w h => Cl.sel (by exact .take 0 rfl (.take 0 rfl (.nil _))) w h) rfl (by kernel_rfl) (by kernel_rfl) (by kernel_rfl) (by kernel_rfl) (by kernel_rfl) (by kernel_rfl) rfl rfl rfl (q_fieldAddr rfl rfl) ?_
  refine aw_take 8 (fun w h => Cl.sel (by exact .take 0 rfl (.take 0 rfl (.nil _))) w h) rfl (by kernel_rfl) (by kernel_rfl) (by kernel_rfl) (by kernel_rfl) (by kernel_rfl) (by kernel_rfl) rfl rfl rfl (q_loadC rfl rfl (by exact .tail _ (.head _)) rfl) ?_
  refine aw_take 9 (fun w h => Cl.sel (by exact .take 0 rfl (.take 0 rfl (.nil _))) w h) rfl (by kernel_rfl) (by kernel_rfl) (by kernel_rfl) (by kernel_rfl) (by kernel_rfl) (by kernel_rfl) rfl rfl rfl (q_fieldAddr rfl rfl) ?_
  refine aw_take 10 (fun w h => Cl.sel (by exact .take 0 rfl (.take 0 rfl (.nil _))) w h) rfl (by kernel_rfl) (by kernel_rfl) (by kernel_rfl) (by kernel_rfl) (by kernel_rfl) (by kernel_rfl) rfl rfl rfl (q_loadC rfl rfl (by exact .head _) rfl) ?_
  refine aw_q 2 (by kernel_rfl) rfl rfl rfl rfl (q_call (CanCall.mk Tryz.call206) rfl (.cons rfl inferInstance (.nil)) (fun _ w hw => callq hw (rank_spec _ (by assumption) w))) (by intro hb; exact (fun w h => Cl.sel (by exact .take 0 rfl (.take 0 rfl (.nil _))) w h)) ?_
  refine aw_q 5 (by kernel_rfl) rfl rfl rfl rfl (q_call (CanCall.mk Tryz.call206) rfl (.cons rfl inferInstance (.nil)) (fun _ w hw => callq hw (rank_spec _ (by assumption) w))) (by intro hb; exact (fun w h => Cl.sel (by exact .take 0 rfl (.take 0 rfl (.nil _))) w h)) ?_
  refine aw_q 6 (by kernel_rfl) rfl rfl rfl rfl (q_call (CanCall.mk Tryz.call203) rfl (.cons rfl inferInstance (.cons rfl inferInstance (.nil))) (fun _ w hw => callq hw (compareI_spec _ _ w))) (by intro hb; exact (fun w h => Cl.sel (by exact .take 0 rfl (.take 0 rfl (.nil _))) w h)) ?_
  refine aw_q 11 (by kernel_rfl) rfl rfl rfl rfl (q_call (CanCall.mk Tryz.call75) rfl (.cons rfl inferInstance (.cons rfl inferInstance (.nil))) (fun _ w hw => callq hw (compareR_spec _ _ w))) (by intro hb; exact (fun w h => Cl.sel (by exact .take 0 rfl (.take 0 rfl (.nil _))) w h)) ?_
  refine aw_x 12 (by kernel_rfl) rfl rfl rfl rfl (e_buildL (α := Int) (l := [sgn (rankC p.at_ - rankC q.at_), sgn (p.c - q.c)]) rfl (.cons rfl inferInstance (.cons rfl inferInstance (.nil))) rfl rfl rfl rfl) (by intro hb; exact fun _ => (fun w h => Cl.sel (by exact .take 1 rfl (.take 1 rfl (.nil _))) w h)) (fun s17 => ?_)
  refine aw_q 13 (by kernel_rfl) rfl rfl rfl rfl (q_call (CanCall.mk Tryz.call141) rfl (.cons rfl inferInstance (.nil)) (fun _ w hw => callq hw (or_spec _ _ w (by exact stb_own hw (by exact .head _))))) (by intro hb; exact (fun w h => Cl.sel (by exact .take 1 rfl (.take 1 rfl (.nil _))) w h)) ?_
  refine aw_pure 14 rfl (by kernel_rfl) (by kernel_rfl) (by kernel_rfl) (by kernel_rfl) (by kernel_rfl) rfl rfl rfl (q_assign rfl rfl) ?_
  refine aw_end (by kernel_rfl) ?_
  refine post_then (cw_ret (post_ret1 rfl (resOk_tmp rfl) ?_))
  exact fun w' hw => ⟨rfl, (fun w h => Cl.sel (by exact .nil _) w h) _ hw⟩
def ordBy {α : Type} (c : α → α → Int) : List α → List α → Int
  | [], [] => 0
  | [], _ :: _ => -1
  | _ :: _, [] => 1
  | x :: a, y :: b => if c x y = 0 then ordBy c a b else c x y
theorem compareF_spec (sa sb : Value) (a b : List Cond) (g : FuncId) (c : Cond → Cond → Int) (hgc : CanCall Tryz.prog g) (hg : ∀ x ∈ a, ∀ y ∈ b, ∀ w, Calls Tryz.prog g #[val x, val y] w fun e w' => e = .returned (.int .i64 (c x y)) ∧ Cl w [] [] w') (w : World) (ha : Stb w [] (RdL sa a)) (hb : Stb w [] (RdL sb b)) :
    Calls Tryz.prog 204 #[sa, sb, .func (.func g) #[] #[]] w fun e w' => e = .returned (.int .i64 (ordBy c a b)) ∧ Cl w [] [] w' := by
  have hLa := rd_len ha.here
  have hLb := rd_len hb.here
  refine calls_cw (vs := [_, _, _]) Tryz.func204 rfl Tryz.ntmps204 rfl (Cl.start0 w) (cw_seq (cw_region (sr rfl rfl rfl ((q_assign rfl rfl)) (sw_nil (post_then (cw_seq (cw_seq (cw_region (sr rfl rfl rfl ((q_move rfl rfl)) ?_)))))))))
  refine sr rfl rfl rfl ((q_len rfl (.cons rfl inferInstance (.nil)) (by exact fun w hw => Stb.cl (by assumption) hw))) ?_
  refine sr rfl rfl rfl ((q_move rfl rfl)) (sw_nil (post_then (cw_block ?_)))
  refine cw_loop (S := Nat) (fun k => [(0, [], sa), (1, [], sb), (2, [], .func (.func g) #[] #[]), (11, [], sa), (12, [], .int .i64 a.length), (13, [], .int .i64 k)]) (fun _ => Cl w [] []) (fun k => k ≤ a.length ∧ k ≤ b.length ∧ ordBy c a b = ordBy c (a.drop k) (b.drop k)) (fun k => a.length - k) 0 ⟨Nat.zero_le _, Nat.zero_le _, rfl⟩ (by exact .cons rfl (.cons rfl (.cons rfl (.cons rfl (.cons rfl (.cons rfl .nil)))))) (fun _ h => h) ?_
  rintro k ⟨hk, hk2, hbe⟩
  refine cw_seq (cw_region (sr rfl rfl rfl ((q_lss rfl rfl rfl)) (sw_nil (post_then (cw_seq ?_)))))
  refine cw_cond rfl (fun h => ?_) (fun h => ?_)
  · skip
    have hk' : k < a.length := by simp at h; omega
    refine cw_skip (post_then (cw_seq (cw_block (cw_seq (cw_region (sr rfl rfl rfl ((q_move rfl rfl)) ?_))))))
    refine sr rfl rfl rfl ((q_indexN rfl rfl rfl (by exact fun w hw => Stb.cl (by assumption) hw) (by intro hc; omega))) ?_
    refine sr rfl rfl rfl ((q_loadEl rfl rfl rfl (by exact fun w hw => Stb.cl (by assumption) hw) (by intro hc; omega))) ?_
    refine sw_x rfl rfl rfl (e_alloc rfl) (fun b8 => ?_)
    refine sr rfl rfl rfl ((q_assign rfl rfl)) (sw_eff0 rfl rfl (e_store (i := 0) rfl rfl rfl rfl rfl rfl rfl rfl) (sw_nil (post_then (cw_seq (cw_seq (cw_region (sr rfl rfl rfl ((q_move rfl rfl)) (sr rfl rfl rfl ((q_move rfl rfl)) ?_))))))))
    refine sr rfl rfl rfl ((q_len rfl (.cons rfl inferInstance (.nil)) (by exact fun w hw => Stb.cl (by assumption) hw))) ?_
    refine sr rfl rfl rfl ((q_geq rfl rfl rfl)) (sw_nil (post_then ?_))
    refine cw_cond rfl (fun h2 => ?_) (fun h2 => ?_)
    · skip
      have h4 : k = b.length := by simp at h2; omega
      have h3 : ordBy c a b = 1 := by rw [hbe, h4, List.drop_length, List.drop_eq_getElem_cons (by omega : b.length < a.length)]; rfl
      refine cw_seq (cw_region (sr rfl rfl rfl ((q_assign rfl rfl)) (sw_nil (post_then (cw_ret (post_then_r (post_blk_r (post_then_r (post_then_r (post_blk_r (post_then_r (post_ret1 rfl (resOk_tmp rfl) ?_))))))))))))
      exact fun w' hw => ⟨by rw [h3], (fun w h => Cl.sel (by exact .nil _) w h) _ hw⟩
    · skip
      have h4 : k < b.length := by simp at h2; omega
      have hst : ordBy c (a.drop k) (b.drop k) = if c (nth a k) (nth b k) = 0 then ordBy c (a.drop (k + 1)) (b.drop (k + 1)) else c (nth a k) (nth b k) := by
        rw [List.drop_eq_getElem_cons hk', List.drop_eq_getElem_cons h4, nth_get hk', nth_get h4]; rfl
      refine cw_skip (post_then (cw_seq (cw_region (sr rfl rfl rfl ((q_move rfl rfl)) (sr rfl rfl rfl ((q_move rfl rfl)) ?_)))))
      refine sr rfl rfl rfl ((q_indexN rfl rfl rfl (by exact fun w hw => Stb.cl (by assumption) hw) (by intro hc; omega))) ?_
      refine sr rfl rfl rfl ((q_loadEl rfl rfl rfl (by exact fun w hw => Stb.cl (by assumption) hw) (by intro hc; omega))) ?_
      refine sw_x rfl rfl rfl (e_alloc rfl) (fun b9 => ?_)
      refine sw_eff0 rfl rfl (e_store (i := 0) rfl rfl rfl rfl rfl rfl rfl rfl) (sw_nil (post_then (cw_seq (cw_region (sr rfl rfl rfl ((q_move rfl rfl)) ?_)))))
      refine sr rfl rfl rfl ((q_loadA rfl rfl (by exact .tail _ (.head _)) rfl)) ?_
      refine sr rfl rfl rfl ((q_loadA rfl rfl (by exact .head _) rfl)) ?_
      refine sw_step rfl rfl rfl (q_callv hgc rfl rfl (.cons rfl inferInstance (.cons rfl inferInstance (.nil))) (fun _ w' hw => callq hw (hg (nth a k) (nth_mem hk') (nth b k) (nth_mem h4) w'))) (sr rfl rfl rfl ((q_assign rfl rfl)) (sw_nil (post_then (cw_seq (cw_region (sr rfl rfl rfl ((q_move rfl rfl)) (sr rfl rfl rfl ((q_neq rfl rfl rfl)) (sw_nil (post_then ?_)))))))))
      refine cw_cond rfl (fun h5 => ?_) (fun h5 => ?_)
      · skip
        have h3 : ordBy c a b = c (nth a k) (nth b k) := by
          simp at h5
          rw [hbe, hst, if_neg h5]
        refine cw_seq (cw_region (sr rfl rfl rfl ((q_move rfl rfl)) (sr rfl rfl rfl ((q_assign rfl rfl)) (sw_nil (post_then (cw_ret (post_blk_r (post_then_r (post_then_r (post_blk_r (post_then_r (post_ret1 rfl (resOk_tmp rfl) ?_))))))))))))
        exact fun w' hw => ⟨by rw [h3], (fun w h => Cl.sel (by exact .nil _) w h) _ hw⟩
      · skip
        refine cw_skip (post_blk (post_then (cw_region ?_)))
        refine sr rfl rfl rfl ((q_add rfl rfl rfl (by intro hc; omega))) ?_
        refine sr rfl rfl rfl ((q_move rfl rfl)) (sw_nil ?_)
        exact post_next (k + 1) (by exact .cons rfl (.cons rfl (.cons rfl (.cons rfl (.cons rfl (.cons rfl .nil)))))) (fun _ h => (fun w h => Cl.sel (by exact .nil _) w h) _ h) ⟨by omega, by omega, by simp at h5; rw [hbe, hst, if_pos h5]⟩ (by omega)
  · skip
    have hk' : k = a.length := by simp at h; omega
    subst hk'
    refine cw_exit (post_then_x (post_then_x (post_blk_eq (post_then (cw_seq (cw_seq (cw_region (sr rfl rfl rfl ((q_move rfl rfl)) ?_))))))))
    refine sr rfl rfl rfl ((q_len rfl (.cons rfl inferInstance (.nil)) (by exact fun w hw => Stb.cl (by assumption) hw))) ?_
    refine sr rfl rfl rfl ((q_move rfl rfl)) ?_
    refine sr rfl rfl rfl ((q_len rfl (.cons rfl inferInstance (.nil)) (by exact fun w hw => Stb.cl (by assumption) hw))) ?_
    refine sr rfl rfl rfl ((q_lss rfl rfl rfl)) (sw_nil (post_then ?_))
    refine cw_cond rfl (fun h2 => ?_) (fun h2 => ?_)
    · skip
      have h3 : ordBy c a b = -1 := by
        simp at h2
        rw [hbe, List.drop_length, List.drop_eq_getElem_cons (by omega : a.length < b.length)]; rfl
      refine cw_seq (cw_region (sr rfl rfl rfl ((q_assign rfl rfl)) (sw_nil (post_then (cw_ret (post_then_r (post_ret1 rfl (resOk_tmp rfl) ?_)))))))
      exact fun w' hw => ⟨by rw [h3], hw⟩
    · skip
      have h3 : ordBy c a b = 0 := by
        simp at h2
        rw [hbe, List.drop_length, List.drop_eq_nil_of_le (by omega)]; rfl
      refine cw_skip (post_then (cw_seq (cw_region (sr rfl rfl rfl ((q_assign rfl rfl)) (sw_nil (post_then (cw_ret (post_ret1 rfl (resOk_tmp rfl) ?_))))))))
      exact fun w' hw => ⟨by rw [h3], hw⟩
theorem list_spec (t : TT) (w : World) : Calls Tryz.prog 151 #[val t] w fun e w' => ∃ r : SlV, e = .returned r.v ∧ True ∧ Cl w [] [ownL 109 r.v t.list] w' := by
  refine calls_cw (vs := [_]) Tryz.func151 rfl Tryz.ntmps151 rfl (Cl.start0 w) (cw_seq (cw_region ?_))
  refine sw_x rfl rfl rfl (e_box rfl rfl rfl) (fun b1 => ?_)
  refine sr rfl rfl rfl ((q_assign rfl rfl)) (sw_nil (post_then (cw_seq (cw_seq (cw_region ?_)))))
  refine sr rfl rfl rfl ((q_indexArr (len := 2) (sz := 2) rfl rfl rfl Tryz.underlying211 (by decide))) ?_
  refine sr rfl rfl rfl ((q_fieldAddr rfl rfl)) ?_
  refine sr rfl rfl rfl ((q_loadC rfl rfl (by exact .head _) rfl)) ?_
  refine sr rfl rfl rfl ((q_eql rfl rfl rfl)) (sw_nil (post_then ?_))
  refine cw_cond rfl (fun h => ?_) (fun h => ?_)
  · skip
    have h2 : t.list = [⟨t.a1, t.c1⟩] := by unfold TT.list; rw [if_pos (by simpa using h)]
    refine cw_seq (cw_region ?_)
    refine sr rfl rfl rfl ((q_indexArr (len := 2) (sz := 2) rfl rfl rfl Tryz.underlying211 (by decide))) ?_
    refine sr rfl rfl rfl ((q_loadA rfl rfl (by exact .head _) rfl)) ?_
    refine sw_x rfl rfl rfl (e_buildL (α := Cond) (l := [⟨t.a1, t.c1⟩]) rfl (.cons rfl inferInstance (.nil)) rfl rfl rfl rfl) (fun s9 => ?_)
    refine sr rfl rfl rfl ((q_assign rfl rfl)) (sw_nil (post_then (cw_ret (post_then_r (post_ret1 rfl (resOk_tmp rfl) ?_)))))
    exact fun w' hw => ⟨s9, rfl, trivial, by rw [h2]; exact (fun w h => Cl.sel (by exact .take 0 rfl (.nil _)) w h) _ hw⟩
  · skip
    have h2 : t.list = [⟨t.a1, t.c1⟩, ⟨t.a2, t.c2⟩] := by unfold TT.list; rw [if_neg (by simpa using h)]
    refine cw_skip (post_then (cw_seq (cw_region ?_)))
    refine sr rfl rfl rfl ((q_indexArr (len := 2) (sz := 2) rfl rfl rfl Tryz.underlying211 (by decide))) ?_
    refine sr rfl rfl rfl ((q_loadA rfl rfl (by exact .head _) rfl)) ?_
    refine sr rfl rfl rfl ((q_indexArr (len := 2) (sz := 2) rfl rfl rfl Tryz.underlying211 (by decide))) ?_
    refine sr rfl rfl rfl ((q_loadA rfl rfl (by exact .head _) rfl)) ?_
    refine sw_x rfl rfl rfl (e_buildL (α := Cond) (l := [⟨t.a1, t.c1⟩, ⟨t.a2, t.c2⟩]) rfl (.cons rfl inferInstance (.cons rfl inferInstance (.nil))) rfl rfl rfl rfl) (fun s14 => ?_)
    refine sr rfl rfl rfl ((q_assign rfl rfl)) (sw_nil (post_then (cw_ret (post_ret1 rfl (resOk_tmp rfl) ?_))))
    exact fun w' hw => ⟨s14, rfl, trivial, by rw [h2]; exact (fun w h => Cl.sel (by exact .take 0 rfl (.nil _)) w h) _ hw⟩
end Go.Proofs.YtkmbliojafefdaaGreatDoor

set_option autoImplicit false
set_option maxRecDepth 100000
namespace Go.Proofs.YtkmbliojafefdaaGreatDoor
open Go.Sx
open Enc (enc val)
theorem near_spec (x : XR) (d : Int) (hx : 0 ≤ x.at_ ∧ x.at_ ≤ 1000000) (hd : -1000 ≤ d ∧ d ≤ 1000) (w : World) (hw : Stb w [] (RdL x.w.v x.wl)) : Calls Tryz.prog 78 #[val x, .int .i64 d] w fun e w' => e = .returned (.int .i32 (lookC x.wl (x.at_ + d))) ∧ Cl w [] [] w' := by
  have hL := rd_len hw.here
  refine calls_cw (vs := [_, _]) Tryz.func78 rfl Tryz.ntmps78 rfl (Cl.start0 w) (cw_seq (cw_region ?_))
  refine sw_x rfl rfl rfl (e_box rfl rfl rfl) (fun b2 => ?_)
  refine sr rfl rfl rfl ((q_assign rfl rfl)) (sw_nil (post_then (cw_seq (cw_seq (cw_region (sr rfl rfl rfl ((q_fieldAddr rfl rfl)) ?_))))))
  refine sr rfl rfl rfl ((q_loadC rfl rfl (by exact .head _) rfl)) ?_
  refine sr rfl rfl rfl ((q_move rfl rfl)) ?_
  refine sr rfl rfl rfl ((q_add rfl rfl rfl (by intro hc; omega))) ?_
  refine sr rfl rfl rfl ((q_lss rfl rfl rfl)) (sr rfl rfl rfl ((q_move rfl rfl)) (sr rfl rfl rfl ((q_fieldAddr rfl rfl)) ?_))
  refine sr rfl rfl rfl ((q_loadC rfl rfl (by exact .head _) rfl)) ?_
  refine sr rfl rfl rfl ((q_move rfl rfl)) ?_
  refine sr rfl rfl rfl ((q_add rfl rfl rfl (by intro hc; omega))) ?_
  refine sr rfl rfl rfl ((q_fieldAddr rfl rfl)) ?_
  refine sr rfl rfl rfl ((q_loadC rfl rfl (by exact .head _) rfl)) ?_
  refine sr rfl rfl rfl ((q_len rfl (.cons rfl inferInstance (.nil)) (by exact fun w hw => Stb.cl (by assumption) hw))) ?_
  refine sr rfl rfl rfl ((q_geq rfl rfl rfl)) (sr rfl rfl rfl ((q_or2 rfl rfl rfl)) (sw_nil (post_then ?_)))
  refine cw_cond rfl (fun h => ?_) (fun h => ?_)
  · skip
    have e1 : lookC x.wl (x.at_ + d) = 0 := by unfold lookC; rw [if_pos (by simp at h; omega)]
    refine cw_seq (cw_region (sr rfl rfl rfl ((q_assign rfl rfl)) (sw_nil (post_then (cw_ret (post_then_r (post_ret1 rfl (resOk_tmp rfl) ?_)))))))
    exact fun w' hw => ⟨by rw [e1], (fun w h => Cl.sel (by exact .nil _) w h) _ hw⟩
  · skip
    have h1 : 0 ≤ x.at_ + d ∧ x.at_ + d < x.wl.length := by simp at h; omega
    have e1 : lookC x.wl (x.at_ + d) = (nth x.wl (x.at_ + d).toNat).v := by unfold lookC; rw [if_neg (by omega)]
    refine cw_skip (post_then (cw_seq (cw_region (sr rfl rfl rfl ((q_fieldAddr rfl rfl)) ?_))))
    refine sr rfl rfl rfl ((q_loadC rfl rfl (by exact .head _) rfl)) ?_
    refine sr rfl rfl rfl ((q_fieldAddr rfl rfl)) ?_
    refine sr rfl rfl rfl ((q_loadC rfl rfl (by exact .head _) rfl)) ?_
    refine sr rfl rfl rfl ((q_move rfl rfl)) ?_
    refine sr rfl rfl rfl ((q_add rfl rfl rfl (by intro hc; omega))) ?_
    refine sr rfl rfl rfl ((q_index rfl rfl rfl (by exact fun w hw => Stb.cl (by assumption) hw) (by intro hc; omega))) ?_
    refine sr rfl rfl rfl ((q_loadF rfl rfl rfl (by exact fun w hw => Stb.cl (by assumption) hw) (by intro hc; omega) rfl)) ?_
    refine sr rfl rfl rfl ((q_assign rfl rfl)) (sw_nil (post_then (cw_ret (post_ret1 rfl (resOk_tmp rfl) ?_))))
    exact fun w' hw => ⟨by first | (rw [e1]; rfl) | rw [e1], (fun w h => Cl.sel (by exact .nil _) w h) _ hw⟩
theorem holdsR_spec (sv : Value) (t : List Cond) (x : XR) (hx : 0 ≤ x.at_ ∧ x.at_ ≤ 1000000) (ht : ∀ c ∈ t, CondB c) (w : World) (hs : Stb w [] (RdL sv t)) (hw0 : Stb w [] (RdL x.w.v x.wl)) : Calls Tryz.prog 35 #[sv, val x] w fun e w' => e = .returned (.bool (holdsC x.wl x.at_ t)) ∧ Cl w [] [] w' := by
  have hL := rd_len hs.here
  refine calls_cw (vs := [_, _]) Tryz.func35 rfl Tryz.ntmps35 rfl (Cl.start0 w) (cw_seq (cw_region ?_))
  refine sw_x rfl rfl rfl (e_box rfl rfl rfl) (fun b3 => ?_)
  refine sr rfl rfl rfl ((q_assign rfl rfl)) (sw_nil (post_then (cw_seq (cw_seq (cw_region (sr rfl rfl rfl ((q_assign rfl rfl)) (sw_nil (post_then (cw_block ?_)))))))))
  refine cw_loop (S := Nat) (fun k => [(0, [], sv), (3, [], .pointer (some ⟨b3, 0, none⟩)), (5, [], .int .i64 k)]) (fun _ => Cl w [] [blk b3 (enc x) 58]) (fun k => k ≤ t.length ∧ ∀ j, j < k → decide (lookC x.wl (x.at_ + (nth t j).at_) = (nth t j).c) = true) (fun k => t.length - k) 0 ⟨by omega, fun j hj => by omega⟩ (by exact .cons rfl (.cons rfl (.cons rfl .nil))) (fun _ h => h) ?_
  rintro k ⟨hk, hbe⟩
  refine cw_seq (cw_seq (cw_region (sr rfl rfl rfl ((q_move rfl rfl)) (sr rfl rfl rfl ((q_move rfl rfl)) ?_))))
  refine sr rfl rfl rfl ((q_len rfl (.cons rfl inferInstance (.nil)) (by exact fun w hw => Stb.cl (by assumption) hw))) ?_
  refine sr rfl rfl rfl ((q_lss rfl rfl rfl)) (sw_nil (post_then ?_))
  refine cw_cond rfl (fun h => ?_) (fun h => ?_)
  · skip
    have hk' : k < t.length := by simp at h; omega
    have hc : -1000 ≤ (nth t k).at_ ∧ (nth t k).at_ ≤ 1000 := ht _ (nth_mem hk')
    refine cw_skip (post_then (cw_seq (cw_block (cw_seq (cw_region_a (Cl w [] [blk b3 (enc x) 58]) [] mixed_Tryz ?_)))))
    refine aw_take 0 (fun w h => Cl.sel (by exact .take 0 rfl (.nil _)) w h) rfl (by kernel_rfl) (by kernel_rfl) (by kernel_rfl) (by kernel_rfl) (by kernel_rfl) (by kernel_rfl) rfl rfl rfl (q_loadA rfl rfl (by exact .head _) rfl) ?_
    refine aw_pure 1 rfl (by kernel_rfl) (by kernel_rfl) (by kernel_rfl) (by kernel_rfl) (by kernel_rfl) rfl rfl rfl (q_move rfl rfl) ?_
    refine aw_pure 2 rfl (by kernel_rfl) (by kernel_rfl) (by kernel_rfl) (by kernel_rfl) (by kernel_rfl) rfl rfl rfl (q_move rfl rfl) ?_
    refine aw_take 3 (fun w h => Cl.sel (by exact .take 0 rfl (.nil _)) w h) rfl (by kernel_rfl) (by kernel_rfl) (by kernel_rfl) (by kernel_rfl) (by kernel_rfl) (by kernel_rfl) rfl rfl rfl (q_indexN rfl rfl rfl (by exact fun w hw => Stb.cl (by assumption) hw) (by intro hc; omega)) ?_
    refine aw_take 4 (fun w h => Cl.sel (by exact .take 0 rfl (.nil _)) w h) rfl (by kernel_rfl) (by kernel_rfl) (by kernel_rfl) (by kernel_rfl) (by kernel_rfl) (by kernel_rfl) rfl rfl rfl (q_fieldEl rfl rfl (by exact fun w hw => Stb.cl (by assumption) hw) (by intro hc; omega)) ?_
    refine aw_take 5 (fun w h => Cl.sel (by exact .take 0 rfl (.nil _)) w h) rfl (by kernel_rfl) (by kernel_rfl) (by kernel_rfl) (by kernel_rfl) (by kernel_rfl) (by kernel_rfl) rfl rfl rfl (q_loadF rfl rfl rfl (by exact fun w hw => Stb.cl (by assumption) hw) (by intro hc; omega) rfl) ?_
    refine aw_pure 7 rfl (by kernel_rfl) (by kernel_rfl) (by kernel_rfl) (by kernel_rfl) (by kernel_rfl) rfl rfl rfl (q_move rfl rfl) ?_
    refine aw_pure 8 rfl (by kernel_rfl) (by kernel_rfl) (by kernel_rfl) (by kernel_rfl) (by kernel_rfl) rfl rfl rfl (q_move rfl rfl) ?_
    refine aw_take 9 (fun w h => Cl.sel (by exact .take 0 rfl (.nil _)) w h) rfl (by kernel_rfl) (by kernel_rfl) (by kernel_rfl) (by kernel_rfl) (by kernel_rfl) (by kernel_rfl) rfl rfl rfl (q_indexN rfl rfl rfl (by exact fun w hw => Stb.cl (by assumption) hw) (by intro hc; omega)) ?_
    refine aw_take 10 (fun w h => Cl.sel (by exact .take 0 rfl (.nil _)) w h) rfl (by kernel_rfl) (by kernel_rfl) (by kernel_rfl) (by kernel_rfl) (by kernel_rfl) (by kernel_rfl) rfl rfl rfl (q_fieldEl rfl rfl (by exact fun w hw => Stb.cl (by assumption) hw) (by intro hc; omega)) ?_
    refine aw_take 11 (fun w h => Cl.sel (by exact .take 0 rfl (.nil _)) w h) rfl (by kernel_rfl) (by kernel_rfl) (by kernel_rfl) (by kernel_rfl) (by kernel_rfl) (by kernel_rfl) rfl rfl rfl (q_loadF rfl rfl rfl (by exact fun w hw => Stb.cl (by assumption) hw) (by intro hc; omega) rfl) ?_
    refine aw_q 6 (by kernel_rfl) rfl rfl rfl rfl (q_call (CanCall.mk Tryz.call78) rfl (.cons rfl inferInstance (.cons rfl inferInstance (.nil))) (fun _ w1 hw => callq hw (near_spec x (nth t k).at_ hx hc w1 (stb_arg hw hw0)))) (by intro hb; exact (fun w h => Cl.sel (by exact .take 0 rfl (.nil _)) w h)) ?_
    refine aw_pure 12 rfl (by kernel_rfl) (by kernel_rfl) (by kernel_rfl) (by kernel_rfl) (by kernel_rfl) rfl rfl rfl (q_neq rfl rfl rfl) ?_
    refine aw_end (by kernel_rfl) ?_
    refine post_then ?_
    refine cw_cond rfl (fun h2 => ?_) (fun h2 => ?_)
    · skip
      have e1 : holdsC x.wl x.at_ t = false := by unfold holdsC; exact all_no hk' (by simpa using h2)
      refine cw_seq (cw_region (sr rfl rfl rfl ((q_assign rfl rfl)) (sw_nil (post_then (cw_ret (post_blk_r (post_then_r (post_then_r (post_blk_r (post_then_r (post_ret1 rfl (resOk_tmp rfl) ?_)))))))))))
      exact fun w' hw => ⟨by rw [e1], (fun w h => Cl.sel (by exact .nil _) w h) _ hw⟩
    · skip
      have e1 : decide (lookC x.wl (x.at_ + (nth t k).at_) = (nth t k).c) = true := by simpa using h2
      refine cw_skip (post_blk (post_then (cw_region (sr rfl rfl rfl ((q_move rfl rfl)) ?_))))
      refine sr rfl rfl rfl ((q_add rfl rfl rfl (by intro hc; omega))) ?_
      refine sr rfl rfl rfl ((q_assign rfl rfl)) (sw_nil ?_)
      exact post_next (k + 1) (by exact .cons rfl (.cons rfl (.cons rfl .nil))) (fun _ h => h) ⟨by omega, fun j hj => by
        rcases Nat.lt_or_ge j k with h6 | h6
        · exact hbe j h6
        · have : j = k := by omega
          subst this; exact e1⟩ (by omega)
  · skip
    have hk' : k = t.length := by simp at h; omega
    subst hk'
    have e1 : holdsC x.wl x.at_ t = true := by unfold holdsC; exact all_yes hbe
    refine cw_exit (post_then_x (post_then_x (post_blk_eq (post_then (cw_seq (cw_region (sr rfl rfl rfl ((q_assign rfl rfl)) (sw_nil (post_then (cw_ret (post_ret1 rfl (resOk_tmp rfl) ?_)))))))))))
    exact fun w' hw => ⟨by rw [e1], (fun w h => Cl.sel (by exact .nil _) w h) _ hw⟩
end Go.Proofs.YtkmbliojafefdaaGreatDoor

set_option autoImplicit false
set_option maxRecDepth 100000
namespace Go.Proofs.YtkmbliojafefdaaGreatDoor
open Go.Sx
open Enc (enc val)
theorem mt_at {bl : List Let} (hr : riseB (fun x y : Let => sgn (x.c - y.c)) bl = true) {c : Int} {k : Nat} (hk : k < bl.length) (hc : (nth bl k).c = c) : mtB bl c = true ∧ mtL bl c = nth bl k := by
  have h1 : mtK bl c = k := by
    unfold mtK
    refine lowB_at (by omega) (fun i hi => ?_) fun _ => ?_
    · have := let_asc hr i k hi hk
      simp only [sgn_neg]; omega
    · simp only [sgn_neg]; omega
  have h2 : mtB bl c = true := by
    unfold mtB; rw [h1, decide_eq_true_eq]
    exact ⟨hk, by rw [sgn_zero]; omega⟩
  exact ⟨h2, by unfold mtL; rw [h2, h1]; rfl⟩
theorem mt_no {bl : List Let} {c : Int} (h : ∀ j, j < bl.length → (nth bl j).c ≠ c) : mtB bl c = false := by
  cases hx : mtB bl c with
  | false => rfl
  | true =>
    exfalso
    unfold mtB at hx
    simp only [decide_eq_true_eq, sgn_zero] at hx
    exact h _ hx.1 (by omega)
theorem rule_no {bl : List Let} {ws : List Rn} {i : Nat} (h : ∀ j, j < bl.length → (nth bl j).c ≠ (nth ws i).v) : ruleN bl ws i = -1 ∧ ruleX bl ws i = default := by
  have := mt_no h
  unfold ruleN ruleX
  rw [this]; exact ⟨rfl, rfl⟩
theorem rule_at {bl : List Let} (hr : riseB (fun x y : Let => sgn (x.c - y.c)) bl = true) {ws : List Rn} {i k j : Nat} (hk : k < bl.length) (hc : (nth bl k).c = (nth ws i).v) (hj : j < (nth bl k).rl.length) (h0 : ∀ m, m < j → holdsC ws i (nth (nth bl k).rl m).tl = false) (h1 : holdsC ws i (nth (nth bl k).rl j).tl = true) : ruleN bl ws i = j ∧ ruleX bl ws i = nth (nth bl k).rl j := by
  obtain ⟨h2, h3⟩ := mt_at hr hk hc
  have h4 : mtI bl ws i = j := by
    unfold mtI
    rw [h2, h3]
    exact idxP_at (p := fun r : Chc => holdsC ws i r.tl) hj h0 h1
  unfold ruleN ruleX
  rw [h2, h4, h3]
  exact ⟨rfl, rfl⟩
theorem refRule_spec (b : Bk) (sw : SlV) (ws : List Rn) (i : Nat) (hi : i < ws.length) (hl : ws.length ≤ 1000000) (hg : BGood b.bl) (w : World) (hb : Stb w [] (BkIn b)) (hs : Stb w [] (RdL sw.v ws)) : Calls Tryz.prog 81 #[val b, sw.v, .int .i64 i] w fun e w' => e = .returned (.tuple #[.int .i64 (ruleN b.bl ws i), (ruleX b.bl ws i).p.v]) ∧ Cl w [] [] w' := by
  have hB := rd_stb hb.here.1
  have hL := rd_len hB.here
  have hLw := rd_len hs.here
  refine calls_cw (vs := [_, _, _]) Tryz.func81 rfl Tryz.ntmps81 rfl (Cl.start0 w) (cw_seq (cw_region ?_))
  refine sw_x rfl rfl rfl (e_box rfl rfl rfl) (fun b3 => ?_)
  refine sr rfl rfl rfl ((q_assign rfl rfl)) (sr rfl rfl rfl ((q_assign rfl rfl)) (sw_nil (post_then (cw_seq (cw_seq (cw_region (sr rfl rfl rfl ((q_assign rfl rfl)) (sw_nil (post_then (cw_block ?_))))))))))
  refine cw_loop (S := Nat) (fun k => [(1, [], sw.v), (2, [], .int .i64 i), (3, [], .pointer (some ⟨b3, 0, none⟩)), (8, [], .int .i64 k)]) (fun _ => Cl w [] [blk b3 [b.b.v] 45]) (fun k => k ≤ b.bl.length ∧ ∀ j, j < k → (nth b.bl j).c ≠ (nth ws i).v) (fun k => b.bl.length - k) 0 ⟨by omega, fun j hj => by omega⟩ (by exact .cons rfl (.cons rfl (.cons rfl (.cons rfl .nil)))) (fun w h => Cl.sel (by exact .take 0 rfl (.nil _)) w h) ?_
  rintro k ⟨hk, hbe⟩
  refine cw_seq (cw_seq (cw_region (sr rfl rfl rfl ((q_move rfl rfl)) (sr rfl rfl rfl ((q_fieldAddr rfl rfl)) ?_))))
  refine sr rfl rfl rfl ((q_loadC rfl rfl (by exact .head _) rfl)) ?_
  refine sr rfl rfl rfl ((q_len rfl (.cons rfl inferInstance (.nil)) (by exact fun w hw => Stb.cl (by assumption) hw))) ?_
  refine sr rfl rfl rfl ((q_lss rfl rfl rfl)) (sw_nil (post_then ?_))
  refine cw_cond rfl (fun h => ?_) (fun h => ?_)
  · skip
    have hk' : k < b.bl.length := by simp at h; omega
    refine cw_skip (post_then (cw_seq (cw_block (cw_seq (cw_seq ?_)))))
    refine cw_region_q mixed_Tryz (by kernel_rfl) ?_
    refine qr rfl rfl rfl ((q_fieldAddr rfl rfl)) ?_
    refine qr rfl rfl rfl ((q_loadC rfl rfl (by exact .head _) rfl)) ?_
    refine qr rfl rfl rfl ((q_move rfl rfl)) ?_
    refine qr rfl rfl rfl ((q_indexN rfl rfl rfl (by exact fun w hw => Stb.cl (by assumption) hw) (by intro hc; omega))) ?_
    refine qr rfl rfl rfl ((q_fieldEl rfl rfl (by exact fun w hw => Stb.cl (by assumption) hw) (by intro hc; omega))) ?_
    refine qr rfl rfl rfl ((q_loadF rfl rfl rfl (by exact fun w hw => Stb.cl (by assumption) hw) (by intro hc; omega) rfl)) ?_
    refine qr rfl rfl rfl ((q_move rfl rfl)) (qr rfl rfl rfl ((q_move rfl rfl)) ?_)
    refine qr rfl rfl rfl ((q_indexN rfl rfl rfl (by exact fun w hw => Stb.cl (by assumption) hw) (by intro hc; omega))) ?_
    refine qr rfl rfl rfl ((q_loadF rfl rfl rfl (by exact fun w hw => Stb.cl (by assumption) hw) (by intro hc; omega) rfl)) ?_
    refine qr rfl rfl rfl ((q_neq rfl rfl rfl)) (qw_end (post_then ?_))
    refine cw_cond rfl (fun h2 => ?_) (fun h2 => ?_)
    · skip
      have h3 : (nth b.bl k).c ≠ (nth ws i).v := by simpa using h2
      refine cw_exit (post_then_x (post_blk_eq (post_then (cw_region (sr rfl rfl rfl ((q_move rfl rfl)) ?_)))))
      refine sr rfl rfl rfl ((q_add rfl rfl rfl (by intro hc; omega))) ?_
      refine sr rfl rfl rfl ((q_assign rfl rfl)) (sw_nil ?_)
      exact post_next (k + 1) (by exact .cons rfl (.cons rfl (.cons rfl (.cons rfl .nil)))) (fun w h => Cl.sel (by exact .take 0 rfl (.nil _)) w h) ⟨by omega, fun j hj => by
        rcases Nat.lt_or_ge j k with h6 | h6
        · exact hbe j h6
        · have : j = k := by omega
          subst this; exact h3⟩ (by omega)
    · skip
      have hc : (nth b.bl k).c = (nth ws i).v := by simpa using h2
      have hLi := hb.here.2 _ (nth_mem hk')
      have hR := rd_stb hLi.1
      have hRl := rd_len hR.here
      refine cw_skip (post_then (cw_seq (cw_region (sr rfl rfl rfl ((q_assign rfl rfl)) (sw_nil (post_then (cw_block ?_)))))))
      refine cw_loop (S := Nat) (fun j => [(1, [], sw.v), (2, [], .int .i64 i), (3, [], .pointer (some ⟨b3, 0, none⟩)), (8, [], .int .i64 k), (9, [], .int .i64 j)]) (fun _ => Cl w [] [blk b3 [b.b.v] 45]) (fun j => j ≤ (nth b.bl k).rl.length ∧ ∀ m, m < j → holdsC ws i (nth (nth b.bl k).rl m).tl = false) (fun j => (nth b.bl k).rl.length - j) 0 ⟨by omega, fun j hj => by omega⟩ (by exact .cons rfl (.cons rfl (.cons rfl (.cons rfl (.cons rfl .nil))))) (fun w h => Cl.sel (by exact .take 0 rfl (.nil _)) w h) ?_
      rintro j ⟨hj, hbj⟩
      refine cw_seq (cw_seq (cw_region (sr rfl rfl rfl ((q_move rfl rfl)) (sr rfl rfl rfl ((q_fieldAddr rfl rfl)) ?_))))
      refine sr rfl rfl rfl ((q_loadC rfl rfl (by exact .head _) rfl)) ?_
      refine sr rfl rfl rfl ((q_move rfl rfl)) ?_
      refine sr rfl rfl rfl ((q_indexN rfl rfl rfl (by exact fun w hw => Stb.cl (by assumption) hw) (by intro hc; omega))) ?_
      refine sr rfl rfl rfl ((q_fieldEl rfl rfl (by exact fun w hw => Stb.cl (by assumption) hw) (by intro hc; omega))) ?_
      refine sr rfl rfl rfl ((q_loadF rfl rfl rfl (by exact fun w hw => Stb.cl (by assumption) hw) (by intro hc; omega) rfl)) ?_
      refine sr rfl rfl rfl ((q_len rfl (.cons rfl inferInstance (.nil)) (by exact fun w hw => Stb.cl (by assumption) hw))) ?_
      refine sr rfl rfl rfl ((q_lss rfl rfl rfl)) (sw_nil (post_then ?_))
      refine cw_cond rfl (fun h4 => ?_) (fun h4 => ?_)
      · skip
        have hj' : j < (nth b.bl k).rl.length := by simp at h4; omega
        have hC := hLi.2 _ (nth_mem hj')
        have hC1 := rd_stb hC.1
        have hir := hg.inr _ (nth_mem hk') _ (nth_mem hj')
        have hx : 0 ≤ (i : Int) ∧ (i : Int) ≤ 1000000 := by omega
        have hra := fun h0 h1 => rule_at hg.rise (ws := ws) (i := i) hk' hc hj' h0 h1
        obtain ⟨r, hr⟩ : ∃ r, nth (nth b.bl k).rl j = r := ⟨_, rfl⟩
        rw [hr] at hC1 hir hra
        refine cw_skip (post_then (cw_seq (cw_block (cw_seq (cw_region (sr rfl rfl rfl ((q_fieldAddr rfl rfl)) ?_))))))
        refine sr rfl rfl rfl ((q_loadC rfl rfl (by exact .head _) rfl)) ?_
        refine sr rfl rfl rfl ((q_move rfl rfl)) ?_
        refine sr rfl rfl rfl ((q_indexN rfl rfl rfl (by exact fun w hw => Stb.cl (by assumption) hw) (by intro hc; omega))) ?_
        refine sr rfl rfl rfl ((q_fieldEl rfl rfl (by exact fun w hw => Stb.cl (by assumption) hw) (by intro hc; omega))) ?_
        refine sr rfl rfl rfl ((q_loadF rfl rfl rfl (by exact fun w hw => Stb.cl (by assumption) hw) (by intro hc; omega) rfl)) ?_
        refine sr rfl rfl rfl ((q_move rfl rfl)) ?_
        refine sr rfl rfl rfl ((q_indexN rfl rfl rfl (by exact fun w hw => Stb.cl (by assumption) hw) (by intro hc; omega))) ?_
        refine sr rfl rfl rfl ((q_loadEl rfl rfl rfl (by exact fun w hw => Stb.cl (by assumption) hw) (by intro hc; omega))) ?_
        rw [hr]
        refine sw_x rfl rfl rfl (e_alloc rfl) (fun b10 => ?_)
        refine sw_eff0 rfl rfl (e_store (i := 0) rfl rfl rfl rfl rfl rfl rfl rfl) (sw_nil (post_then (cw_seq (cw_region (sr rfl rfl rfl ((q_fieldAddr rfl rfl)) ?_)))))
        refine sr rfl rfl rfl ((q_loadC rfl rfl (by exact .head _) rfl)) ?_
        refine sr rfl rfl rfl ((q_move rfl rfl)) (sr rfl rfl rfl ((q_move rfl rfl)) (sr rfl rfl rfl ((q_build rfl (.cons rfl inferInstance (.cons rfl inferInstance (.nil))) rfl)) ?_))
        refine sw_step rfl rfl rfl (q_call (CanCall.mk Tryz.call35) rfl (.cons rfl inferInstance (.cons rfl inferInstance (.nil))) (fun _ w1 hw => callq hw (holdsR_spec _ r.tl ⟨sw, (i : Int), ⟨none, 0, 0⟩, ws, []⟩ hx (fun c hc => by have := hir c hc; unfold CondB; omega) w1 (stb_arg hw hC1) (stb_arg hw hs)))) ?_
        refine sw_nil (post_then ?_)
        refine cw_cond rfl (fun h5 => ?_) (fun h5 => ?_)
        · skip
          obtain ⟨e1, e2⟩ := hra hbj h5
          refine cw_seq ?_
          refine cw_region_q mixed_Tryz (by kernel_rfl) ?_
          refine qr rfl rfl rfl ((q_move rfl rfl)) (qr rfl rfl rfl ((q_fieldAddr rfl rfl)) ?_)
          refine qr rfl rfl rfl ((q_loadC rfl rfl (by exact .head _) rfl)) ?_
          refine qr rfl rfl rfl ((q_assign rfl rfl)) (qr rfl rfl rfl ((q_assign rfl rfl)) (qw_end (post_then (cw_ret (post_blk_r (post_then_r (post_then_r (post_blk_r (post_blk_r (post_then_r (post_then_r (post_blk_r (post_then_r (post_ret2 rfl (resOk_tmp rfl) (resOk_tmp rfl) ?_))))))))))))))
          exact fun w' hw => ⟨by rw [e1, e2], (fun w h => Cl.sel (by exact .nil _) w h) _ hw⟩
        · skip
          have e1 : holdsC ws i r.tl = false := by simpa using h5
          refine cw_skip (post_blk (post_then (cw_region (sr rfl rfl rfl ((q_move rfl rfl)) ?_))))
          refine sr rfl rfl rfl ((q_add rfl rfl rfl (by intro hc; omega))) ?_
          refine sr rfl rfl rfl ((q_assign rfl rfl)) (sw_nil ?_)
          exact post_next (j + 1) (by exact .cons rfl (.cons rfl (.cons rfl (.cons rfl (.cons rfl .nil))))) (fun w h => Cl.sel (by exact .take 1 rfl (.nil _)) w h) ⟨by omega, fun m hm => by
            rcases Nat.lt_or_ge m j with h6 | h6
            · exact hbj m h6
            · have : m = j := by omega
              subst this; rw [hr]; exact e1⟩ (by omega)
      · skip
        exfalso
        have hj' : j = (nth b.bl k).rl.length := by simp at h4; omega
        obtain ⟨r, h5, h6⟩ := hg.last _ (nth_mem hk')
        obtain ⟨m, hm, rfl⟩ := List.getElem_of_mem h5
        have := hbj m (by omega)
        rw [nth_get hm, h6] at this
        simp [holdsC] at this
  · skip
    have hk' : k = b.bl.length := by simp at h; omega
    subst hk'
    obtain ⟨e1, e2⟩ := rule_no hbe
    refine cw_exit (post_then_x (post_then_x (post_blk_eq (post_then (cw_seq (cw_region (sr rfl rfl rfl ((q_assign rfl rfl)) (sr rfl rfl rfl ((q_assign rfl rfl)) (sw_nil (post_then (cw_ret (post_ret2 rfl (resOk_tmp rfl) (resOk_tmp rfl) ?_))))))))))))
    exact fun w' hw => ⟨by rw [e1, e2]; rfl, (fun w h => Cl.sel (by exact .nil _) w h) _ hw⟩
theorem refSay_spec (b : Bk) (sw : SlV) (ws : List Rn) (hl : ws.length ≤ 1000) (hg : BGood b.bl) (w : World) (hb : Stb w [] (BkIn b)) (hs : Stb w [] (RdL sw.v ws)) : Calls Tryz.prog 43 #[val b, sw.v] w fun e w' => ∃ r : SlV, e = .returned r.v ∧ True ∧ Cl w [] [ownL 136 r.v (sayC b.bl ws)] w' := by
  have hLw := rd_len hs.here
  have hfb : ∀ i, (soundF b.bl ws i).length ≤ 1000 := fun i => by simp [soundF]; exact rule_small hg
  refine calls_cw (vs := [_, _]) Tryz.func43 rfl Tryz.ntmps43 rfl (Cl.start0 w) (cw_seq (cw_region ?_))
  refine sw_x rfl rfl rfl (e_box rfl rfl rfl) (fun b2 => ?_)
  refine sr rfl rfl rfl ((q_assign rfl rfl)) (sw_nil (post_then (cw_seq (cw_region (sr rfl rfl rfl ((q_assign rfl rfl)) (sw_nil (post_then (cw_seq (cw_seq (cw_region (sr rfl rfl rfl ((q_assign rfl rfl)) (sw_nil (post_then (cw_block ?_))))))))))))))
  refine cw_loop (S := Nat × SlV × List Snd) (fun z => [(1, [], sw.v), (2, [], .pointer (some ⟨b2, 0, none⟩)), (5, [], z.2.1.v), (6, [], .int .i64 z.1)]) (fun z => Cl w [] [ownL 136 z.2.1.v z.2.2, blk b2 [b.b.v] 45]) (fun z => z.1 ≤ ws.length ∧ z.2.2 = (List.range z.1).flatMap (soundF b.bl ws)) (fun z => ws.length - z.1) (0, ⟨none, 0, 0⟩, []) ⟨Nat.zero_le _, rfl⟩ (by exact .cons rfl (.cons rfl (.cons rfl (.cons rfl .nil)))) (fun w' h => Cl.addNil 136 h) ?_
  rintro ⟨k, so, out⟩ ⟨hk, hout⟩
  dsimp only at hk hout ⊢
  refine cw_seq (cw_seq (cw_region (sr rfl rfl rfl ((q_move rfl rfl)) (sr rfl rfl rfl ((q_move rfl rfl)) ?_))))
  refine sr rfl rfl rfl ((q_len rfl (.cons rfl inferInstance (.nil)) (by exact fun w hw => Stb.cl (by assumption) hw))) ?_
  refine sr rfl rfl rfl ((q_lss rfl rfl rfl)) (sw_nil (post_then ?_))
  refine cw_cond rfl (fun h => ?_) (fun h => ?_)
  · skip
    have hk' : k < ws.length := by simp at h; omega
    have hX : Stb w [] (RdL (ruleX b.bl ws k).p.v (ruleX b.bl ws k).pl) := ⟨fun w' h => rule_in hg (hb.stb w' h)⟩
    have hXl : (ruleX b.bl ws k).pl.length ≤ 1000 := rule_small hg
    have hXL := rd_len hX.here
    have hfl : (soundF b.bl ws k).length = (ruleX b.bl ws k).pl.length := by simp [soundF]
    have hob := flat_bd (soundF b.bl ws) hfb k
    have hob2 : k * 1000 ≤ 1000000 := by omega
    refine cw_skip (post_then (cw_seq (cw_block (cw_seq (cw_region ?_)))))
    refine sr rfl rfl rfl ((q_loadA rfl rfl (by exact .tail _ (.head _)) rfl)) ?_
    refine sr rfl rfl rfl ((q_move rfl rfl)) (sr rfl rfl rfl ((q_move rfl rfl)) ?_)
    refine sw_step rfl rfl rfl (q_call (CanCall.mk Tryz.call81) rfl (.cons rfl inferInstance (.cons rfl inferInstance (.cons rfl inferInstance (.nil)))) (fun _ w hw => callq hw (refRule_spec b sw ws k hk' (by omega) hg w (stb_arg hw hb) (stb_arg hw hs)))) ?_
    refine sr rfl rfl rfl ((q_move rfl rfl)) (sr rfl rfl rfl ((q_extract rfl rfl rfl)) (sr rfl rfl rfl ((q_extract rfl rfl rfl)) (sr rfl rfl rfl ((q_assign rfl rfl)) (sr rfl rfl rfl ((q_assign rfl rfl)) (sw_nil (post_then (cw_seq (cw_region (sr rfl rfl rfl ((q_assign rfl rfl)) (sw_nil (post_then (cw_block ?_))))))))))))
    refine cw_loop (S := Nat × SlV × List Snd) (fun z => [(1, [], sw.v), (2, [], .pointer (some ⟨b2, 0, none⟩)), (5, [], z.2.1.v), (6, [], .int .i64 k), (7, [], .int .i64 (ruleN b.bl ws k)), (8, [], (ruleX b.bl ws k).p.v), (9, [], .int .i64 z.1)]) (fun z => Cl w [] [ownL 136 z.2.1.v z.2.2, blk b2 [b.b.v] 45]) (fun z => z.1 ≤ (ruleX b.bl ws k).pl.length ∧ z.2.2 = (List.range k).flatMap (soundF b.bl ws) ++ (soundF b.bl ws k).take z.1) (fun z => (ruleX b.bl ws k).pl.length - z.1) (0, so, out) ⟨Nat.zero_le _, by rw [hout]; simp⟩ (by exact .cons rfl (.cons rfl (.cons rfl (.cons rfl (.cons rfl (.cons rfl (.cons rfl .nil))))))) (fun w' h => h) ?_
    rintro ⟨j, so, out⟩ ⟨hj, hout⟩
    dsimp only at hj hout ⊢
    refine cw_seq (cw_seq (cw_region (sr rfl rfl rfl ((q_move rfl rfl)) (sr rfl rfl rfl ((q_move rfl rfl)) ?_))))
    refine sr rfl rfl rfl ((q_len rfl (.cons rfl inferInstance (.nil)) (by exact fun w hw => Stb.cl (by assumption) hw))) ?_
    refine sr rfl rfl rfl ((q_lss rfl rfl rfl)) (sw_nil (post_then ?_))
    refine cw_cond rfl (fun h2 => ?_) (fun h2 => ?_)
    · skip
      have hj' : j < (ruleX b.bl ws k).pl.length := by simp at h2; omega
      have hol : out.length ≤ 1010000 := by rw [hout, List.length_append, List.length_take]; omega
      refine cw_skip (post_then (cw_seq (cw_block (cw_region (sr rfl rfl rfl ((q_move rfl rfl)) (sr rfl rfl rfl ((q_move rfl rfl)) (sr rfl rfl rfl ((q_move rfl rfl)) ?_)))))))
      refine sr rfl rfl rfl ((q_indexN rfl rfl rfl (by exact fun w hw => Stb.cl (by assumption) hw) (by intro hc; omega))) ?_
      refine sr rfl rfl rfl ((q_loadEl rfl rfl rfl (by exact fun w hw => Stb.cl (by assumption) hw) (by intro hc; omega))) ?_
      refine sr rfl rfl rfl ((q_move rfl rfl)) (sr rfl rfl rfl ((q_move rfl rfl)) (sr rfl rfl rfl ((q_build rfl (.cons rfl inferInstance (.cons rfl inferInstance (.cons rfl inferInstance (.cons rfl inferInstance (.nil))))) rfl)) ?_))
      refine sw_x rfl rfl rfl (e_build1 (α := Snd) (x := (⟨nth (ruleX b.bl ws k).pl j, k, 3, ruleN b.bl ws k⟩ : Snd)) rfl rfl rfl rfl) (fun s37 => ?_)
      refine sw_x rfl rfl rfl (e_append (i := 1) rfl (.cons rfl inferInstance (.cons rfl inferInstance (.nil))) rfl rfl (by exact fun w hw => rd_own hw (by exact .head _)) (by first | omega | (simp only [List.length_set, List.length_append, List.length_cons, List.length_nil, List.length_replicate, List.length_take, List.length_drop, List.length_map]; omega)) rfl) (fun s38 => ?_)
      refine sr rfl rfl rfl ((q_assign rfl rfl)) (sw_nil (post_blk (post_then (cw_region (sr rfl rfl rfl ((q_move rfl rfl)) ?_)))))
      refine sr rfl rfl rfl ((q_add rfl rfl rfl (by intro hc; omega))) ?_
      refine sr rfl rfl rfl ((q_assign rfl rfl)) (sw_nil ?_)
      refine post_next (j + 1, s38, out ++ [(⟨nth (ruleX b.bl ws k).pl j, k, 3, ruleN b.bl ws k⟩ : Snd)]) (by exact .cons rfl (.cons rfl (.cons rfl (.cons rfl (.cons rfl (.cons rfl (.cons rfl .nil))))))) (fun w' h => (fun w h => Cl.sel (by exact .take 1 rfl (.take 1 rfl (.nil _))) w h) _ h) ⟨by simp only; omega, ?_⟩ (by simp only; omega)
      simp only
      rw [hout, List.append_assoc, List.take_succ_eq_append_getElem (by omega : j < (soundF b.bl ws k).length)]
      congr 2
      simp [soundF, nth_get hj']
    · skip
      have hj' : j = (ruleX b.bl ws k).pl.length := by simp at h2; omega
      refine cw_exit (post_then_x (post_then_x (post_blk_eq (post_blk (post_then (cw_region (sr rfl rfl rfl ((q_move rfl rfl)) ?_)))))))
      refine sr rfl rfl rfl ((q_add rfl rfl rfl (by intro hc; omega))) ?_
      refine sr rfl rfl rfl ((q_assign rfl rfl)) (sw_nil ?_)
      refine post_next (k + 1, so, out) (by exact .cons rfl (.cons rfl (.cons rfl (.cons rfl .nil)))) (fun w' h => h) ⟨by simp only; omega, ?_⟩ (by simp only; omega)
      simp only
      rw [hout, range_flat, hj', ← hfl, List.take_length]
  · skip
    have hk' : k = ws.length := by simp at h; omega
    refine cw_exit (post_then_x (post_then_x (post_blk_eq (post_then (cw_seq (cw_region (sr rfl rfl rfl ((q_move rfl rfl)) (sr rfl rfl rfl ((q_assign rfl rfl)) (sw_nil (post_then (cw_ret (post_ret1 rfl (resOk_tmp rfl) ?_))))))))))))
    exact fun w' hw => ⟨so, rfl, trivial, by rw [hk'] at hout; rw [sayC, ← hout]; exact (fun w h => Cl.sel (by exact .take 0 rfl (.nil _)) w h) _ hw⟩
end Go.Proofs.YtkmbliojafefdaaGreatDoor

set_option autoImplicit false
set_option maxRecDepth 100000
namespace Go.Proofs.YtkmbliojafefdaaGreatDoor
open Go.Sx
open Enc (enc val)
instance : DecidableEq Snd := fun a b => decidable_of_iff (a.phone = b.phone ∧ a.fr = b.fr ∧ a.why = b.why ∧ a.ix = b.ix) ⟨fun h => by cases a; cases b; simp at h; simp [h], fun h => by rw [h]; exact ⟨rfl, rfl, rfl, rfl⟩⟩
section
variable {n : Fr} {E : Env} {C : World → Prop} {cs : List Bool} {o : Oper}
theorem neq136 (a b : Snd) (w : World) : (binOp .neq 136 (val a) (val b)).run Tryz.prog w = .ok (.bool (!decide (a = b))) w := by
  obtain ⟨a1, a2, a3, a4⟩ := a
  obtain ⟨b1, b2, b3, b4⟩ := b
  show (binOp .neq 136 (.agg #[.string a1, .int .i64 a2, .int .i64 a3, .int .i64 a4]) (.agg #[.string b1, .int .i64 b2, .int .i64 b3, .int .i64 b4])).run Tryz.prog w = _
  have hin : a1.toList = b1.toList ↔ a1 = b1 := ⟨fun h => by rw [ba_toList, ba_toList] at h; cases a1; cases b1; simp only at h; rw [Array.toList_inj.1 h], fun h => by rw [h]⟩
  simp [go_sem, hin]
  by_cases h1 : a1 = b1 <;> by_cases h2 : a2 = b2 <;> by_cases h3 : a3 = b3 <;> by_cases h4 : a4 = b4 <;> simp [h1, h2, h3, h4]
theorem q_neqSnd {t' : TypeId} {x y : Operand} {cx cy : List Bool} {a b : Snd} (ho : o.op = .binOp .neq 136 x y t') (hx : evl E x = some (cx, val a)) (hy : evl E y = some (cy, val b)) [sx : Sub cx cs] [sy : Sub cy cs] : OpR Tryz.prog n E C cs o (.bool (!decide (a = b))) :=
  .of_run fun ac ha hc w _ => by
    have hg : (eqGuard .neq 136 x y (val a) (val b)).run Tryz.prog w = .ok () w := by kernel_rfl
    unfold execOp; simp only [ho]; rw [ha.eval hx sx hc, ha.eval hy sy hc]
    simp [hg, neq136, Result.andThen]
end
theorem sameSounds_spec (sa sb : Value) (a b : List Snd) (w : World) (ha : Stb w [] (RdL sa a)) (hb : Stb w [] (RdL sb b)) : Calls Tryz.prog 42 #[sa, sb] w fun e w' => e = .returned (.bool (decide (a = b))) ∧ Cl w [] [] w' := by
  have hLa := rd_len ha.here
  have hLb := rd_len hb.here
  refine calls_cw (vs := [_, _]) Tryz.func42 rfl Tryz.ntmps42 rfl (Cl.start0 w) (cw_seq (cw_region (sr rfl rfl rfl ((q_assign rfl rfl)) (sw_nil (post_then (cw_seq (cw_seq (cw_region (sr rfl rfl rfl ((q_move rfl rfl)) ?_)))))))))
  refine sr rfl rfl rfl ((q_len rfl (.cons rfl inferInstance (.nil)) (by exact fun w hw => Stb.cl (by assumption) hw))) ?_
  refine sr rfl rfl rfl ((q_move rfl rfl)) ?_
  refine sr rfl rfl rfl ((q_len rfl (.cons rfl inferInstance (.nil)) (by exact fun w hw => Stb.cl (by assumption) hw))) ?_
  refine sr rfl rfl rfl ((q_neq rfl rfl rfl)) (sw_nil (post_then ?_))
  refine cw_cond rfl (fun h => ?_) (fun h => ?_)
  · skip
    have h2 : ¬ a = b := fun e => by subst e; simp at h
    refine cw_seq (cw_region (sr rfl rfl rfl ((q_assign rfl rfl)) (sw_nil (post_then (cw_ret (post_then_r (post_ret1 rfl (resOk_tmp rfl) ?_)))))))
    exact fun w' hw => ⟨by rw [decide_eq_false h2], hw⟩
  · skip
    have hl : a.length = b.length := by simp at h; omega
    refine cw_skip (post_then (cw_seq (cw_seq (cw_region (sr rfl rfl rfl ((q_assign rfl rfl)) (sw_nil (post_then (cw_block ?_))))))))
    refine cw_loop (S := Nat) (fun k => [(0, [], sa), (1, [], sb), (5, [], .int .i64 k)]) (fun _ => Cl w [] []) (fun k => k ≤ a.length ∧ ∀ j, j < k → nth a j = nth b j) (fun k => a.length - k) 0 ⟨Nat.zero_le _, fun j hj => by omega⟩ (by exact .cons rfl (.cons rfl (.cons rfl .nil))) (fun _ h => h) ?_
    rintro k ⟨hk, hbe⟩
    refine cw_seq (cw_seq (cw_region (sr rfl rfl rfl ((q_move rfl rfl)) (sr rfl rfl rfl ((q_move rfl rfl)) ?_))))
    refine sr rfl rfl rfl ((q_len rfl (.cons rfl inferInstance (.nil)) (by exact fun w hw => Stb.cl (by assumption) hw))) ?_
    refine sr rfl rfl rfl ((q_lss rfl rfl rfl)) (sw_nil (post_then ?_))
    refine cw_cond rfl (fun h2 => ?_) (fun h2 => ?_)
    · skip
      have hk' : k < a.length := by simp at h2; omega
      have hkb : k < b.length := by omega
      refine cw_skip (post_then (cw_seq (cw_block (cw_seq (cw_region_a (Cl w [] []) [] mixed_Tryz ?_)))))
      refine aw_pure 0 rfl (by kernel_rfl) (by kernel_rfl) (by kernel_rfl) (by kernel_rfl) (by kernel_rfl) rfl rfl rfl (q_move rfl rfl) ?_
      refine aw_pure 1 rfl (by kernel_rfl) (by kernel_rfl) (by kernel_rfl) (by kernel_rfl) (by kernel_rfl) rfl rfl rfl (q_move rfl rfl) ?_
      refine aw_take 2 (fun w h => Cl.sel (by exact .nil _) w h) rfl (by kernel_rfl) (by kernel_rfl) (by kernel_rfl) (by kernel_rfl) (by kernel_rfl) (by kernel_rfl) rfl rfl rfl (q_indexN rfl rfl rfl (by exact fun w hw => Stb.cl (by assumption) hw) (by intro hc; omega)) ?_
      refine aw_take 3 (fun w h => Cl.sel (by exact .nil _) w h) rfl (by kernel_rfl) (by kernel_rfl) (by kernel_rfl) (by kernel_rfl) (by kernel_rfl) (by kernel_rfl) rfl rfl rfl (q_loadEl rfl rfl rfl (by exact fun w hw => Stb.cl (by assumption) hw) (by intro hc; omega)) ?_
      refine aw_pure 4 rfl (by kernel_rfl) (by kernel_rfl) (by kernel_rfl) (by kernel_rfl) (by kernel_rfl) rfl rfl rfl (q_move rfl rfl) ?_
      refine aw_pure 5 rfl (by kernel_rfl) (by kernel_rfl) (by kernel_rfl) (by kernel_rfl) (by kernel_rfl) rfl rfl rfl (q_move rfl rfl) ?_
      refine aw_take 6 (fun w h => Cl.sel (by exact .nil _) w h) rfl (by kernel_rfl) (by kernel_rfl) (by kernel_rfl) (by kernel_rfl) (by kernel_rfl) (by kernel_rfl) rfl rfl rfl (q_indexN rfl rfl rfl (by exact fun w hw => Stb.cl (by assumption) hw) (by intro hc; omega)) ?_
      refine aw_take 7 (fun w h => Cl.sel (by exact .nil _) w h) rfl (by kernel_rfl) (by kernel_rfl) (by kernel_rfl) (by kernel_rfl) (by kernel_rfl) (by kernel_rfl) rfl rfl rfl (q_loadEl rfl rfl rfl (by exact fun w hw => Stb.cl (by assumption) hw) (by intro hc; omega)) ?_
      refine aw_take 8 (fun w h => Cl.sel (by exact .nil _) w h) rfl (by kernel_rfl) (by kernel_rfl) (by kernel_rfl) (by kernel_rfl) (by kernel_rfl) (by kernel_rfl) rfl rfl rfl (q_neqSnd (a := nth a k) (b := nth b k) rfl rfl rfl) ?_
      refine aw_end (by kernel_rfl) ?_
      refine post_then ?_
      refine cw_cond rfl (fun h3 => ?_) (fun h3 => ?_)
      · skip
        have h4 : ¬ a = b := fun e => by subst e; simp at h3
        refine cw_seq (cw_region (sr rfl rfl rfl ((q_assign rfl rfl)) (sw_nil (post_then (cw_ret (post_blk_r (post_then_r (post_then_r (post_blk_r (post_then_r (post_ret1 rfl (resOk_tmp rfl) ?_)))))))))))
        exact fun w' hw => ⟨by rw [decide_eq_false h4], hw⟩
      · skip
        have h4 : nth a k = nth b k := by simpa using h3
        refine cw_skip (post_blk (post_then (cw_region (sr rfl rfl rfl ((q_move rfl rfl)) ?_))))
        refine sr rfl rfl rfl ((q_add rfl rfl rfl (by intro hc; omega))) ?_
        refine sr rfl rfl rfl ((q_assign rfl rfl)) (sw_nil ?_)
        exact post_next (k + 1) (by exact .cons rfl (.cons rfl (.cons rfl .nil))) (fun _ h => h) ⟨by omega, fun j hj => by
          rcases Nat.lt_or_ge j k with h5 | h5
          · exact hbe j h5
          · have : j = k := by omega
            subst this; exact h4⟩ (by omega)
    · skip
      have hk' : k = a.length := by simp at h2; omega
      have h4 : a = b := List.ext_getElem hl fun i h5 h6 => by
        have := hbe i (by omega)
        rwa [nth_get h5, nth_get h6] at this
      refine cw_exit (post_then_x (post_then_x (post_blk_eq (post_then (cw_seq (cw_region (sr rfl rfl rfl ((q_assign rfl rfl)) (sw_nil (post_then (cw_ret (post_ret1 rfl (resOk_tmp rfl) ?_)))))))))))
      exact fun w' hw => ⟨by rw [decide_eq_true h4], hw⟩
end Go.Proofs.YtkmbliojafefdaaGreatDoor

set_option autoImplicit false
set_option maxRecDepth 100000
namespace Go.Proofs.YtkmbliojafefdaaGreatDoor
open Go.Sx
open Enc (enc val)
def betC (a b : Tly) : Int := if orL [sgn (b.m * a.n - a.m * b.n), sgn (b.n - a.n), sgn ((a.t.list.length : Int) - b.t.list.length)] ≠ 0 then orL [sgn (b.m * a.n - a.m * b.n), sgn (b.n - a.n), sgn ((a.t.list.length : Int) - b.t.list.length)] else ordBy condC a.t.list b.t.list
def TlyB (x : Tly) : Prop := TTB x.t ∧ (0 ≤ x.n ∧ x.n ≤ 100000000) ∧ (0 ≤ x.m ∧ x.m ≤ 100000000)
theorem list_bd {t : TT} (h : TTB t) : ∀ x ∈ t.list, CondB x := by
  intro x hx
  unfold TT.list at hx
  split at hx
  · simp at hx; subst hx; exact h.1
  · simp at hx; rcases hx with rfl | rfl
    · exact h.1
    · exact h.2
theorem mul_bd {x y : Int} (hx : 0 ≤ x ∧ x ≤ 100000000) (hy : 0 ≤ y ∧ y ≤ 100000000) : 0 ≤ x * y ∧ x * y ≤ 10000000000000000 :=
  ⟨Int.mul_nonneg hx.1 hy.1, Int.le_trans (Int.mul_le_mul hx.2 hy.2 hy.1 (by decide)) (by decide)⟩
theorem better_spec (a b : Tly) (ha : TlyB a) (hb : TlyB b) (w : World) : Calls Tryz.prog 188 #[val a, val b] w fun e w' => e = .returned (.int .i64 (betC a b)) ∧ Cl w [] [] w' := by
  have h1 := mul_bd hb.2.2 ha.2.1
  have h2 := mul_bd ha.2.2 hb.2.1
  obtain ⟨hta, ⟨n1, n2⟩, m1, m2⟩ := ha
  obtain ⟨htb, ⟨n3, n4⟩, m3, m4⟩ := hb
  have hra := list_bd hta
  have hrb := list_bd htb
  refine calls_cw (vs := [_, _]) Tryz.func188 rfl Tryz.ntmps188 rfl (Cl.start0 w) (cw_seq (cw_region ?_))
  refine sw_x rfl rfl rfl (e_box rfl rfl rfl) (fun b2 => ?_)
  refine sw_x rfl rfl rfl (e_box rfl rfl rfl) (fun b3 => ?_)
  refine sr rfl rfl rfl ((q_assign rfl rfl)) (sw_nil (post_then (cw_seq (cw_region_a (Cl w [] [blk b3 (enc b) 213, blk b2 (enc a) 213]) [] mixed_Tryz ?_))))
  refine aw_take 0 (fun w h => Cl.sel (by exact .take 0 rfl (.take 0 rfl (.nil _))) w h) rfl (by kernel_rfl) (by kernel_rfl) (by kernel_rfl) (by kernel_rfl) (by kernel_rfl) (by kernel_rfl) rfl rfl rfl (q_fieldAddr rfl rfl) ?_
  refine aw_take 1 (fun w h => Cl.sel (by exact .take 0 rfl (.take 0 rfl (.nil _))) w h) rfl (by kernel_rfl) (by kernel_rfl) (by kernel_rfl) (by kernel_rfl) (by kernel_rfl) (by kernel_rfl) rfl rfl rfl (q_loadA rfl rfl (by exact .tail _ (.head _)) rfl) ?_
  refine aw_take 3 (fun w h => Cl.sel (by exact .take 0 rfl (.take 0 rfl (.nil _))) w h) rfl (by kernel_rfl) (by kernel_rfl) (by kernel_rfl) (by kernel_rfl) (by kernel_rfl) (by kernel_rfl) rfl rfl rfl (q_fieldAddr rfl rfl) ?_
  refine aw_take 4 (fun w h => Cl.sel (by exact .take 0 rfl (.take 0 rfl (.nil _))) w h) rfl (by kernel_rfl) (by kernel_rfl) (by kernel_rfl) (by kernel_rfl) (by kernel_rfl) (by kernel_rfl) rfl rfl rfl (q_loadA rfl rfl (by exact .head _) rfl) ?_
  refine aw_x 2 (by kernel_rfl) rfl rfl rfl rfl (e_call (CanCall.mk Tryz.call151) rfl (.cons rfl inferInstance (.nil)) (fun w1 hw => list_spec a.t w1)) (by intro hb; exact fun _ w h => (fun w h => Cl.sel (by exact .take 1 rfl (.take 1 rfl (.nil _))) w h) w h.2) (fun s10 => ?_)
  refine aw_imp fun _ => ?_
  refine aw_x 5 (by kernel_rfl) rfl rfl rfl rfl (e_call (CanCall.mk Tryz.call151) rfl (.cons rfl inferInstance (.nil)) (fun w1 hw => list_spec b.t w1)) (by intro hb; exact fun _ w h => (fun w h => Cl.sel (by exact .take 2 rfl (.take 2 rfl (.nil _))) w h) w h.2) (fun s13 => ?_)
  refine aw_imp fun _ => ?_
  refine aw_pure 6 rfl (by kernel_rfl) (by kernel_rfl) (by kernel_rfl) (by kernel_rfl) (by kernel_rfl) rfl rfl rfl (q_assign rfl rfl) ?_
  refine aw_pure 7 rfl (by kernel_rfl) (by kernel_rfl) (by kernel_rfl) (by kernel_rfl) (by kernel_rfl) rfl rfl rfl (q_assign rfl rfl) ?_
  refine aw_end (by kernel_rfl) ?_
  refine post_then (cw_seq (cw_seq (cw_region_a (Cl w [] [ownL 109 s13.v b.t.list, ownL 109 s10.v a.t.list, blk b3 (enc b) 213, blk b2 (enc a) 213]) [] mixed_Tryz ?_)))
  refine aw_take 0 (fun w h => Cl.sel (by exact .take 0 rfl (.take 0 rfl (.take 0 rfl (.take 0 rfl (.nil _))))) w h) rfl (by kernel_rfl) (by kernel_rfl) (by kernel_rfl) (by kernel_rfl) (by kernel_rfl) (by kernel_rfl) rfl rfl rfl (q_fieldAddr rfl rfl) ?_
  refine aw_take 1 (fun w h => Cl.sel (by exact .take 0 rfl (.take 0 rfl (.take 0 rfl (.take 0 rfl (.nil _))))) w h) rfl (by kernel_rfl) (by kernel_rfl) (by kernel_rfl) (by kernel_rfl) (by kernel_rfl) (by kernel_rfl) rfl rfl rfl (q_loadC rfl rfl (by exact .tail _ (.tail _ (.head _))) rfl) ?_
  refine aw_take 2 (fun w h => Cl.sel (by exact .take 0 rfl (.take 0 rfl (.take 0 rfl (.take 0 rfl (.nil _))))) w h) rfl (by kernel_rfl) (by kernel_rfl) (by kernel_rfl) (by kernel_rfl) (by kernel_rfl) (by kernel_rfl) rfl rfl rfl (q_fieldAddr rfl rfl) ?_
  refine aw_take 3 (fun w h => Cl.sel (by exact .take 0 rfl (.take 0 rfl (.take 0 rfl (.take 0 rfl (.nil _))))) w h) rfl (by kernel_rfl) (by kernel_rfl) (by kernel_rfl) (by kernel_rfl) (by kernel_rfl) (by kernel_rfl) rfl rfl rfl (q_loadC rfl rfl (by exact .tail _ (.tail _ (.tail _ (.head _)))) rfl) ?_
  refine aw_pure 4 rfl (by kernel_rfl) (by kernel_rfl) (by kernel_rfl) (by kernel_rfl) (by kernel_rfl) rfl rfl rfl (q_mul rfl rfl rfl (by intro hc; omega)) ?_
  refine aw_take 5 (fun w h => Cl.sel (by exact .take 0 rfl (.take 0 rfl (.take 0 rfl (.take 0 rfl (.nil _))))) w h) rfl (by kernel_rfl) (by kernel_rfl) (by kernel_rfl) (by kernel_rfl) (by kernel_rfl) (by kernel_rfl) rfl rfl rfl (q_fieldAddr rfl rfl) ?_
  refine aw_take 6 (fun w h => Cl.sel (by exact .take 0 rfl (.take 0 rfl (.take 0 rfl (.take 0 rfl (.nil _))))) w h) rfl (by kernel_rfl) (by kernel_rfl) (by kernel_rfl) (by kernel_rfl) (by kernel_rfl) (by kernel_rfl) rfl rfl rfl (q_loadC rfl rfl (by exact .tail _ (.tail _ (.tail _ (.head _)))) rfl) ?_
  refine aw_take 7 (fun w h => Cl.sel (by exact .take 0 rfl (.take 0 rfl (.take 0 rfl (.take 0 rfl (.nil _))))) w h) rfl (by kernel_rfl) (by kernel_rfl) (by kernel_rfl) (by kernel_rfl) (by kernel_rfl) (by kernel_rfl) rfl rfl rfl (q_fieldAddr rfl rfl) ?_
  refine aw_take 8 (fun w h => Cl.sel (by exact .take 0 rfl (.take 0 rfl (.take 0 rfl (.take 0 rfl (.nil _))))) w h) rfl (by kernel_rfl) (by kernel_rfl) (by kernel_rfl) (by kernel_rfl) (by kernel_rfl) (by kernel_rfl) rfl rfl rfl (q_loadC rfl rfl (by exact .tail _ (.tail _ (.head _))) rfl) ?_
  refine aw_pure 9 rfl (by kernel_rfl) (by kernel_rfl) (by kernel_rfl) (by kernel_rfl) (by kernel_rfl) rfl rfl rfl (q_mul rfl rfl rfl (by intro hc; omega)) ?_
  refine aw_take 11 (fun w h => Cl.sel (by exact .take 0 rfl (.take 0 rfl (.take 0 rfl (.take 0 rfl (.nil _))))) w h) rfl (by kernel_rfl) (by kernel_rfl) (by kernel_rfl) (by kernel_rfl) (by kernel_rfl) (by kernel_rfl) rfl rfl rfl (q_fieldAddr rfl rfl) ?_
  refine aw_take 12 (fun w h => Cl.sel (by exact .take 0 rfl (.take 0 rfl (.take 0 rfl (.take 0 rfl (.nil _))))) w h) rfl (by kernel_rfl) (by kernel_rfl) (by kernel_rfl) (by kernel_rfl) (by kernel_rfl) (by kernel_rfl) rfl rfl rfl (q_loadC rfl rfl (by exact .tail _ (.tail _ (.head _))) rfl) ?_
  refine aw_take 13 (fun w h => Cl.sel (by exact .take 0 rfl (.take 0 rfl (.take 0 rfl (.take 0 rfl (.nil _))))) w h) rfl (by kernel_rfl) (by kernel_rfl) (by kernel_rfl) (by kernel_rfl) (by kernel_rfl) (by kernel_rfl) rfl rfl rfl (q_fieldAddr rfl rfl) ?_
  refine aw_take 14 (fun w h => Cl.sel (by exact .take 0 rfl (.take 0 rfl (.take 0 rfl (.take 0 rfl (.nil _))))) w h) rfl (by kernel_rfl) (by kernel_rfl) (by kernel_rfl) (by kernel_rfl) (by kernel_rfl) (by kernel_rfl) rfl rfl rfl (q_loadC rfl rfl (by exact .tail _ (.tail _ (.tail _ (.head _)))) rfl) ?_
  refine aw_pure 16 rfl (by kernel_rfl) (by kernel_rfl) (by kernel_rfl) (by kernel_rfl) (by kernel_rfl) rfl rfl rfl (q_move rfl rfl) ?_
  refine aw_take 17 (fun w h => Cl.sel (by exact .take 0 rfl (.take 0 rfl (.take 0 rfl (.take 0 rfl (.nil _))))) w h) rfl (by kernel_rfl) (by kernel_rfl) (by kernel_rfl) (by kernel_rfl) (by kernel_rfl) (by kernel_rfl) rfl rfl rfl (q_len rfl (.cons rfl inferInstance (.nil)) (by exact fun w hw => rd_own hw (by exact .tail _ (.head _)))) ?_
  refine aw_pure 18 rfl (by kernel_rfl) (by kernel_rfl) (by kernel_rfl) (by kernel_rfl) (by kernel_rfl) rfl rfl rfl (q_move rfl rfl) ?_
  refine aw_take 19 (fun w h => Cl.sel (by exact .take 0 rfl (.take 0 rfl (.take 0 rfl (.take 0 rfl (.nil _))))) w h) rfl (by kernel_rfl) (by kernel_rfl) (by kernel_rfl) (by kernel_rfl) (by kernel_rfl) (by kernel_rfl) rfl rfl rfl (q_len rfl (.cons rfl inferInstance (.nil)) (by exact fun w hw => rd_own hw (by exact .head _))) ?_
  refine aw_q 10 (by kernel_rfl) rfl rfl rfl rfl (q_call (CanCall.mk Tryz.call203) rfl (.cons rfl inferInstance (.cons rfl inferInstance (.nil))) (fun _ w hw => callq hw (compareI_spec _ _ w))) (by intro hb; exact (fun w h => Cl.sel (by exact .take 0 rfl (.take 0 rfl (.take 0 rfl (.take 0 rfl (.nil _))))) w h)) ?_
  refine aw_q 15 (by kernel_rfl) rfl rfl rfl rfl (q_call (CanCall.mk Tryz.call203) rfl (.cons rfl inferInstance (.cons rfl inferInstance (.nil))) (fun _ w hw => callq hw (compareI_spec _ _ w))) (by intro hb; exact (fun w h => Cl.sel (by exact .take 0 rfl (.take 0 rfl (.take 0 rfl (.take 0 rfl (.nil _))))) w h)) ?_
  refine aw_q 20 (by kernel_rfl) rfl rfl rfl rfl (q_call (CanCall.mk Tryz.call203) rfl (.cons rfl inferInstance (.cons rfl inferInstance (.nil))) (fun _ w hw => callq hw (compareI_spec _ _ w))) (by intro hb; exact (fun w h => Cl.sel (by exact .take 0 rfl (.take 0 rfl (.take 0 rfl (.take 0 rfl (.nil _))))) w h)) ?_
  refine aw_x 21 (by kernel_rfl) rfl rfl rfl rfl (e_buildL (α := Int) (l := [sgn (b.m * a.n - a.m * b.n), sgn (b.n - a.n), sgn ((a.t.list.length : Int) - b.t.list.length)]) rfl (.cons rfl inferInstance (.cons rfl inferInstance (.cons rfl inferInstance (.nil)))) rfl rfl rfl rfl) (by intro hb; exact fun _ => (fun w h => Cl.sel (by exact .take 1 rfl (.take 1 rfl (.take 1 rfl (.take 1 rfl (.nil _))))) w h)) (fun s35 => ?_)
  refine aw_q 22 (by kernel_rfl) rfl rfl rfl rfl (q_call (CanCall.mk Tryz.call141) rfl (.cons rfl inferInstance (.nil)) (fun _ w hw => callq hw (or_spec _ _ w (by exact stb_own hw (by exact .head _))))) (by intro hb; exact (fun w h => Cl.sel (by exact .take 1 rfl (.take 1 rfl (.take 1 rfl (.take 1 rfl (.nil _))))) w h)) ?_
  refine aw_pure 23 rfl (by kernel_rfl) (by kernel_rfl) (by kernel_rfl) (by kernel_rfl) (by kernel_rfl) rfl rfl rfl (q_assign rfl rfl) ?_
  refine aw_end (by kernel_rfl) ?_
  refine post_then (cw_seq (cw_region (sr rfl rfl rfl ((q_move rfl rfl)) (sr rfl rfl rfl ((q_neq rfl rfl rfl)) (sw_nil (post_then ?_))))))
  refine cw_cond rfl (fun h => ?_) (fun h => ?_)
  · skip
    have h3 : betC a b = orL [sgn (b.m * a.n - a.m * b.n), sgn (b.n - a.n), sgn ((a.t.list.length : Int) - b.t.list.length)] := by unfold betC; rw [if_pos (by simpa using h)]
    refine cw_seq (cw_region (sr rfl rfl rfl ((q_move rfl rfl)) (sr rfl rfl rfl ((q_assign rfl rfl)) (sw_nil (post_then (cw_ret (post_then_r (post_ret1 rfl (resOk_tmp rfl) ?_))))))))
    exact fun w' hw => ⟨by rw [h3], (fun w h => Cl.sel (by exact .nil _) w h) _ hw⟩
  · skip
    have h3 : betC a b = ordBy condC a.t.list b.t.list := by unfold betC; rw [if_neg (by simpa using h)]
    refine cw_skip (post_then (cw_seq (cw_region (sr rfl rfl rfl ((q_move rfl rfl)) (sr rfl rfl rfl ((q_move rfl rfl)) ?_)))))
    refine sw_step rfl rfl rfl (q_call (CanCall.mk Tryz.call204) rfl (.cons rfl inferInstance (.cons rfl inferInstance (.cons rfl inferInstance (.nil)))) (fun _ w1 hw => callq hw (compareF_spec _ _ a.t.list b.t.list 205 condC (CanCall.mk Tryz.call205) (fun x hx y hy w' => byCond_spec x y (hra x hx) (hrb y hy) w') w1 (by exact stb_own hw (by exact .tail _ (.tail _ (.head _)))) (by exact stb_own hw (by exact .tail _ (.head _)))))) ?_
    refine sr rfl rfl rfl ((q_assign rfl rfl)) (sw_nil (post_then (cw_ret (post_ret1 rfl (resOk_tmp rfl) ?_))))
    exact fun w' hw => ⟨by rw [h3], (fun w h => Cl.sel (by exact .nil _) w h) _ hw⟩
def minBy {α : Type} [Inhabited α] (c : α → α → Int) (l : List α) : α := (l.drop 1).foldl (fun m x => if c x m < 0 then x else m) (nth l 0)
theorem minBy_mem {α : Type} [Inhabited α] (c : α → α → Int) {l : List α} (h : 0 < l.length) : minBy c l ∈ l := by
  have key : ∀ (r : List α) (m : α), r.foldl (fun m x => if c x m < 0 then x else m) m ∈ m :: r := by
    intro r
    induction r with
    | nil => intro m; simp
    | cons x r ih =>
      intro m
      rw [List.foldl_cons]
      have := ih (if c x m < 0 then x else m)
      split at this <;> rename_i h2
      · rw [if_pos h2]; exact .tail _ this
      · rw [if_neg h2]
        rcases List.mem_cons.1 this with e | e
        · rw [e]; exact .head _
        · exact .tail _ (.tail _ e)
  have := key (l.drop 1) (nth l 0)
  rcases List.mem_cons.1 this with e | e
  · unfold minBy; rw [e]; exact nth_mem h
  · exact List.mem_of_mem_drop e
theorem minFunc_spec (sv : Value) (xs : List Tly) (g : FuncId) (c : Tly → Tly → Int) (R : World → Prop) (hgc : CanCall Tryz.prog g) (h0 : 0 < xs.length) (w : World) (hs : Stb w [] (RdL sv xs)) (hR : Stb w [] R) (hg : CmpL Tryz.prog g #[] c R xs) :
    Calls Tryz.prog 187 #[sv, .func (.func g) #[] #[]] w fun e w' => e = .returned (val (minBy c xs)) ∧ Cl w [] [] w' := by
  have hL := rd_len hs.here
  refine calls_cw (vs := [_, _]) Tryz.func187 rfl Tryz.ntmps187 rfl (Cl.start0 w) (cw_seq (cw_region ?_))
  refine sw_x rfl rfl rfl (e_alloc rfl) (fun b4 => ?_)
  refine sw_nil (post_then (cw_seq (cw_seq (cw_region (sr rfl rfl rfl ((q_move rfl rfl)) ?_)))))
  refine sr rfl rfl rfl ((q_len rfl (.cons rfl inferInstance (.nil)) (by exact fun w hw => Stb.cl (by assumption) hw))) ?_
  refine sr rfl rfl rfl ((q_lss rfl rfl rfl)) (sw_nil (post_then ?_))
  refine cw_cond rfl (fun h => ?_) (fun h => ?_)
  · skip
    exfalso; simp at h; omega
  · skip
    refine cw_skip (post_then (cw_seq (cw_region (sr rfl rfl rfl ((q_move rfl rfl)) ?_))))
    refine sr rfl rfl rfl ((q_indexN rfl rfl rfl (by exact fun w hw => Stb.cl (by assumption) hw) (by intro hc; omega))) ?_
    refine sr rfl rfl rfl ((q_loadEl rfl rfl rfl (by exact fun w hw => Stb.cl (by assumption) hw) (by intro hc; omega))) ?_
    refine sw_x rfl rfl rfl (e_alloc rfl) (fun b5 => ?_)
    refine sw_eff0 rfl rfl (e_store (i := 0) rfl rfl rfl rfl rfl rfl rfl rfl) (sw_nil (post_then (cw_seq (cw_seq (cw_region (sr rfl rfl rfl ((q_assign rfl rfl)) (sw_nil (post_then (cw_block ?_)))))))))
    refine cw_loop (S := Nat × Tly) (fun y => [(0, [], sv), (1, [], .func (.func g) #[] #[]), (4, [], .pointer (some ⟨b4, 0, none⟩)), (5, [], .pointer (some ⟨b5, 0, none⟩)), (6, [], .int .i64 y.1)]) (fun y => Cl w [] [blk b5 (enc y.2) 213, blk b4 (enc (default : Tly)) 213]) (fun y => 1 ≤ y.1 ∧ y.1 ≤ xs.length ∧ y.2 ∈ xs ∧ minBy c xs = (xs.drop y.1).foldl (fun m x => if c x m < 0 then x else m) y.2) (fun y => xs.length - y.1) (1, nth xs 0) ⟨Nat.le_refl _, h0, nth_mem h0, rfl⟩ (by exact .cons rfl (.cons rfl (.cons rfl (.cons rfl (.cons rfl .nil))))) (fun _ h => h) ?_
    rintro ⟨k, m⟩ ⟨hk0, hk, hm, hf⟩
    dsimp only at hk0 hk hm hf ⊢
    refine cw_seq (cw_seq (cw_region (sr rfl rfl rfl ((q_move rfl rfl)) (sr rfl rfl rfl ((q_move rfl rfl)) ?_))))
    refine sr rfl rfl rfl ((q_len rfl (.cons rfl inferInstance (.nil)) (by exact fun w hw => Stb.cl (by assumption) hw))) ?_
    refine sr rfl rfl rfl ((q_lss rfl rfl rfl)) (sw_nil (post_then ?_))
    refine cw_cond rfl (fun h2 => ?_) (fun h2 => ?_)
    · skip
      have hk' : k < xs.length := by simp at h2; omega
      have hst : minBy c xs = (xs.drop (k + 1)).foldl (fun m x => if c x m < 0 then x else m) (if c (nth xs k) m < 0 then nth xs k else m) := by
        rw [hf, List.drop_eq_getElem_cons hk', List.foldl_cons, ← nth_get hk']
      refine cw_skip (post_then (cw_seq (cw_block (cw_seq (cw_region_a (Cl w [] [blk b5 (enc m) 213, blk b4 (enc (default : Tly)) 213]) [] mixed_Tryz ?_)))))
      refine aw_pure 0 rfl (by kernel_rfl) (by kernel_rfl) (by kernel_rfl) (by kernel_rfl) (by kernel_rfl) rfl rfl rfl (q_move rfl rfl) ?_
      refine aw_pure 1 rfl (by kernel_rfl) (by kernel_rfl) (by kernel_rfl) (by kernel_rfl) (by kernel_rfl) rfl rfl rfl (q_move rfl rfl) ?_
      refine aw_pure 2 rfl (by kernel_rfl) (by kernel_rfl) (by kernel_rfl) (by kernel_rfl) (by kernel_rfl) rfl rfl rfl (q_move rfl rfl) ?_
      refine aw_take 3 (fun w h => Cl.sel (by exact .take 0 rfl (.take 0 rfl (.nil _))) w h) rfl (by kernel_rfl) (by kernel_rfl) (by kernel_rfl) (by kernel_rfl) (by kernel_rfl) (by kernel_rfl) rfl rfl rfl (q_indexN rfl rfl rfl (by exact fun w hw => Stb.cl (by assumption) hw) (by intro hc; omega)) ?_
      refine aw_take 4 (fun w h => Cl.sel (by exact .take 0 rfl (.take 0 rfl (.nil _))) w h) rfl (by kernel_rfl) (by kernel_rfl) (by kernel_rfl) (by kernel_rfl) (by kernel_rfl) (by kernel_rfl) rfl rfl rfl (q_loadEl rfl rfl rfl (by exact fun w hw => Stb.cl (by assumption) hw) (by intro hc; omega)) ?_
      refine aw_take 5 (fun w h => Cl.sel (by exact .take 0 rfl (.take 0 rfl (.nil _))) w h) rfl (by kernel_rfl) (by kernel_rfl) (by kernel_rfl) (by kernel_rfl) (by kernel_rfl) (by kernel_rfl) rfl rfl rfl (q_loadA rfl rfl (by exact .head _) rfl) ?_
      refine aw_q 6 (by kernel_rfl) rfl rfl rfl rfl (q_callv hgc rfl rfl (.cons rfl inferInstance (.cons rfl inferInstance (.nil))) (fun _ w' hw => callq hw (hg (nth xs k) (nth_mem hk') m hm w' (hR.cl hw)))) (by intro hb; exact (fun w h => Cl.sel (by exact .take 0 rfl (.take 0 rfl (.nil _))) w h)) ?_
      refine aw_pure 7 rfl (by kernel_rfl) (by kernel_rfl) (by kernel_rfl) (by kernel_rfl) (by kernel_rfl) rfl rfl rfl (q_lss rfl rfl rfl) ?_
      refine aw_end (by kernel_rfl) ?_
      refine post_then ?_
      refine cw_cond rfl (fun h3 => ?_) (fun h3 => ?_)
      · skip
        rw [if_pos (by simpa using h3)] at hst
        refine cw_region (sr rfl rfl rfl ((q_move rfl rfl)) (sr rfl rfl rfl ((q_move rfl rfl)) ?_))
        refine sr rfl rfl rfl ((q_indexN rfl rfl rfl (by exact fun w hw => Stb.cl (by assumption) hw) (by intro hc; omega))) ?_
        refine sr rfl rfl rfl ((q_loadEl rfl rfl rfl (by exact fun w hw => Stb.cl (by assumption) hw) (by intro hc; omega))) ?_
        refine sw_eff0 rfl rfl (e_store (i := 0) rfl rfl rfl rfl rfl rfl rfl rfl) (sw_nil (post_blk (post_then (cw_region (sr rfl rfl rfl ((q_move rfl rfl)) ?_)))))
        refine sr rfl rfl rfl ((q_add rfl rfl rfl (by intro hc; omega))) ?_
        refine sr rfl rfl rfl ((q_assign rfl rfl)) (sw_nil ?_)
        exact post_next (k + 1, nth xs k) (by exact .cons rfl (.cons rfl (.cons rfl (.cons rfl (.cons rfl .nil))))) (fun _ h => (fun w h => Cl.sel (by exact .take 0 rfl (.take 0 rfl (.nil _))) w h) _ h) ⟨by simp only; omega, by simp only; omega, nth_mem hk', hst⟩ (by simp only; omega)
      · skip
        rw [if_neg (by simpa using h3)] at hst
        refine cw_skip (post_blk (post_then (cw_region (sr rfl rfl rfl ((q_move rfl rfl)) ?_))))
        refine sr rfl rfl rfl ((q_add rfl rfl rfl (by intro hc; omega))) ?_
        refine sr rfl rfl rfl ((q_assign rfl rfl)) (sw_nil ?_)
        exact post_next (k + 1, m) (by exact .cons rfl (.cons rfl (.cons rfl (.cons rfl (.cons rfl .nil))))) (fun _ h => (fun w h => Cl.sel (by exact .take 0 rfl (.take 0 rfl (.nil _))) w h) _ h) ⟨by simp only; omega, by simp only; omega, hm, hst⟩ (by simp only; omega)
    · skip
      have hk' : k = xs.length := by simp at h2; omega
      subst hk'
      rw [List.drop_length, List.foldl_nil] at hf
      refine cw_exit (post_then_x (post_then_x (post_blk_eq (post_then (cw_seq (cw_region ?_))))))
      refine sr rfl rfl rfl ((q_loadA rfl rfl (by exact .head _) rfl)) ?_
      refine sw_eff0 rfl rfl (e_store (i := 1) rfl rfl rfl rfl rfl rfl rfl rfl) (sw_nil (post_then (cw_ret ?_)))
      refine post_ret1 rfl (resOk_blk (x := _) rfl (by exact .tail _ (.head _)) (by rfl)) ?_
      exact fun w' hw => ⟨by rw [hf], (fun w h => Cl.sel (by exact .nil _) w h) _ hw⟩
end Go.Proofs.YtkmbliojafefdaaGreatDoor
