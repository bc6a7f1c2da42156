import Derived.Test.YtekikelejncgeaaUI
set_option autoImplicit false
set_option linter.unusedSimpArgs false
set_option linter.unusedVariables false
set_option maxRecDepth 100000
namespace Go.Proofs.Ytekikelejncgeaa
open Go.Sx
open Enc (enc val)

/-- l' is l with what lies from a to m and from m to b turned. -/
def IsRot (l l' : List Int) (a m b : Nat) : Prop := ∀ k, nth l' k = if a ≤ k ∧ k < a + (b - m) then nth l (k + (m - a)) else if a + (b - m) ≤ k ∧ k < b then nth l (k - (b - m)) else nth l k
theorem rot_left {l l' : List Int} {m i j : Nat} (hj : 1 ≤ j) (hij : j < i) (him : i ≤ m) (hb : m + j ≤ l.length) (h : IsRot (swR l (m - i) m j) l' (m - (i - j)) m (m + j)) : IsRot l l' (m - i) m (m + j) := by
  intro k
  rw [h k]
  simp only [swR_nth (show m - i + j ≤ m by omega) hb j (Nat.le_refl _)]
  repeat' split
  all_goals first | (exfalso; omega) | (congr 1; omega) | rfl
theorem rot_right {l l' : List Int} {m i j : Nat} (hi : 1 ≤ i) (hij : i < j) (him : i ≤ m) (hb : m + j ≤ l.length) (h : IsRot (swR l (m - i) (m + j - i) i) l' (m - i) m (m + (j - i))) : IsRot l l' (m - i) m (m + j) := by
  intro k
  rw [h k]
  simp only [swR_nth (show m - i + i ≤ m + j - i by omega) (show m + j - i + i ≤ l.length by omega) i (Nat.le_refl _)]
  repeat' split
  all_goals first | (exfalso; omega) | (congr 1; omega) | rfl
theorem rot_same {l : List Int} {m i : Nat} (hi : 1 ≤ i) (him : i ≤ m) (hb : m + i ≤ l.length) : IsRot l (swR l (m - i) m i) (m - i) m (m + i) := by
  intro k
  rw [swR_nth (show m - i + i ≤ m by omega) hb i (Nat.le_refl _)]
  repeat' split
  all_goals first | (exfalso; omega) | (congr 1; omega) | rfl
theorem rotate_spec (sv : SlV) (l : List Int) (a m b : Nat) (g : FuncId) (cap : Array Value) (ai mi bi : Int) (hai : ai = a) (hmi : mi = m) (hbi : bi = b) (ham : a < m) (hmb : m < b) (hb : b ≤ l.length) (hl : l.length ≤ 1000000) (w : World) (bs : List Nat) (hs : Sep [ownL 3 sv.v l] w bs) (hn : bs.Nodup) (hlt : ∀ b ∈ bs, b < w.heap.size) :
    Calls Try.prog 103 #[sv.v, .int .i64 ai, .int .i64 mi, .int .i64 bi, .func (.func g) #[] cap] w fun e w' => ∃ l' : List Int, e = .returned (.tuple #[]) ∧ (Mix l l' a b ∧ IsRot l l' a m b) ∧ Cl w bs [ownL 3 sv.v l'] w' := by
  subst hai hmi hbi
  refine calls_cw (vs := [_, _, _, _, _]) Try.func103 rfl Try.ntmps103 rfl (Cl.start hs hn hlt) ?_
  refine cw_seq ?_
  -- region 0
  refine cw_region ?_
  refine sw_step rfl rfl rfl (OpR.q (q_move rfl rfl)) ?_
  refine sw_step rfl rfl rfl (OpR.q (q_move rfl rfl)) ?_
  refine sw_step rfl rfl rfl (OpR.q (q_sub rfl rfl rfl (by intro hc; first | omega | (simp only [List.length_set, List.length_append, List.length_cons, List.length_nil, List.length_replicate, List.length_take, List.length_drop, List.length_map]; omega) | (simp only [AllT.iff, List.all_cons, List.all_nil, id, Bool.and_eq_true, Bool.not_eq_true', decide_eq_true_eq, decide_eq_false_iff_not, and_true] at hc; first | omega | (simp only [List.length_set, List.length_append, List.length_cons, List.length_nil, List.length_replicate, List.length_take, List.length_drop, List.length_map]; omega)) | (exfalso; simp_all [AllT]; done)))) ?_
  refine sw_step rfl rfl rfl (OpR.q (q_assign rfl rfl)) ?_
  refine sw_nil ?_
  refine post_then ?_
  refine cw_seq ?_
  -- region 1
  refine cw_region ?_
  refine sw_step rfl rfl rfl (OpR.q (q_move rfl rfl)) ?_
  refine sw_step rfl rfl rfl (OpR.q (q_move rfl rfl)) ?_
  refine sw_step rfl rfl rfl (OpR.q (q_sub rfl rfl rfl (by intro hc; first | omega | (simp only [List.length_set, List.length_append, List.length_cons, List.length_nil, List.length_replicate, List.length_take, List.length_drop, List.length_map]; omega) | (simp only [AllT.iff, List.all_cons, List.all_nil, id, Bool.and_eq_true, Bool.not_eq_true', decide_eq_true_eq, decide_eq_false_iff_not, and_true] at hc; first | omega | (simp only [List.length_set, List.length_append, List.length_cons, List.length_nil, List.length_replicate, List.length_take, List.length_drop, List.length_map]; omega)) | (exfalso; simp_all [AllT]; done)))) ?_
  refine sw_step rfl rfl rfl (OpR.q (q_assign rfl rfl)) ?_
  refine sw_nil ?_
  refine post_then ?_
  refine cw_seq ?_
  refine cw_block ?_
  -- STOP at: loop
  refine cw_loop (S := Nat × Nat × List Int) (fun y => [(0, [], sv.v), (2, [], .int .i64 m), (4, [], .func (.func g) #[] cap), (10, [], .int .i64 y.1), (11, [], .int .i64 y.2.1)]) (fun y => Cl w bs [ownL 3 sv.v y.2.2])
    (fun y => (1 ≤ y.1 ∧ y.1 ≤ m - a) ∧ (1 ≤ y.2.1 ∧ y.2.1 ≤ b - m) ∧ Mix l y.2.2 a b ∧ ∀ l', IsRot y.2.2 l' (m - y.1) m (m + y.2.1) → IsRot l l' a m b) (fun y => y.1 + y.2.1) (m - a, b - m, l) ⟨by simp only; omega, by simp only; omega, .refl _ _ _, fun l' h => by simp only at h; rwa [show m - (m - a) = a by omega, show m + (b - m) = b by omega] at h⟩ (by (repeat first | exact Le.nil | refine Le.cons rfl ?_ | refine Le.cons' rfl (by congr 1; first | omega | (simp only; omega)) ?_)) (fun _ h => h) ?_
  rintro ⟨i, j, u⟩ ⟨⟨hi1, hi2⟩, ⟨hj1, hj2⟩, hu, hr⟩
  dsimp only at hi1 hi2 hj1 hj2 hu hr ⊢
  have hul := hu.len
  refine cw_seq ?_
  refine cw_seq ?_
  -- region 2
  refine cw_region ?_
  refine sw_step rfl rfl rfl (OpR.q (q_move rfl rfl)) ?_
  refine sw_step rfl rfl rfl (OpR.q (q_move rfl rfl)) ?_
  refine sw_step rfl rfl rfl (OpR.q (q_neq rfl rfl rfl)) ?_
  refine sw_nil ?_
  refine post_then ?_
  -- STOP at: cond
  refine cw_cond rfl (fun h => ?_) (fun h => ?_)
  · skip
    have hne : i ≠ j := by simp at h; omega
    refine cw_skip ?_
    refine post_then ?_
    refine cw_block ?_
    refine cw_seq ?_
    -- region 3
    refine cw_region ?_
    refine sw_step rfl rfl rfl (OpR.q (q_move rfl rfl)) ?_
    refine sw_step rfl rfl rfl (OpR.q (q_move rfl rfl)) ?_
    refine sw_step rfl rfl rfl (OpR.q (q_gtr rfl rfl rfl)) ?_
    refine sw_nil ?_
    refine post_then ?_
    -- STOP at: cond
    refine cw_cond rfl (fun h2 => ?_) (fun h2 => ?_)
    · skip
      have hij : j < i := by simp only [decide_eq_true_eq] at h2; omega
      refine cw_seq ?_
      -- region 4
      refine cw_region ?_
      refine sw_step rfl rfl rfl (OpR.q (q_move rfl rfl)) ?_
      refine sw_step rfl rfl rfl (OpR.q (q_move rfl rfl)) ?_
      refine sw_step rfl rfl rfl (OpR.q (q_move rfl rfl)) ?_
      refine sw_step rfl rfl rfl (OpR.q (q_sub rfl rfl rfl (by intro hc; first | omega | (simp only [List.length_set, List.length_append, List.length_cons, List.length_nil, List.length_replicate, List.length_take, List.length_drop, List.length_map]; omega) | (simp only [AllT.iff, List.all_cons, List.all_nil, id, Bool.and_eq_true, Bool.not_eq_true', decide_eq_true_eq, decide_eq_false_iff_not, and_true] at hc; first | omega | (simp only [List.length_set, List.length_append, List.length_cons, List.length_nil, List.length_replicate, List.length_take, List.length_drop, List.length_map]; omega)) | (exfalso; simp_all [AllT]; done)))) ?_
      refine sw_step rfl rfl rfl (OpR.q (q_move rfl rfl)) ?_
      refine sw_step rfl rfl rfl (OpR.q (q_move rfl rfl)) ?_
      refine sw_step rfl rfl rfl (OpR.q (q_move rfl rfl)) ?_
      -- STOP at: t31  := call {callee=(value F106), args=[t24, t27, t28, t29, t30], argTypes=[37, 3, 3, 3, 29]} :0
      refine sw_x rfl rfl rfl (e_callH (A := [ownL 3 sv.v u]) (F := []) (CanCall.mk Try.call106) rfl rfl (.cons rfl inferInstance (.cons rfl inferInstance (.cons rfl inferInstance (.cons rfl inferInstance (.cons rfl inferInstance (.nil)))))) (.refl _) (fun w bs h1 h2 h3 _ _ => swapRange_spec sv u (m - i) m j g cap _ _ _ (by omega) (by omega) (by omega) (by omega) (by omega) (by omega) w bs h1 h2 h3)) (fun x31 => ?_)
      refine sw_imp fun _ => ?_
      refine sw_nil ?_
      refine post_then ?_
      -- region 5
      refine cw_region ?_
      refine sw_step rfl rfl rfl (OpR.q (q_move rfl rfl)) ?_
      refine sw_step rfl rfl rfl (OpR.q (q_move rfl rfl)) ?_
      refine sw_step rfl rfl rfl (OpR.q (q_sub rfl rfl rfl (by intro hc; first | omega | (simp only [List.length_set, List.length_append, List.length_cons, List.length_nil, List.length_replicate, List.length_take, List.length_drop, List.length_map]; omega) | (simp only [AllT.iff, List.all_cons, List.all_nil, id, Bool.and_eq_true, Bool.not_eq_true', decide_eq_true_eq, decide_eq_false_iff_not, and_true] at hc; first | omega | (simp only [List.length_set, List.length_append, List.length_cons, List.length_nil, List.length_replicate, List.length_take, List.length_drop, List.length_map]; omega)) | (exfalso; simp_all [AllT]; done)))) ?_
      refine sw_step rfl rfl rfl (OpR.q (q_assign rfl rfl)) ?_
      refine sw_nil ?_
      refine post_blk ?_
      refine post_next (i - j, j, swR u (m - i) m j) (by (repeat first | exact Le.nil | refine Le.cons rfl ?_ | refine Le.cons' rfl (by congr 1; first | omega | (simp only; omega)) ?_)) (fun _ h => h) ⟨by simp only; omega, by simp only; omega, hu.trans ((swR_mix (show m - i + j ≤ m by omega) (by omega) j (Nat.le_refl _)).wider (by omega) (by omega)), fun l' hl' => hr l' (rot_left hj1 hij (by omega) (by omega) hl')⟩ (by simp only; omega)
    · skip
      have hij : i < j := by simp only [decide_eq_false_iff_not] at h2; omega
      refine cw_seq ?_
      -- region 6
      refine cw_region ?_
      refine sw_step rfl rfl rfl (OpR.q (q_move rfl rfl)) ?_
      refine sw_step rfl rfl rfl (OpR.q (q_move rfl rfl)) ?_
      refine sw_step rfl rfl rfl (OpR.q (q_move rfl rfl)) ?_
      refine sw_step rfl rfl rfl (OpR.q (q_sub rfl rfl rfl (by intro hc; first | omega | (simp only [List.length_set, List.length_append, List.length_cons, List.length_nil, List.length_replicate, List.length_take, List.length_drop, List.length_map]; omega) | (simp only [AllT.iff, List.all_cons, List.all_nil, id, Bool.and_eq_true, Bool.not_eq_true', decide_eq_true_eq, decide_eq_false_iff_not, and_true] at hc; first | omega | (simp only [List.length_set, List.length_append, List.length_cons, List.length_nil, List.length_replicate, List.length_take, List.length_drop, List.length_map]; omega)) | (exfalso; simp_all [AllT]; done)))) ?_
      refine sw_step rfl rfl rfl (OpR.q (q_move rfl rfl)) ?_
      refine sw_step rfl rfl rfl (OpR.q (q_move rfl rfl)) ?_
      refine sw_step rfl rfl rfl (OpR.q (q_add rfl rfl rfl (by intro hc; first | omega | (simp only [List.length_set, List.length_append, List.length_cons, List.length_nil, List.length_replicate, List.length_take, List.length_drop, List.length_map]; omega) | (simp only [AllT.iff, List.all_cons, List.all_nil, id, Bool.and_eq_true, Bool.not_eq_true', decide_eq_true_eq, decide_eq_false_iff_not, and_true] at hc; first | omega | (simp only [List.length_set, List.length_append, List.length_cons, List.length_nil, List.length_replicate, List.length_take, List.length_drop, List.length_map]; omega)) | (exfalso; simp_all [AllT]; done)))) ?_
      refine sw_step rfl rfl rfl (OpR.q (q_move rfl rfl)) ?_
      refine sw_step rfl rfl rfl (OpR.q (q_sub rfl rfl rfl (by intro hc; first | omega | (simp only [List.length_set, List.length_append, List.length_cons, List.length_nil, List.length_replicate, List.length_take, List.length_drop, List.length_map]; omega) | (simp only [AllT.iff, List.all_cons, List.all_nil, id, Bool.and_eq_true, Bool.not_eq_true', decide_eq_true_eq, decide_eq_false_iff_not, and_true] at hc; first | omega | (simp only [List.length_set, List.length_append, List.length_cons, List.length_nil, List.length_replicate, List.length_take, List.length_drop, List.length_map]; omega)) | (exfalso; simp_all [AllT]; done)))) ?_
      refine sw_step rfl rfl rfl (OpR.q (q_move rfl rfl)) ?_
      refine sw_step rfl rfl rfl (OpR.q (q_move rfl rfl)) ?_
      -- STOP at: t46  := call {callee=(value F106), args=[t35, t38, t43, t44, t45], argTypes=[37, 3, 3, 3, 29]} :0
      refine sw_x rfl rfl rfl (e_callH (A := [ownL 3 sv.v u]) (F := []) (CanCall.mk Try.call106) rfl rfl (.cons rfl inferInstance (.cons rfl inferInstance (.cons rfl inferInstance (.cons rfl inferInstance (.cons rfl inferInstance (.nil)))))) (.refl _) (fun w bs h1 h2 h3 _ _ => swapRange_spec sv u (m - i) (m + j - i) i g cap _ _ _ (by omega) (by omega) (by omega) (by omega) (by omega) (by omega) w bs h1 h2 h3)) (fun x46 => ?_)
      refine sw_imp fun _ => ?_
      refine sw_nil ?_
      refine post_then ?_
      -- region 7
      refine cw_region ?_
      refine sw_step rfl rfl rfl (OpR.q (q_move rfl rfl)) ?_
      refine sw_step rfl rfl rfl (OpR.q (q_move rfl rfl)) ?_
      refine sw_step rfl rfl rfl (OpR.q (q_sub rfl rfl rfl (by intro hc; first | omega | (simp only [List.length_set, List.length_append, List.length_cons, List.length_nil, List.length_replicate, List.length_take, List.length_drop, List.length_map]; omega) | (simp only [AllT.iff, List.all_cons, List.all_nil, id, Bool.and_eq_true, Bool.not_eq_true', decide_eq_true_eq, decide_eq_false_iff_not, and_true] at hc; first | omega | (simp only [List.length_set, List.length_append, List.length_cons, List.length_nil, List.length_replicate, List.length_take, List.length_drop, List.length_map]; omega)) | (exfalso; simp_all [AllT]; done)))) ?_
      refine sw_step rfl rfl rfl (OpR.q (q_assign rfl rfl)) ?_
      refine sw_nil ?_
      refine post_blk ?_
      refine post_next (i, j - i, swR u (m - i) (m + j - i) i) (by (repeat first | exact Le.nil | refine Le.cons rfl ?_ | refine Le.cons' rfl (by congr 1; first | omega | (simp only; omega)) ?_)) (fun _ h => h) ⟨by simp only; omega, by simp only; omega, hu.trans ((swR_mix (show m - i + i ≤ m + j - i by omega) (by omega) i (Nat.le_refl _)).wider (by omega) (by omega)), fun l' hl' => hr l' (rot_right hi1 hij (by omega) (by omega) hl')⟩ (by simp only; omega)
  · skip
    have hne : i = j := by simp at h; omega
    subst hne
    refine cw_exit ?_
    refine post_then_x ?_
    refine post_then_x ?_
    refine post_blk_eq ?_
    refine post_then ?_
    -- region 8
    refine cw_region ?_
    refine sw_step rfl rfl rfl (OpR.q (q_move rfl rfl)) ?_
    refine sw_step rfl rfl rfl (OpR.q (q_move rfl rfl)) ?_
    refine sw_step rfl rfl rfl (OpR.q (q_move rfl rfl)) ?_
    refine sw_step rfl rfl rfl (OpR.q (q_sub rfl rfl rfl (by intro hc; first | omega | (simp only [List.length_set, List.length_append, List.length_cons, List.length_nil, List.length_replicate, List.length_take, List.length_drop, List.length_map]; omega) | (simp only [AllT.iff, List.all_cons, List.all_nil, id, Bool.and_eq_true, Bool.not_eq_true', decide_eq_true_eq, decide_eq_false_iff_not, and_true] at hc; first | omega | (simp only [List.length_set, List.length_append, List.length_cons, List.length_nil, List.length_replicate, List.length_take, List.length_drop, List.length_map]; omega)) | (exfalso; simp_all [AllT]; done)))) ?_
    refine sw_step rfl rfl rfl (OpR.q (q_move rfl rfl)) ?_
    refine sw_step rfl rfl rfl (OpR.q (q_move rfl rfl)) ?_
    refine sw_step rfl rfl rfl (OpR.q (q_move rfl rfl)) ?_
    -- STOP at: t57  := call {callee=(value F106), args=[t50, t53, t54, t55, t56], argTypes=[37, 3, 3, 3, 29]} :0
    refine sw_x rfl rfl rfl (e_callH (A := [ownL 3 sv.v u]) (F := []) (CanCall.mk Try.call106) rfl rfl (.cons rfl inferInstance (.cons rfl inferInstance (.cons rfl inferInstance (.cons rfl inferInstance (.cons rfl inferInstance (.nil)))))) (.refl _) (fun w bs h1 h2 h3 _ _ => swapRange_spec sv u (m - i) m i g cap _ _ _ (by omega) (by omega) (by omega) (by omega) (by omega) (by omega) w bs h1 h2 h3)) (fun x57 => ?_)
    refine sw_imp fun _ => ?_
    refine sw_nil ?_
    refine post_end0 rfl ?_
    exact fun w' hw => ⟨swR u (m - i) m i, rfl, ⟨hu.trans ((swR_mix (show m - i + i ≤ m by omega) (by omega) i (Nat.le_refl _)).wider (by omega) (by omega)), hr _ (rot_same hi1 (by omega) (by omega))⟩, hw⟩
end Go.Proofs.Ytekikelejncgeaa
