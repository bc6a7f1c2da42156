import Derived.Test.YtekikelejncgeaaO
set_option autoImplicit false
set_option linter.unusedSimpArgs false
set_option linter.unusedVariables false
set_option maxRecDepth 100000
namespace Go.Proofs.Ytekikelejncgeaa
open Go.Sx
open Enc (enc val)

/-- What a comparing function must be for a sort. -/
structure PreO (dom : Int → Prop) (cv : Int → Int → Int) : Prop where
  tot : ∀ x y, dom x → dom y → cv x y < 0 → 0 ≤ cv y x
  trans : ∀ x y z, dom x → dom y → dom z → 0 ≤ cv y x → 0 ≤ cv z y → 0 ≤ cv z x
def SrtButC (cv : Int → Int → Int) (l : List Int) (a b j : Nat) : Prop := ∀ p q, a ≤ p → p < q → q < b → q ≠ j → 0 ≤ cv (nth l q) (nth l p)
def SrtC (cv : Int → Int → Int) (l : List Int) (a b : Nat) : Prop := ∀ p q, a ≤ p → p < q → q < b → 0 ≤ cv (nth l q) (nth l p)
theorem srtButC_swp {dom : Int → Prop} {cv : Int → Int → Int} (ho : PreO dom cv) {l : List Int} {a b j : Nat} (hd : ∀ k, k < l.length → dom (nth l k)) (h : SrtButC cv l a b j) (ha : a < j) (hj : j < b) (hb : b ≤ l.length) (hlt : cv (nth l j) (nth l (j - 1)) < 0) : SrtButC cv (swp l j (j - 1)) a b (j - 1) := by
  intro p q hp hpq hq hne
  rw [swp_nth (by omega) (by omega), swp_nth (by omega) (by omega), if_neg hne]
  by_cases h1 : q = j
  · rw [if_pos h1]
    by_cases h2 : p = j - 1
    · rw [if_pos h2]; exact ho.tot _ _ (hd _ (by omega)) (hd _ (by omega)) hlt
    · rw [if_neg h2, if_neg (by omega)]
      exact h p (j - 1) hp (by omega) (by omega) (by omega)
  · rw [if_neg h1]
    by_cases h2 : p = j - 1
    · rw [if_pos h2]; exact h j q (by omega) (by omega) hq h1
    · rw [if_neg h2]
      by_cases h3 : p = j
      · rw [if_pos h3]; exact h (j - 1) q (by omega) (by omega) hq h1
      · rw [if_neg h3]; exact h p q hp hpq hq h1
theorem srtC_of_but {dom : Int → Prop} {cv : Int → Int → Int} (ho : PreO dom cv) {l : List Int} {a b j : Nat} (hd : ∀ k, k < l.length → dom (nth l k)) (hb : b ≤ l.length) (h : SrtButC cv l a b j) (hj : j ≤ a ∨ 0 ≤ cv (nth l j) (nth l (j - 1))) : SrtC cv l a b := by
  intro p q hp hpq hq
  by_cases h1 : q = j
  · subst h1
    rcases hj with hj | hj
    · omega
    · by_cases h2 : p = q - 1
      · rw [h2]; exact hj
      · exact ho.trans _ _ _ (hd _ (by omega)) (hd (q - 1) (by omega)) (hd _ (by omega)) (h p (q - 1) hp (by omega) (by omega) (by omega)) hj
  · exact h p q hp hpq hq h1
theorem Mix.dom {dom : Int → Prop} {l l' : List Int} {a b : Nat} (h : Mix l l' a b) (hd : ∀ k, k < l.length → dom (nth l k)) : ∀ k, k < l'.length → dom (nth l' k) := by
  intro k hk
  rw [nth_get hk]
  have hm := h.perm.mem_iff.1 (List.getElem_mem hk)
  obtain ⟨i, hi, e⟩ := List.mem_iff_getElem.1 hm
  rw [← e, ← nth_get hi]
  exact hd i hi

theorem insertionC_spec (sv : SlV) (l : List Int) (a b : Nat) (g : FuncId) (cap : Array Value) (dom : Int → Prop) (cv : Int → Int → Int) (R : World → Prop) (hgc : CanCall Try.prog g) (hg : CmpF Try.prog g cap dom cv R) (ho : PreO dom cv) (hd : ∀ k, k < l.length → dom (nth l k))
    (hab : a ≤ b) (hb : b ≤ l.length) (hl : l.length ≤ 4611686018427387904) (w : World) (bs : List Nat) (hs : Sep [ownL 3 sv.v l] w bs) (hn : bs.Nodup) (hlt : ∀ b ∈ bs, b < w.heap.size) (hR : Stb w bs R) :
    Calls Try.prog 97 #[sv.v, .int .i64 a, .int .i64 b, .func (.func g) #[] cap] w fun e w' => ∃ l' : List Int, e = .returned (.tuple #[]) ∧ (Mix l l' a b ∧ SrtC cv l' a b) ∧ Cl w bs [ownL 3 sv.v l'] w' := by
  refine calls_cw (vs := [_, _, _, _]) Try.func97 rfl Try.ntmps97 rfl (Cl.start hs hn hlt) ?_
  refine cw_seq ?_
  -- region 0
  refine cw_region ?_
  refine sw_step rfl rfl rfl (OpR.q (q_move rfl rfl)) ?_
  refine sw_step rfl rfl rfl (OpR.q (q_add rfl rfl rfl (by intro hc; omega))) ?_
  refine sw_step rfl rfl rfl (OpR.q (q_assign rfl rfl)) ?_
  refine sw_nil ?_
  refine post_then ?_
  refine cw_block ?_
  -- STOP at: loop
  refine cw_loop (S := Nat × List Int) (fun y => [(0, [], sv.v), (1, [], .int .i64 a), (2, [], .int .i64 b), (3, [], .func (.func g) #[] cap), (8, [], .int .i64 y.1)]) (fun y => Cl w bs [ownL 3 sv.v y.2]) (fun y => a + 1 ≤ y.1 ∧ (y.1 ≤ b ∨ y.1 = a + 1) ∧ Mix l y.2 a b ∧ SrtC cv y.2 a y.1) (fun y => b + 1 - y.1) (a + 1, l) ⟨by omega, .inr rfl, .refl _ _ _, fun p q h1 h2 h3 => by simp only at h3; omega⟩ (by exact .cons rfl (.cons rfl (.cons rfl (.cons rfl (.cons rfl .nil))))) (fun _ h => h) ?_
  rintro ⟨i, m⟩ ⟨hi1, hi2, hm, hsr⟩
  dsimp only at hi1 hi2 hm hsr ⊢
  have hml := hm.len
  refine cw_seq ?_
  refine cw_seq ?_
  -- region 1
  refine cw_region ?_
  refine sw_step rfl rfl rfl (OpR.q (q_move rfl rfl)) ?_
  refine sw_step rfl rfl rfl (OpR.q (q_move rfl rfl)) ?_
  refine sw_step rfl rfl rfl (OpR.q (q_lss rfl rfl rfl)) ?_
  refine sw_nil ?_
  refine post_then ?_
  -- STOP at: cond
  refine cw_cond rfl (fun h => ?_) (fun h => ?_)
  · skip
    have hib : i < b := by simp at h; omega
    refine cw_skip ?_
    refine post_then ?_
    refine cw_seq ?_
    refine cw_block ?_
    refine cw_seq ?_
    -- region 3
    refine cw_region ?_
    refine sw_step rfl rfl rfl (OpR.q (q_move rfl rfl)) ?_
    refine sw_step rfl rfl rfl (OpR.q (q_assign rfl rfl)) ?_
    refine sw_nil ?_
    refine post_then ?_
    refine cw_block ?_
    -- STOP at: loop
    refine cw_loop (S := Nat × List Int) (fun y => [(0, [], sv.v), (1, [], .int .i64 a), (2, [], .int .i64 b), (3, [], .func (.func g) #[] cap), (8, [], .int .i64 i), (9, [], .int .i64 y.1)]) (fun y => Cl w bs [ownL 3 sv.v y.2]) (fun y => a ≤ y.1 ∧ y.1 ≤ i ∧ Mix l y.2 a b ∧ SrtButC cv y.2 a (i + 1) y.1) (fun y => y.1) (i, m) ⟨by simp only; omega, by simp, hm, fun p q h1 h2 h3 h4 => hsr p q h1 h2 (by simp only at h4; omega)⟩ (by exact .cons rfl (.cons rfl (.cons rfl (.cons rfl (.cons rfl (.cons rfl .nil)))))) (fun _ h => h) ?_
    rintro ⟨j, u⟩ ⟨hj1, hj2, hu, hsu⟩
    dsimp only at hj1 hj2 hu hsu ⊢
    have hul := hu.len
    have hud := hu.dom hd
    have e : ((j : Int) - 1).toNat = j - 1 := by omega
    refine cw_seq ?_
    refine cw_seq ?_
    -- region 4
    refine cw_region_q mixed_Try (by kernel_rfl) ?_
    refine qw_step rfl rfl rfl (OpR.q (q_move rfl rfl)) ?_
    refine qw_step rfl rfl rfl (OpR.q (q_move rfl rfl)) ?_
    refine qw_step rfl rfl rfl (OpR.q (q_gtr rfl rfl rfl)) ?_
    refine qw_step rfl rfl rfl (OpR.q (q_move rfl rfl)) ?_
    refine qw_step rfl rfl rfl (OpR.q (q_move rfl rfl)) ?_
    refine qw_step rfl rfl rfl (OpR.q (q_move rfl rfl)) ?_
    refine qw_step rfl rfl rfl (OpR.q (q_move rfl rfl)) ?_
    refine qw_step rfl rfl rfl (OpR.q (q_indexN rfl rfl rfl (by exact fun w hw => rd_own hw (by exact .head _)) (by intro hc; omega))) ?_
    refine qw_step rfl rfl rfl (OpR.q (q_loadEl rfl rfl rfl (by exact fun w hw => rd_own hw (by exact .head _)) (by intro hc; omega))) ?_
    refine qw_step rfl rfl rfl (OpR.q (q_move rfl rfl)) ?_
    refine qw_step rfl rfl rfl (OpR.q (q_move rfl rfl)) ?_
    refine qw_step rfl rfl rfl (OpR.q (q_sub rfl rfl rfl (by intro hc; omega))) ?_
    refine qw_step rfl rfl rfl (OpR.q (q_index rfl rfl rfl (by exact fun w hw => rd_own hw (by exact .head _)) (by intro hc; (simp only [AllT.iff, List.all_cons, List.all_nil, id, Bool.and_eq_true, Bool.not_eq_true', decide_eq_true_eq, decide_eq_false_iff_not, and_true] at hc; omega)))) ?_
    refine qw_step rfl rfl rfl (OpR.q (q_loadEl rfl rfl rfl (by exact fun w hw => rd_own hw (by exact .head _)) (by intro hc; omega))) ?_
    -- STOP at: t32  := call {callee=(value t22), args=[t26, t31], argTypes=[3, 3]} :3 ?<3, true>
    refine qw_step rfl rfl rfl (q_callv hgc rfl rfl (.cons rfl inferInstance (.cons rfl inferInstance (.nil))) (fun hc w' hw => callq hw (hg.call _ _ w' (hud j (by omega)) (hud _ (by rw [e]; omega)) (stb_arg hw hR)))) ?_
    refine qw_step rfl rfl rfl (OpR.q (q_lss rfl rfl rfl)) ?_
    refine qw_step rfl rfl rfl (OpR.q (q_and2 rfl rfl rfl)) ?_
    refine qw_end ?_
    refine post_then ?_
    -- STOP at: cond
    refine cw_cond rfl (fun h2 => ?_) (fun h2 => ?_)
    · skip
      have h3 : a < j ∧ cv (nth u j) (nth u (j - 1)) < 0 := by
        simp only [Bool.and_eq_true, decide_eq_true_eq] at h2
        rw [e] at h2
        omega
      refine cw_skip ?_
      refine post_then ?_
      refine cw_seq ?_
      refine cw_block ?_
      -- region 6
      -- STOP: a region with effects that draws its order
      refine cw_region_a (Cl w bs [ownL 3 sv.v u]) [15, 16, 17] mixed_Try ?_
      refine aw_pure 0 rfl (by kernel_rfl) (by kernel_rfl) (by kernel_rfl) (by kernel_rfl) (by kernel_rfl) rfl rfl rfl (q_move rfl rfl) ?_
      refine aw_pure 1 rfl (by kernel_rfl) (by kernel_rfl) (by kernel_rfl) (by kernel_rfl) (by kernel_rfl) rfl rfl rfl (q_move rfl rfl) ?_
      refine aw_pure 2 rfl (by kernel_rfl) (by kernel_rfl) (by kernel_rfl) (by kernel_rfl) (by kernel_rfl) rfl rfl rfl (q_move rfl rfl) ?_
      refine aw_pure 3 rfl (by kernel_rfl) (by kernel_rfl) (by kernel_rfl) (by kernel_rfl) (by kernel_rfl) rfl rfl rfl (q_move rfl rfl) ?_
      refine aw_pure 4 rfl (by kernel_rfl) (by kernel_rfl) (by kernel_rfl) (by kernel_rfl) (by kernel_rfl) rfl rfl rfl (q_sub rfl rfl rfl (by intro hc; omega)) ?_
      refine aw_pure 5 rfl (by kernel_rfl) (by kernel_rfl) (by kernel_rfl) (by kernel_rfl) (by kernel_rfl) rfl rfl rfl (q_move rfl rfl) ?_
      refine aw_pure 6 rfl (by kernel_rfl) (by kernel_rfl) (by kernel_rfl) (by kernel_rfl) (by kernel_rfl) rfl rfl rfl (q_move rfl rfl) ?_
      refine aw_pure 7 rfl (by kernel_rfl) (by kernel_rfl) (by kernel_rfl) (by kernel_rfl) (by kernel_rfl) rfl rfl rfl (q_sub rfl rfl rfl (by intro hc; omega)) ?_
      refine aw_take 8 (fun w h => Cl.sel (by exact .take 0 rfl (.nil _)) w h) rfl (by kernel_rfl) (by kernel_rfl) (by kernel_rfl) (by kernel_rfl) (by kernel_rfl) (by kernel_rfl) rfl rfl rfl (q_index rfl rfl rfl (by exact fun w hw => rd_own hw (by exact .head _)) (by intro hc; omega)) ?_
      refine aw_take 9 (fun w h => Cl.sel (by exact .take 0 rfl (.nil _)) w h) rfl (by kernel_rfl) (by kernel_rfl) (by kernel_rfl) (by kernel_rfl) (by kernel_rfl) (by kernel_rfl) rfl rfl rfl (q_loadEl rfl rfl rfl (by exact fun w hw => rd_own hw (by exact .head _)) (by intro hc; omega)) ?_
      refine aw_pure 10 rfl (by kernel_rfl) (by kernel_rfl) (by kernel_rfl) (by kernel_rfl) (by kernel_rfl) rfl rfl rfl (q_move rfl rfl) ?_
      refine aw_pure 11 rfl (by kernel_rfl) (by kernel_rfl) (by kernel_rfl) (by kernel_rfl) (by kernel_rfl) rfl rfl rfl (q_move rfl rfl) ?_
      refine aw_take 12 (fun w h => Cl.sel (by exact .take 0 rfl (.nil _)) w h) rfl (by kernel_rfl) (by kernel_rfl) (by kernel_rfl) (by kernel_rfl) (by kernel_rfl) (by kernel_rfl) rfl rfl rfl (q_indexN rfl rfl rfl (by exact fun w hw => rd_own hw (by exact .head _)) (by intro hc; omega)) ?_
      refine aw_take 13 (fun w h => Cl.sel (by exact .take 0 rfl (.nil _)) w h) rfl (by kernel_rfl) (by kernel_rfl) (by kernel_rfl) (by kernel_rfl) (by kernel_rfl) (by kernel_rfl) rfl rfl rfl (q_loadEl rfl rfl rfl (by exact fun w hw => rd_own hw (by exact .head _)) (by intro hc; omega)) ?_
      refine aw_take 14 (fun w h => Cl.sel (by exact .take 0 rfl (.nil _)) w h) rfl (by kernel_rfl) (by kernel_rfl) (by kernel_rfl) (by kernel_rfl) (by kernel_rfl) (by kernel_rfl) rfl rfl rfl (q_indexN rfl rfl rfl (by exact fun w hw => rd_own hw (by exact .head _)) (by intro hc; omega)) ?_
      refine aw_one0 15 (by kernel_rfl) rfl rfl rfl (e_storeEl1 (i := 0) rfl rfl rfl rfl rfl (by omega)) (by intro hb; (exact absurd hb (by decide))) ?_
      refine aw_q 16 (by kernel_rfl) rfl rfl rfl rfl (OpR.q (q_index rfl rfl rfl (by exact fun w hw => rd_own hw (by exact .head _)) (by intro hc; (simp only [List.length_set, List.length_append, List.length_cons, List.length_nil, List.length_replicate, List.length_take, List.length_drop, List.length_map]; omega)))) (by intro hb; (exact absurd hb (by decide))) ?_
      refine aw_one0 17 (by kernel_rfl) rfl rfl rfl (e_storeEl1 (i := 0) rfl rfl rfl rfl rfl (by (simp only [List.length_set, List.length_append, List.length_cons, List.length_nil, List.length_replicate, List.length_take, List.length_drop, List.length_map]; omega))) (by intro hb; (exact absurd hb (by decide))) ?_
      refine aw_end (by kernel_rfl) ?_
      refine post_blk ?_
      refine post_then ?_
      -- region 5
      refine cw_region ?_
      refine sw_step rfl rfl rfl (OpR.q (q_move rfl rfl)) ?_
      refine sw_step rfl rfl rfl (OpR.q (q_sub rfl rfl rfl (by intro hc; omega))) ?_
      refine sw_step rfl rfl rfl (OpR.q (q_assign rfl rfl)) ?_
      refine sw_nil ?_
      have e2 : (u.set j (nth u ((j : Int) - 1).toNat)).set ((j : Int) - 1).toNat (nth u j) = swp u j (j - 1) := by rw [e]; rfl
      refine post_next (j - 1, swp u j (j - 1)) (by exact .cons rfl (.cons rfl (.cons rfl (.cons rfl (.cons rfl (.cons' rfl (by congr 1; first | omega | (simp only; omega)) .nil)))))) (fun w3 hw3 => ?_) ⟨by simp only; omega, by simp only; omega, hu.swp (by omega) (by omega) hb, srtButC_swp ho hud hsu (by omega) (by omega) (by omega) h3.2⟩ (by simp only; omega)
      rw [← e2]
      exact hw3
    · skip
      have h3 : j ≤ a ∨ 0 ≤ cv (nth u j) (nth u (j - 1)) := by
        by_cases h4 : a < j
        · right
          rw [e] at h2
          simp at h2
          exact h2 (by omega)
        · left; omega
      refine cw_exit ?_
      refine post_then_x ?_
      refine post_then_x ?_
      refine post_blk_eq ?_
      refine post_blk ?_
      refine post_then ?_
      -- region 2
      refine cw_region ?_
      refine sw_step rfl rfl rfl (OpR.q (q_move rfl rfl)) ?_
      refine sw_step rfl rfl rfl (OpR.q (q_add rfl rfl rfl (by intro hc; omega))) ?_
      refine sw_step rfl rfl rfl (OpR.q (q_assign rfl rfl)) ?_
      refine sw_nil ?_
      exact post_next (i + 1, u) (by exact .cons rfl (.cons rfl (.cons rfl (.cons rfl (.cons rfl .nil))))) (fun _ h => h) ⟨by simp only; omega, by simp only; omega, hu, srtC_of_but (l := u) (b := i + 1) ho hud (by omega) hsu h3⟩ (by simp only; omega)
  · skip
    have hib : i = b ∨ i = a + 1 ∧ b = a := by simp at h; omega
    refine cw_exit ?_
    refine post_then_x ?_
    refine post_then_x ?_
    refine post_blk_eq ?_
    refine post_end0 rfl ?_
    exact fun w' hw => ⟨m, rfl, ⟨hm, fun p q h1 h2 h3 => hsr p q h1 h2 (by omega)⟩, hw⟩
end Go.Proofs.Ytekikelejncgeaa
