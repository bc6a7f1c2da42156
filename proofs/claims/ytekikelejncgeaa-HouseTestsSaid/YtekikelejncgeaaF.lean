import Derived.Test.YtekikelejncgeaaE
set_option autoImplicit false
set_option linter.unusedSimpArgs false
set_option linter.unusedVariables false
set_option maxRecDepth 100000
namespace Go.Proofs.Ytekikelejncgeaa
open Go.Sx
open Enc (enc val)

/-! ### sorting -/
theorem isNaN_spec (x : Int) (w : World) : Calls Try.prog 123 #[.int .i64 x] w fun e w' => e = .returned (.bool false) ∧ Cl w [] [] w' := by
  refine calls_cw (vs := [_]) Try.func123 rfl Try.ntmps123 rfl (Cl.start0 w) ?_
  refine cw_seq ?_
  -- region 0
  refine cw_region ?_
  refine sw_step rfl rfl rfl (OpR.q (q_assign rfl rfl)) ?_
  refine sw_nil ?_
  refine post_then ?_
  refine cw_seq ?_
  -- region 1
  refine cw_region ?_
  refine sw_step rfl rfl rfl (OpR.q (q_move rfl rfl)) ?_
  refine sw_step rfl rfl rfl (OpR.q (q_move rfl rfl)) ?_
  refine sw_step rfl rfl rfl (OpR.q (q_neq rfl rfl rfl)) ?_
  refine sw_step rfl rfl rfl (OpR.q (q_assign rfl rfl)) ?_
  refine sw_nil ?_
  refine post_then ?_
  refine cw_ret ?_
  refine post_ret1 rfl (resOk_tmp rfl) ?_
  exact fun w' hw => ⟨by simp, hw⟩
theorem cmpLess_spec (x y : Int) (w : World) : Calls Try.prog 113 #[.int .i64 x, .int .i64 y] w fun e w' => e = .returned (.bool (decide (x < y))) ∧ Cl w [] [] w' := by
  refine calls_cw (vs := [_, _]) Try.func113 rfl Try.ntmps113 rfl (Cl.start0 w) ?_
  refine cw_seq ?_
  -- region 0
  refine cw_region ?_
  refine sw_step rfl rfl rfl (OpR.q (q_assign rfl rfl)) ?_
  refine sw_nil ?_
  refine post_then ?_
  refine cw_seq ?_
  -- region 1
  refine cw_region ?_
  refine sw_step rfl rfl rfl (OpR.q (q_move rfl rfl)) ?_
  refine sw_step rfl rfl rfl (q_call (CanCall.mk Try.call123) rfl (.cons rfl inferInstance (.nil)) (fun _ w hw => callq hw (isNaN_spec _ w))) ?_
  refine sw_step rfl rfl rfl (OpR.q (q_move rfl rfl)) ?_
  refine sw_step rfl rfl rfl (OpR.q (q_move rfl rfl)) ?_
  refine sw_step rfl rfl rfl (q_call (CanCall.mk Try.call123) rfl (.cons rfl inferInstance (.nil)) (fun _ w hw => callq hw (isNaN_spec _ w))) ?_
  refine sw_step rfl rfl rfl (OpR.q (q_not rfl rfl)) ?_
  refine sw_step rfl rfl rfl (OpR.q (q_and2 rfl rfl rfl)) ?_
  refine sw_step rfl rfl rfl (OpR.q (q_move rfl rfl)) ?_
  refine sw_step rfl rfl rfl (OpR.q (q_move rfl rfl)) ?_
  refine sw_step rfl rfl rfl (OpR.q (q_move rfl rfl)) ?_
  refine sw_step rfl rfl rfl (OpR.q (q_lss rfl rfl rfl)) ?_
  refine sw_step rfl rfl rfl (OpR.q (q_or2 rfl rfl rfl)) ?_
  refine sw_step rfl rfl rfl (OpR.q (q_assign rfl rfl)) ?_
  refine sw_nil ?_
  refine post_then ?_
  refine cw_ret ?_
  refine post_ret1 rfl (resOk_tmp rfl) ?_
  exact fun w' hw => ⟨by simp, hw⟩

def swp (l : List Int) (i j : Nat) : List Int := (l.set i (nth l j)).set j (nth l i)
theorem swp_len (l : List Int) (i j : Nat) : (swp l i j).length = l.length := by simp [swp]
theorem swp_nth {l : List Int} {i j : Nat} (hi : i < l.length) (hj : j < l.length) (k : Nat) : nth (swp l i j) k = if k = j then nth l i else if k = i then nth l j else nth l k := by
  unfold swp
  rw [nth_set _ _ _ _ (by simpa using hj), nth_set _ _ _ _ hi]
theorem swp_perm {l : List Int} {i j : Nat} (hi : i < l.length) (hj : j < l.length) : (swp l i j).Perm l := by
  unfold swp
  rw [nth_get hi, nth_get hj]
  exact List.set_set_perm hi hj
/-- Sorted from a to b, but for what stands at j. -/
def SrtBut (l : List Int) (a b j : Nat) : Prop := ∀ p q, a ≤ p → p < q → q < b → q ≠ j → nth l p ≤ nth l q
def Srt (l : List Int) (a b : Nat) : Prop := ∀ p q, a ≤ p → p < q → q < b → nth l p ≤ nth l q
/-- The same but for what lies from a to b. -/
structure Mix (l l' : List Int) (a b : Nat) : Prop where
  perm : l'.Perm l
  out : ∀ k, k < a ∨ b ≤ k → nth l' k = nth l k
theorem Mix.refl (l : List Int) (a b : Nat) : Mix l l a b := ⟨.refl _, fun _ _ => rfl⟩
theorem Mix.len {l l' : List Int} {a b : Nat} (h : Mix l l' a b) : l'.length = l.length := h.perm.length_eq
theorem Mix.swp {l l' : List Int} {a b i j : Nat} (h : Mix l l' a b) (hi : a ≤ i ∧ i < b) (hj : a ≤ j ∧ j < b) (hb : b ≤ l.length) : Mix l (swp l' i j) a b := by
  have hl := h.len
  refine ⟨(swp_perm (by omega) (by omega)).trans h.perm, fun k hk => ?_⟩
  rw [swp_nth (by omega) (by omega), if_neg (by omega), if_neg (by omega)]
  exact h.out k hk
theorem Mix.wider {l l' : List Int} {a b c d : Nat} (h : Mix l l' a b) (h1 : c ≤ a) (h2 : b ≤ d) : Mix l l' c d := ⟨h.perm, fun k hk => h.out k (by omega)⟩
theorem Mix.trans {l l' l'' : List Int} {a b : Nat} (h : Mix l l' a b) (k : Mix l' l'' a b) : Mix l l'' a b := ⟨k.perm.trans h.perm, fun i hi => (k.out i hi).trans (h.out i hi)⟩
theorem srtBut_swp {l : List Int} {a b j : Nat} (h : SrtBut l a b j) (ha : a < j) (hj : j < b) (hb : b ≤ l.length) (hlt : nth l j < nth l (j - 1)) : SrtBut (swp l j (j - 1)) a b (j - 1) := by
  intro p q hp hpq hq hne
  rw [swp_nth (by omega) (by omega), swp_nth (by omega) (by omega), if_neg hne]
  by_cases h1 : q = j
  · rw [if_pos h1]
    by_cases h2 : p = j - 1
    · rw [if_pos h2]; omega
    · rw [if_neg h2, if_neg (by omega)]
      exact h p (j - 1) hp (by omega) (by omega) (by omega)
  · rw [if_neg h1]
    by_cases h2 : p = j - 1
    · rw [if_pos h2]; exact h j q (by omega) (by omega) hq h1
    · rw [if_neg h2]
      by_cases h3 : p = j
      · rw [if_pos h3]; exact h (j - 1) q (by omega) (by omega) hq h1
      · rw [if_neg h3]; exact h p q hp hpq hq h1
theorem srt_of_but {l : List Int} {a b j : Nat} (h : SrtBut l a b j) (hj : j ≤ a ∨ nth l (j - 1) ≤ nth l j) : Srt l a b := by
  intro p q hp hpq hq
  by_cases h1 : q = j
  · subst h1
    rcases hj with hj | hj
    · omega
    · by_cases h2 : p = q - 1
      · rw [h2]; exact hj
      · exact Int.le_trans (h p (q - 1) hp (by omega) (by omega) (by omega)) hj
  · exact h p q hp hpq hq h1

theorem insertion_spec (sv : SlV) (l : List Int) (a b : Nat) (hab : a ≤ b) (hb : b ≤ l.length) (hl : l.length ≤ 4611686018427387904) (w : World) (bs : List Nat) (hs : Sep [ownL 3 sv.v l] w bs) (hn : bs.Nodup) (hlt : ∀ b ∈ bs, b < w.heap.size) :
    Calls Try.prog 107 #[sv.v, .int .i64 a, .int .i64 b] w fun e w' => ∃ l' : List Int, e = .returned (.tuple #[]) ∧ (Mix l l' a b ∧ Srt l' a b) ∧ Cl w bs [ownL 3 sv.v l'] w' := by
  refine calls_cw (vs := [_, _, _]) Try.func107 rfl Try.ntmps107 rfl (Cl.start hs hn hlt) ?_
  refine cw_seq ?_
  -- region 0
  refine cw_region ?_
  refine sw_step rfl rfl rfl (OpR.q (q_move rfl rfl)) ?_
  refine sw_step rfl rfl rfl (OpR.q (q_add rfl rfl rfl (by intro hc; omega))) ?_
  refine sw_step rfl rfl rfl (OpR.q (q_assign rfl rfl)) ?_
  refine sw_nil ?_
  refine post_then ?_
  refine cw_block ?_
  -- STOP at: loop
  refine cw_loop (S := Nat × List Int) (fun y => [(0, [], sv.v), (1, [], .int .i64 a), (2, [], .int .i64 b), (6, [], .int .i64 y.1)]) (fun y => Cl w bs [ownL 3 sv.v y.2]) (fun y => a + 1 ≤ y.1 ∧ (y.1 ≤ b ∨ y.1 = a + 1) ∧ Mix l y.2 a b ∧ Srt y.2 a y.1) (fun y => b + 1 - y.1) (a + 1, l) ⟨by omega, .inr rfl, .refl _ _ _, fun p q h1 h2 h3 => by simp only at h3; omega⟩ (by exact .cons rfl (.cons rfl (.cons rfl (.cons rfl .nil)))) (fun _ h => h) ?_
  rintro ⟨i, m⟩ ⟨hi1, hi2, hm, hsr⟩
  dsimp only at hi1 hi2 hm hsr ⊢
  have hml := hm.len
  refine cw_seq ?_
  refine cw_seq ?_
  -- region 1
  refine cw_region ?_
  refine sw_step rfl rfl rfl (OpR.q (q_move rfl rfl)) ?_
  refine sw_step rfl rfl rfl (OpR.q (q_move rfl rfl)) ?_
  refine sw_step rfl rfl rfl (OpR.q (q_lss rfl rfl rfl)) ?_
  refine sw_nil ?_
  refine post_then ?_
  -- STOP at: cond
  refine cw_cond rfl (fun h => ?_) (fun h => ?_)
  · skip
    have hib : i < b := by simp at h; omega
    refine cw_skip ?_
    refine post_then ?_
    refine cw_seq ?_
    refine cw_block ?_
    refine cw_seq ?_
    -- region 3
    refine cw_region ?_
    refine sw_step rfl rfl rfl (OpR.q (q_move rfl rfl)) ?_
    refine sw_step rfl rfl rfl (OpR.q (q_assign rfl rfl)) ?_
    refine sw_nil ?_
    refine post_then ?_
    refine cw_block ?_
    -- STOP at: loop
    refine cw_loop (S := Nat × List Int) (fun y => [(0, [], sv.v), (1, [], .int .i64 a), (2, [], .int .i64 b), (6, [], .int .i64 i), (7, [], .int .i64 y.1)]) (fun y => Cl w bs [ownL 3 sv.v y.2]) (fun y => a ≤ y.1 ∧ y.1 ≤ i ∧ Mix l y.2 a b ∧ SrtBut y.2 a (i + 1) y.1) (fun y => y.1) (i, m) ⟨by simp only; omega, by simp, hm, fun p q h1 h2 h3 h4 => hsr p q h1 h2 (by simp only at h4; omega)⟩ (by exact .cons rfl (.cons rfl (.cons rfl (.cons rfl (.cons rfl .nil))))) (fun _ h => h) ?_
    rintro ⟨j, u⟩ ⟨hj1, hj2, hu, hsu⟩
    dsimp only at hj1 hj2 hu hsu ⊢
    have hul := hu.len
    refine cw_seq ?_
    refine cw_seq ?_
    -- region 4
    refine cw_region_q mixed_Try (by kernel_rfl) ?_
    refine qw_step rfl rfl rfl (OpR.q (q_move rfl rfl)) ?_
    refine qw_step rfl rfl rfl (OpR.q (q_move rfl rfl)) ?_
    refine qw_step rfl rfl rfl (OpR.q (q_gtr rfl rfl rfl)) ?_
    refine qw_step rfl rfl rfl (OpR.q (q_move rfl rfl)) ?_
    refine qw_step rfl rfl rfl (OpR.q (q_move rfl rfl)) ?_
    refine qw_step rfl rfl rfl (OpR.q (q_move rfl rfl)) ?_
    refine qw_step rfl rfl rfl (OpR.q (q_indexN rfl rfl rfl (by exact fun w hw => rd_own hw (by exact .head _)) (by intro hc; omega))) ?_
    refine qw_step rfl rfl rfl (OpR.q (q_loadEl rfl rfl rfl (by exact fun w hw => rd_own hw (by exact .head _)) (by intro hc; omega))) ?_
    refine qw_step rfl rfl rfl (OpR.q (q_move rfl rfl)) ?_
    refine qw_step rfl rfl rfl (OpR.q (q_move rfl rfl)) ?_
    refine qw_step rfl rfl rfl (OpR.q (q_sub rfl rfl rfl (by intro hc; omega))) ?_
    refine qw_step rfl rfl rfl (OpR.q (q_index rfl rfl rfl (by exact fun w hw => rd_own hw (by exact .head _)) (by intro hc; (simp only [AllT.iff, List.all_cons, List.all_nil, id, Bool.and_eq_true, Bool.not_eq_true', decide_eq_true_eq, decide_eq_false_iff_not, and_true] at hc; omega)))) ?_
    refine qw_step rfl rfl rfl (OpR.q (q_loadEl rfl rfl rfl (by exact fun w hw => rd_own hw (by exact .head _)) (by intro hc; omega))) ?_
    refine qw_step rfl rfl rfl (q_call (CanCall.mk Try.call113) rfl (.cons rfl inferInstance (.cons rfl inferInstance (.nil))) (fun _ w hw => callq hw (cmpLess_spec _ _ w))) ?_
    refine qw_step rfl rfl rfl (OpR.q (q_and2 rfl rfl rfl)) ?_
    refine qw_end ?_
    refine post_then ?_
    -- STOP at: cond
    refine cw_cond rfl (fun h2 => ?_) (fun h2 => ?_)
    · skip
      have h3 : a < j ∧ nth u j < nth u (j - 1) := by
        simp only [Bool.and_eq_true, decide_eq_true_eq] at h2
        have e : ((j : Int) - 1).toNat = j - 1 := by omega
        rw [e] at h2
        omega
      have e : ((j : Int) - 1).toNat = j - 1 := by omega
      refine cw_skip ?_
      refine post_then ?_
      refine cw_seq ?_
      refine cw_block ?_
      -- region 6
      -- STOP: a region with effects that draws its order
      refine cw_region_a (Cl w bs [ownL 3 sv.v u]) [15, 16, 17] mixed_Try ?_
      refine aw_pure 0 rfl (by kernel_rfl) (by kernel_rfl) (by kernel_rfl) (by kernel_rfl) (by kernel_rfl) rfl rfl rfl (q_move rfl rfl) ?_
      refine aw_pure 1 rfl (by kernel_rfl) (by kernel_rfl) (by kernel_rfl) (by kernel_rfl) (by kernel_rfl) rfl rfl rfl (q_move rfl rfl) ?_
      refine aw_pure 2 rfl (by kernel_rfl) (by kernel_rfl) (by kernel_rfl) (by kernel_rfl) (by kernel_rfl) rfl rfl rfl (q_move rfl rfl) ?_
      refine aw_pure 3 rfl (by kernel_rfl) (by kernel_rfl) (by kernel_rfl) (by kernel_rfl) (by kernel_rfl) rfl rfl rfl (q_move rfl rfl) ?_
      refine aw_pure 4 rfl (by kernel_rfl) (by kernel_rfl) (by kernel_rfl) (by kernel_rfl) (by kernel_rfl) rfl rfl rfl (q_sub rfl rfl rfl (by intro hc; omega)) ?_
      refine aw_pure 5 rfl (by kernel_rfl) (by kernel_rfl) (by kernel_rfl) (by kernel_rfl) (by kernel_rfl) rfl rfl rfl (q_move rfl rfl) ?_
      refine aw_pure 6 rfl (by kernel_rfl) (by kernel_rfl) (by kernel_rfl) (by kernel_rfl) (by kernel_rfl) rfl rfl rfl (q_move rfl rfl) ?_
      refine aw_pure 7 rfl (by kernel_rfl) (by kernel_rfl) (by kernel_rfl) (by kernel_rfl) (by kernel_rfl) rfl rfl rfl (q_sub rfl rfl rfl (by intro hc; omega)) ?_
      refine aw_take 8 (fun w h => Cl.sel (by exact .take 0 rfl (.nil _)) w h) rfl (by kernel_rfl) (by kernel_rfl) (by kernel_rfl) (by kernel_rfl) (by kernel_rfl) (by kernel_rfl) rfl rfl rfl (q_index rfl rfl rfl (by exact fun w hw => rd_own hw (by exact .head _)) (by intro hc; omega)) ?_
      refine aw_take 9 (fun w h => Cl.sel (by exact .take 0 rfl (.nil _)) w h) rfl (by kernel_rfl) (by kernel_rfl) (by kernel_rfl) (by kernel_rfl) (by kernel_rfl) (by kernel_rfl) rfl rfl rfl (q_loadEl rfl rfl rfl (by exact fun w hw => rd_own hw (by exact .head _)) (by intro hc; omega)) ?_
      refine aw_pure 10 rfl (by kernel_rfl) (by kernel_rfl) (by kernel_rfl) (by kernel_rfl) (by kernel_rfl) rfl rfl rfl (q_move rfl rfl) ?_
      refine aw_pure 11 rfl (by kernel_rfl) (by kernel_rfl) (by kernel_rfl) (by kernel_rfl) (by kernel_rfl) rfl rfl rfl (q_move rfl rfl) ?_
      refine aw_take 12 (fun w h => Cl.sel (by exact .take 0 rfl (.nil _)) w h) rfl (by kernel_rfl) (by kernel_rfl) (by kernel_rfl) (by kernel_rfl) (by kernel_rfl) (by kernel_rfl) rfl rfl rfl (q_indexN rfl rfl rfl (by exact fun w hw => rd_own hw (by exact .head _)) (by intro hc; omega)) ?_
      refine aw_take 13 (fun w h => Cl.sel (by exact .take 0 rfl (.nil _)) w h) rfl (by kernel_rfl) (by kernel_rfl) (by kernel_rfl) (by kernel_rfl) (by kernel_rfl) (by kernel_rfl) rfl rfl rfl (q_loadEl rfl rfl rfl (by exact fun w hw => rd_own hw (by exact .head _)) (by intro hc; omega)) ?_
      refine aw_take 14 (fun w h => Cl.sel (by exact .take 0 rfl (.nil _)) w h) rfl (by kernel_rfl) (by kernel_rfl) (by kernel_rfl) (by kernel_rfl) (by kernel_rfl) (by kernel_rfl) rfl rfl rfl (q_indexN rfl rfl rfl (by exact fun w hw => rd_own hw (by exact .head _)) (by intro hc; omega)) ?_
      refine aw_one0 15 (by kernel_rfl) rfl rfl rfl (e_storeEl1 (i := 0) rfl rfl rfl rfl rfl (by omega)) (by intro hb; (exact absurd hb (by decide))) ?_
      refine aw_q 16 (by kernel_rfl) rfl rfl rfl rfl (OpR.q (q_index rfl rfl rfl (by exact fun w hw => rd_own hw (by exact .head _)) (by intro hc; (simp only [List.length_set, List.length_append, List.length_cons, List.length_nil, List.length_replicate, List.length_take, List.length_drop, List.length_map]; omega)))) (by intro hb; (exact absurd hb (by decide))) ?_
      refine aw_one0 17 (by kernel_rfl) rfl rfl rfl (e_storeEl1 (i := 0) rfl rfl rfl rfl rfl (by (simp only [List.length_set, List.length_append, List.length_cons, List.length_nil, List.length_replicate, List.length_take, List.length_drop, List.length_map]; omega))) (by intro hb; (exact absurd hb (by decide))) ?_
      refine aw_end (by kernel_rfl) ?_
      refine post_blk ?_
      refine post_then ?_
      -- region 5
      refine cw_region ?_
      refine sw_step rfl rfl rfl (OpR.q (q_move rfl rfl)) ?_
      refine sw_step rfl rfl rfl (OpR.q (q_sub rfl rfl rfl (by intro hc; omega))) ?_
      refine sw_step rfl rfl rfl (OpR.q (q_assign rfl rfl)) ?_
      refine sw_nil ?_
      have e2 : (u.set j (nth u ((j : Int) - 1).toNat)).set ((j : Int) - 1).toNat (nth u j) = swp u j (j - 1) := by rw [e]; rfl
      refine post_next (j - 1, swp u j (j - 1)) (by exact .cons rfl (.cons rfl (.cons rfl (.cons rfl (.cons' rfl (by congr 1; first | omega | (simp only; omega)) .nil))))) (fun w3 hw3 => ?_) ⟨by simp only; omega, by simp only; omega, hu.swp (by omega) (by omega) hb, srtBut_swp hsu (by omega) (by omega) (by omega) h3.2⟩ (by simp only; omega)
      rw [← e2]
      exact hw3
    · skip
      have h3 : j ≤ a ∨ nth u (j - 1) ≤ nth u j := by
        by_cases h4 : a < j
        · right
          have e : ((j : Int) - 1).toNat = j - 1 := by omega
          rw [e] at h2
          simp at h2
          exact h2 (by omega)
        · left; omega
      refine cw_exit ?_
      refine post_then_x ?_
      refine post_then_x ?_
      refine post_blk_eq ?_
      refine post_blk ?_
      refine post_then ?_
      -- region 2
      refine cw_region ?_
      refine sw_step rfl rfl rfl (OpR.q (q_move rfl rfl)) ?_
      refine sw_step rfl rfl rfl (OpR.q (q_add rfl rfl rfl (by intro hc; omega))) ?_
      refine sw_step rfl rfl rfl (OpR.q (q_assign rfl rfl)) ?_
      refine sw_nil ?_
      exact post_next (i + 1, u) (by exact .cons rfl (.cons rfl (.cons rfl (.cons rfl .nil)))) (fun _ h => h) ⟨by simp only; omega, by simp only; omega, hu, srt_of_but hsu h3⟩ (by simp only; omega)
  · skip
    have hib : i = b ∨ i = a + 1 ∧ b = a := by simp at h; omega
    refine cw_exit ?_
    refine post_then_x ?_
    refine post_then_x ?_
    refine post_blk_eq ?_
    refine post_end0 rfl ?_
    exact fun w' hw => ⟨m, rfl, ⟨hm, fun p q h1 h2 h3 => hsr p q h1 h2 (by omega)⟩, hw⟩
end Go.Proofs.Ytekikelejncgeaa
