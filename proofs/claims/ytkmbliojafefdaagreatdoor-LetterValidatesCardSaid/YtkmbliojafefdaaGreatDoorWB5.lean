import Derived.Test.YtkmbliojafefdaaGreatDoorWB4

set_option autoImplicit false
set_option linter.unusedSimpArgs false
set_option linter.unusedVariables false
set_option maxRecDepth 100000
namespace Go.Proofs.YtkmbliojafefdaaGreatDoor
open Go.Sx
open Enc (enc val)
theorem cut3 {l : List Rn} {a b : Nat} (h1 : a ≤ b) (h2 : b ≤ l.length) : l = l.take a ++ ((l.take b).drop a ++ l.drop b) := by
 conv => lhs; rw [← List.take_append_drop b l]
 conv => lhs; rw [← List.take_append_drop a (l.take b)]
 rw [List.take_take, Nat.min_eq_left h1, List.append_assoc]
theorem mid_nth {l : List Rn} {a b q : Nat} (h2 : b ≤ l.length) (h3 : a ≤ q) (h4 : q < b) : ∃ h, ((l.take b).drop a)[q - a]'h = nth l q := by
 refine ⟨by rw [List.length_drop, List.length_take]; omega, ?_⟩
 rw [List.getElem_drop, List.getElem_take, nth_get (by omega)]
 congr 1; omega
theorem Mix.mem {l u : List Rn} {a b : Nat} (h : Mix l u a b) (hab : a ≤ b) (hb : b ≤ l.length) {q : Nat} (h1 : a ≤ q) (h2 : q < b) : ∃ r, a ≤ r ∧ r < b ∧ nth l r = nth u q := by
 have hul := h.len
 have e1 : u.take a = l.take a := by
   apply List.ext_getElem (by simp; omega)
   intro i g1 g2
   have g3 : i < a := by simp at g1; omega
   rw [List.getElem_take, List.getElem_take]
   have := h.out i (.inl g3)
   rwa [nth_get (by omega), nth_get (by omega)] at this
 have e2 : u.drop b = l.drop b := by
   apply List.ext_getElem (by simp; omega)
   intro i g1 g2
   rw [List.getElem_drop, List.getElem_drop]
   have g3 : b + i < l.length := by simp at g2; omega
   have := h.out (b + i) (.inr (by omega))
   rwa [nth_get (by omega), nth_get (by omega)] at this
 have hp := h.perm
 rw [cut3 (l := u) hab (by omega), cut3 (l := l) hab hb, e1, e2] at hp
 have hp2 := (List.perm_append_right_iff _).1 ((List.perm_append_left_iff _).1 hp)
 obtain ⟨hq, e3⟩ := mid_nth (l := u) (a := a) (b := b) (q := q) (by omega) h1 h2
 have hm : nth u q ∈ (l.take b).drop a := hp2.mem_iff.1 (by rw [← e3]; exact List.getElem_mem hq)
 obtain ⟨i, hi, e4⟩ := List.getElem_of_mem hm
 have hi2 : i < b - a := by rw [List.length_drop, List.length_take] at hi; omega
 refine ⟨a + i, by omega, by omega, ?_⟩
 rw [← e4, List.getElem_drop, List.getElem_take, nth_get (by omega)]
def Heap (u : List Rn) (f lo hi : Nat) : Prop := ∀ i c, lo ≤ i → (c = 2 * i + 1 ∨ c = 2 * i + 2) → c < hi → (nth u (f + c)).v ≤ (nth u (f + i)).v
structure Hole (u : List Rn) (f lo hi r : Nat) : Prop where
 h1 : ∀ i c, lo ≤ i → i ≠ r → (c = 2 * i + 1 ∨ c = 2 * i + 2) → c < hi → (nth u (f + c)).v ≤ (nth u (f + i)).v
 h2 : ∀ p c, lo ≤ p → (r = 2 * p + 1 ∨ r = 2 * p + 2) → (c = 2 * r + 1 ∨ c = 2 * r + 2) → c < hi → (nth u (f + c)).v ≤ (nth u (f + p)).v
theorem Hole.done {u : List Rn} {f lo hi r : Nat} (h : Hole u f lo hi r) (hc : ∀ c, (c = 2 * r + 1 ∨ c = 2 * r + 2) → c < hi → (nth u (f + c)).v ≤ (nth u (f + r)).v) : Heap u f lo hi := fun i c g1 g2 g3 => by
 by_cases e : i = r
 · subst e; exact hc c g2 g3
 · exact h.h1 i c g1 e g2 g3
theorem Hole.step {u : List Rn} {f lo hi r m : Nat} (h : Hole u f lo hi r) (hf : f + hi ≤ u.length) (hlr : lo ≤ r) (hm : m = 2 * r + 1 ∨ m = 2 * r + 2) (hmh : m < hi) (hmax : ∀ c, (c = 2 * r + 1 ∨ c = 2 * r + 2) → c < hi → (nth u (f + c)).v ≤ (nth u (f + m)).v) (hlt : (nth u (f + r)).v < (nth u (f + m)).v) : Hole (swp u (f + r) (f + m)) f lo hi m := by
 have hsn := fun q => swp_nth (l := u) (i := f + r) (j := f + m) (by omega) (by omega) q
 refine ⟨fun i c g1 g2 g3 g4 => ?_, fun p c g1 g2 g3 g4 => ?_⟩
 · rw [hsn (f + i), if_neg (by omega)]
   by_cases e : i = r
   · rw [if_pos (by omega)]
     rw [hsn (f + c)]
     split
     · omega
     · rw [if_neg (by omega)]
       exact hmax c (by omega) g4
   · rw [if_neg (by omega), hsn (f + c)]
     split
     · omega
     · split
       · have e2 : c = r := by omega
         subst e2
         exact h.h2 i m g1 g3 hm hmh
       · exact h.h1 i c g1 e g3 g4
 · have e : p = r := by omega
   subst e
   rw [hsn (f + c), if_neg (by omega), if_neg (by omega), hsn (f + p), if_neg (by omega), if_pos rfl]
   exact h.h1 m c (by omega) (by omega) g3 g4
theorem heap_top {u : List Rn} {f hi : Nat} (h : Heap u f 0 hi) : ∀ i, i < hi → (nth u (f + i)).v ≤ (nth u (f + 0)).v := fun i => by
 induction i using Nat.strongRecOn with
 | _ i ih =>
   intro hi2
   by_cases e : i = 0
   · rw [e]; exact Int.le_refl _
   · have h1 := h ((i - 1) / 2) i (by omega) (by omega) hi2
     have h2 := ih ((i - 1) / 2) (by omega) (by omega)
     omega
theorem sift_spec (sv : SlV) (l : List Rn) (f lo hi : Nat) (hf : f + hi ≤ l.length) (hl : l.length ≤ 1000000) (hlo : lo ≤ 1000000) (hh : Heap l f (lo + 1) hi) (w : World) (bs : List Nat) (hs : Sep [ownL 21 sv.v l] w bs) (hn : bs.Nodup) (hlt : ∀ b ∈ bs, b < w.heap.size) :
   Calls Tryz.prog 194 #[sv.v, .int .i64 lo, .int .i64 hi, .int .i64 f] w fun e w' => ∃ l' : List Rn, e = .returned (.tuple #[]) ∧ (Mix l l' f (f + hi) ∧ Heap l' f lo hi) ∧ Cl w bs [ownL 21 sv.v l'] w' := by
 refine calls_cw (vs := [_, _, _, _]) Tryz.func194 rfl Tryz.ntmps194 rfl (Cl.start hs hn hlt) (zr (zm rfl (za rfl (nP (cw_block ?_)))))
 refine cw_loop (S := Nat × List Rn) (fun y => [(0, [], sv.v), (2, [], .int .i64 hi), (3, [], .int .i64 f), (8, [], .int .i64 y.1)]) (fun y => Cl w bs [ownL 21 sv.v y.2]) (fun y => lo ≤ y.1 ∧ y.1 ≤ 1000000 ∧ Mix l y.2 f (f + hi) ∧ Hole y.2 f lo hi y.1) (fun y => 2000000 - y.1) (lo, l) ⟨Nat.le_refl _, hlo, .refl _ _ _, fun i c g1 g2 g3 g4 => hh i c (by simp only at g2; omega) g3 g4, fun p c g1 g2 g3 g4 => by simp only at g2; omega⟩ (by exact .cons rfl (.cons rfl (.cons rfl (.cons rfl .nil)))) (fun _ h => h) ?_
 rintro ⟨r, u⟩ ⟨hr, hr2, hm, hH⟩
 dsimp only at hr hr2 hm hH ⊢
 have hul := hm.len
 refine cw_block (zr (zm rfl ?_))
 refine zS rfl (q_mul rfl rfl rfl (by intro hc; omega)) ?_
 refine zS rfl (q_add rfl rfl rfl (by intro hc; omega)) ?_
 refine za rfl (nP (cw_seq (zr (zm rfl (zm rfl (zS rfl (q_geq rfl rfl rfl) (sw_nil (post_then ?_))))))))
 refine cw_cond rfl (fun h => ?_) (fun h => ?_)
 · have h1 : hi ≤ 2 * r + 1 := by simp at h; omega
   refine cw_exit (post_then_x (post_blk_ne rfl (post_then_x (post_blk_eq (post_end0 rfl ?_)))))
   exact fun w' hw => ⟨u, rfl, ⟨hm, hH.done fun c g1 g2 => by omega⟩, hw⟩
 · have h1 : 2 * r + 1 < hi := by simp at h; omega
   refine sP (cw_seq (cw_seq ?_))
   refine cw_region_q mixed_Tryz (by kernel_rfl) ?_
   refine zw rfl ?_
   refine zq rfl (q_add rfl rfl rfl (by intro hc; omega)) ?_
   refine zw rfl (zq rfl (q_lss rfl rfl rfl) (zw rfl (zw rfl (zw rfl (zw rfl ?_)))))
   refine zq rfl (q_add rfl rfl rfl (by intro hc; omega)) ?_
   refine zq rfl (q_indexN rfl rfl rfl (rdO (by exact .head _)) (by intro hc; (simp only [List.length_set, List.length_append, List.length_cons, List.length_nil, List.length_replicate, List.length_take, List.length_drop, List.length_map]; omega))) ?_
   refine zq rfl (q_loadF rfl rfl rfl (rdO (by exact .head _)) (by intro hc; (simp only [List.length_set, List.length_append, List.length_cons, List.length_nil, List.length_replicate, List.length_take, List.length_drop, List.length_map]; omega)) rfl) ?_
   refine zw rfl (zw rfl (zw rfl ?_))
   refine zq rfl (q_add rfl rfl rfl (by intro hc; omega)) ?_
   refine zq rfl (q_add rfl rfl rfl (by intro hc; omega)) ?_
   refine zq rfl (q_indexN rfl rfl rfl (rdO (by exact .head _)) (by intro hc; (simp only [AllT.iff, List.all_cons, List.all_nil, id, Bool.and_eq_true, Bool.not_eq_true', decide_eq_true_eq, decide_eq_false_iff_not, and_true] at hc; (simp only [List.length_set, List.length_append, List.length_cons, List.length_nil, List.length_replicate, List.length_take, List.length_drop, List.length_map]; omega)))) ?_
   refine zq rfl (q_loadF rfl rfl rfl (rdO (by exact .head _)) (by intro hc; (simp only [AllT.iff, List.all_cons, List.all_nil, id, Bool.and_eq_true, Bool.not_eq_true', decide_eq_true_eq, decide_eq_false_iff_not, and_true] at hc; (simp only [List.length_set, List.length_append, List.length_cons, List.length_nil, List.length_replicate, List.length_take, List.length_drop, List.length_map]; omega))) rfl) ?_
   refine qw_step rfl rfl rfl (q_call (CanCall.mk Tryz.call180) rfl (.k rfl (.k rfl (.nil))) (fun _ w hw => callq hw (cmpLessR_spec _ _ w))) (zq rfl (q_and2 rfl rfl rfl) (qw_end (post_then ?_)))
   refine cw_cut (S := Nat) (fun m => [(0, [], sv.v), (2, [], .int .i64 hi), (3, [], .int .i64 f), (8, [], .int .i64 r), (9, [], .int .i64 m)]) (fun _ => Cl w bs [ownL 21 sv.v u]) (fun m => (m = 2 * r + 1 ∨ m = 2 * r + 2) ∧ m < hi ∧ ∀ c, (c = 2 * r + 1 ∨ c = 2 * r + 2) → c < hi → (nth u (f + c)).v ≤ (nth u (f + m)).v) ?_ ?_
   · -- STOP at: cond
     have e1 : ((f : Int) + (2 * (r : Int) + 1)).toNat = f + (2 * r + 1) := by omega
     have e2 : ((f : Int) + (2 * (r : Int) + 1) + 1).toNat = f + (2 * r + 2) := by omega
     refine cw_cond rfl (fun h2 => ?_) (fun h2 => ?_)
     · have h3 : 2 * r + 2 < hi ∧ (nth u (f + (2 * r + 1))).v < (nth u (f + (2 * r + 2))).v := by
         rw [show f + (2 * r + 1) + 1 = f + (2 * r + 2) by omega] at h2
         simp at h2
         exact ⟨by omega, h2.2⟩
       refine cw_region (zm rfl ?_)
       refine zS rfl (q_add rfl rfl rfl (by intro hc; omega)) ?_
       refine za rfl (sw_nil ?_)
       exact post_meet (2 * r + 2) (by exact .cons rfl (.cons rfl (.cons rfl (.cons rfl (.cons rfl .nil))))) (fun _ h => h) ⟨.inr rfl, h3.1, fun c g1 g2 => by
         rcases g1 with rfl | rfl <;> omega⟩
     · have h3 : 2 * r + 2 < hi → ¬ (nth u (f + (2 * r + 1))).v < (nth u (f + (2 * r + 2))).v := fun hh => by
         rw [show f + (2 * r + 1) + 1 = f + (2 * r + 2) by omega] at h2
         simp at h2
         have := h2 (by omega)
         omega
       refine cw_skip ?_
       exact post_meet (2 * r + 1) (by exact .cons rfl (.cons rfl (.cons rfl (.cons rfl (.cons rfl .nil))))) (fun _ h => h) ⟨.inl rfl, h1, fun c g1 g2 => by
         rcases g1 with rfl | rfl
         · omega
         · have := h3 g2; omega⟩
   rintro m ⟨hm1, hm2, hm3⟩
   refine post_then (cw_seq (cw_seq ?_))
   refine cw_region_q mixed_Tryz (by kernel_rfl) ?_
   refine zw rfl (zw rfl (zw rfl ?_))
   refine zq rfl (q_add rfl rfl rfl (by intro hc; omega)) ?_
   refine zq rfl (q_indexN rfl rfl rfl (rdO (by exact .head _)) (by intro hc; omega)) ?_
   refine zq rfl (q_loadF rfl rfl rfl (rdO (by exact .head _)) (by intro hc; omega) rfl) ?_
   refine zw rfl (zw rfl (zw rfl ?_))
   refine zq rfl (q_add rfl rfl rfl (by intro hc; omega)) ?_
   refine zq rfl (q_indexN rfl rfl rfl (rdO (by exact .head _)) (by intro hc; omega)) ?_
   refine zq rfl (q_loadF rfl rfl rfl (rdO (by exact .head _)) (by intro hc; omega) rfl) ?_
   refine qw_step rfl rfl rfl (q_call (CanCall.mk Tryz.call180) rfl (.k rfl (.k rfl (.nil))) (fun _ w hw => callq hw (cmpLessR_spec _ _ w))) (zq rfl (q_not rfl rfl) (qw_end (post_then ?_)))
   have e1 : ((f : Int) + (r : Int)).toNat = f + r := by omega
   have e2 : ((f : Int) + (m : Int)).toNat = f + m := by omega
   refine cw_cond rfl (fun h2 => ?_) (fun h2 => ?_)
   · have h3 : ¬ (nth u (f + r)).v < (nth u (f + m)).v := by
       simp at h2; omega
     refine cw_ret (post_then_r (post_blk_r (post_then_r (post_blk_r (post_ret0 rfl ?_)))))
     exact fun w' hw => ⟨u, rfl, ⟨hm, hH.done fun c g1 g2 => by have := hm3 c g1 g2; omega⟩, hw⟩
   · have h3 : (nth u (f + r)).v < (nth u (f + m)).v := by
       simpa using h2
     refine sP (cw_seq (cw_region_a (Cl w bs [ownL 21 sv.v u]) [21, 22, 23] mixed_Tryz ?_))
     refine zp 0 rfl (q_move rfl rfl) ?_
     refine zp 1 rfl (q_move rfl rfl) ?_
     refine zp 2 rfl (q_move rfl rfl) ?_
     refine zp 3 rfl (q_add rfl rfl rfl (by intro hc; omega)) ?_
     refine zp 4 rfl (q_move rfl rfl) ?_
     refine zp 5 rfl (q_move rfl rfl) ?_
     refine zp 6 rfl (q_move rfl rfl) ?_
     refine zp 7 rfl (q_add rfl rfl rfl (by intro hc; omega)) ?_
     refine zp 8 rfl (q_move rfl rfl) ?_
     refine zp 9 rfl (q_move rfl rfl) ?_
     refine zp 10 rfl (q_move rfl rfl) ?_
     refine zp 11 rfl (q_add rfl rfl rfl (by intro hc; omega)) ?_
     refine zk 12 (Cl.sel (by exact .take 0 rfl (.nil _))) rfl (q_indexN rfl rfl rfl (rdO (by exact .head _)) (by intro hc; omega)) ?_
     refine zk 13 (Cl.sel (by exact .take 0 rfl (.nil _))) rfl (q_loadF rfl rfl rfl (rdO (by exact .head _)) (by intro hc; omega) rfl) ?_
     refine zp 14 rfl (q_move rfl rfl) ?_
     refine zp 15 rfl (q_move rfl rfl) ?_
     refine zp 16 rfl (q_move rfl rfl) ?_
     refine zp 17 rfl (q_add rfl rfl rfl (by intro hc; omega)) ?_
     refine zk 18 (Cl.sel (by exact .take 0 rfl (.nil _))) rfl (q_indexN rfl rfl rfl (rdO (by exact .head _)) (by intro hc; omega)) ?_
     refine zk 19 (Cl.sel (by exact .take 0 rfl (.nil _))) rfl (q_loadF rfl rfl rfl (rdO (by exact .head _)) (by intro hc; omega) rfl) ?_
     refine zk 20 (Cl.sel (by exact .take 0 rfl (.nil _))) rfl (q_indexN rfl rfl rfl (rdO (by exact .head _)) (by intro hc; omega)) ?_
     refine aw_one0 21 (by kernel_rfl) rfl rfl rfl (e_storeEl1 (i := 0) rfl rfl rfl rfl rfl (by omega)) (by intro hb; (exact absurd hb (by decide))) ?_
     refine aw_q 22 (by kernel_rfl) rfl rfl rfl rfl (OpR.q (q_indexN rfl rfl rfl (rdO (by exact .head _)) (by intro hc; (simp only [List.length_set, List.length_append, List.length_cons, List.length_nil, List.length_replicate, List.length_take, List.length_drop, List.length_map]; omega)))) (by intro hb; (exact absurd hb (by decide))) ?_
     refine aw_one0 23 (by kernel_rfl) rfl rfl rfl (e_storeEl1 (i := 0) rfl rfl rfl rfl rfl (by (simp only [List.length_set, List.length_append, List.length_cons, List.length_nil, List.length_replicate, List.length_take, List.length_drop, List.length_map]; omega))) (by intro hb; (exact absurd hb (by decide))) ?_
     refine aw_end (by kernel_rfl) ?_
     refine post_then (cw_region (zm rfl (za rfl (sw_nil (post_blk ?_)))))
     refine post_next (m, swp u (f + r) (f + m)) (by exact .cons rfl (.cons rfl (.cons rfl (.cons rfl .nil)))) (fun w3 hw3 => ?_) ⟨by simp only; omega, by simp only; omega, hm.swp (by omega) (by omega) hf, hH.step (by omega) hr hm1 hm2 hm3 h3⟩ (by simp only; omega)
     exact hw3
theorem heapSort_spec (sv : SlV) (l : List Rn) (a b : Nat) (hab : a < b) (hb : b ≤ l.length) (hl : l.length ≤ 1000000) (w : World) (bs : List Nat) (hs : Sep [ownL 21 sv.v l] w bs) (hn : bs.Nodup) (hlt : ∀ b ∈ bs, b < w.heap.size) :
   Calls Tryz.prog 175 #[sv.v, .int .i64 a, .int .i64 b] w fun e w' => ∃ l' : List Rn, e = .returned (.tuple #[]) ∧ (Mix l l' a b ∧ Srt l' a b) ∧ Cl w bs [ownL 21 sv.v l'] w' := by
 obtain ⟨n, hne⟩ : ∃ n, b = a + n := ⟨b - a, by omega⟩
 subst hne
 refine calls_cw (vs := [_, _, _]) Tryz.func175 rfl Tryz.ntmps175 rfl (Cl.start hs hn hlt) (zr (zm rfl (za rfl (nP (cw_seq (cw_region (za rfl (sw_nil (post_then (cw_seq (cw_region (zm rfl (zm rfl ?_)))))))))))))
 refine zS rfl (q_sub rfl rfl rfl (by intro hc; omega)) ?_
 refine za rfl (nP (cw_seq (zr (zm rfl ?_))))
 refine zS rfl (q_sub rfl rfl rfl (by intro hc; omega)) ?_
 refine zS rfl (q_quo rfl rfl rfl (by intro hc; omega)) ?_
 refine za rfl (nP (cw_block ?_))
 have e0 : (((a + n : Nat) : Int) - (a : Int)) = (n : Int) := by omega
 have e1 : ((n : Int) - 1).tdiv 2 = (((n - 1) / 2 + 1 : Nat) : Int) - 1 := by
   rw [Int.tdiv_eq_ediv_of_nonneg (by omega)]; omega
 rw [e0]
 try rw [e1]
 refine cw_loop (S := Nat × List Rn) (fun y => [(0, [], sv.v), (6, [], .int .i64 a), (7, [], .int .i64 0), (8, [], .int .i64 n), (9, [], .int .i64 ((y.1 : Int) - 1))]) (fun y => Cl w bs [ownL 21 sv.v y.2]) (fun y => y.1 ≤ n ∧ Mix l y.2 a (a + n) ∧ Heap y.2 a y.1 n) (fun y => y.1) ((n - 1) / 2 + 1, l) ⟨by simp only; omega, .refl _ _ _, fun i c g1 g2 g3 => by simp only at g1; omega⟩ (by exact .cons rfl (.cons rfl (.cons rfl (.cons rfl (.cons' rfl (by congr 1; first | omega | (simp only; omega)) .nil))))) (fun _ h => h) ?_
 rintro ⟨q, u⟩ ⟨hq, hm, hH⟩
 dsimp only at hq hm hH ⊢
 have hul := hm.len
 refine cw_seq (zr (zm rfl (zS rfl (q_geq rfl rfl rfl) (nP ?_))))
 refine cw_cond rfl (fun h => ?_) (fun h => ?_)
 · obtain ⟨i, rfl⟩ : ∃ i, q = i + 1 := ⟨q - 1, by simp at h; omega⟩
   have e2 : (((i + 1 : Nat) : Int) - 1) = (i : Int) := by omega
   rw [e2]
   refine sP (cw_seq (cw_block (cw_region (zm rfl (zm rfl (zm rfl (zm rfl ?_)))))))
   refine sw_x rfl rfl rfl (e_callH (A := [ownL 21 sv.v u]) (F := []) (CanCall.mk Tryz.call194) rfl rfl (.k rfl (.k rfl (.k rfl (.k rfl (.nil))))) (.refl _) (fun w bs h1 h2 h3 _ _ => sift_spec sv u a i n (by omega) (by omega) (by omega) hH w bs h1 h2 h3)) (fun l26 => ?_)
   refine sw_imp fun hs2 => (sw_nil (post_blk (post_then (cw_region (zm rfl ?_)))))
   refine zS rfl (q_sub rfl rfl rfl (by intro hc; omega)) ?_
   refine za rfl (sw_nil ?_)
   exact post_next (i, l26) (by exact .cons rfl (.cons rfl (.cons rfl (.cons rfl (.cons rfl .nil))))) (fun _ h => h) ⟨by simp only; omega, hm.trans hs2.1, hs2.2⟩ (by simp only; omega)
 · have hq0 : q = 0 := by simp at h; omega
   subst hq0
   refine cw_exit (post_then_x (post_then_x (post_blk_eq (post_then (zr (zm rfl ?_))))))
   refine zS rfl (q_sub rfl rfl rfl (by intro hc; omega)) ?_
   refine za rfl (nP (cw_block ?_))
   refine cw_loop (S := Nat × List Rn) (fun y => [(0, [], sv.v), (6, [], .int .i64 a), (7, [], .int .i64 0), (10, [], .int .i64 ((y.1 : Int) - 1))]) (fun y => Cl w bs [ownL 21 sv.v y.2]) (fun y => y.1 ≤ n ∧ Mix l y.2 a (a + n) ∧ Heap y.2 a 0 y.1 ∧ Srt y.2 (a + y.1) (a + n) ∧ ∀ i j, i < y.1 → y.1 ≤ j → j < n → (nth y.2 (a + i)).v ≤ (nth y.2 (a + j)).v) (fun y => y.1) (n, u) ⟨Nat.le_refl _, hm, hH, fun p q g1 g2 g3 => by simp only at g1; omega, fun i j g1 g2 g3 => by simp only at g2; omega⟩ (by exact .cons rfl (.cons rfl (.cons rfl (.cons rfl .nil)))) (fun _ h => h) ?_
   rintro ⟨q, v⟩ ⟨hq, hm2, hH2, hS, hle⟩
   dsimp only at hq hm2 hH2 hS hle ⊢
   have hvl := hm2.len
   refine cw_seq (zr (zm rfl (zS rfl (q_geq rfl rfl rfl) (nP ?_))))
   refine cw_cond rfl (fun h2 => ?_) (fun h2 => ?_)
   · obtain ⟨i, rfl⟩ : ∃ i, q = i + 1 := ⟨q - 1, by simp at h2; omega⟩
     have e2 : (((i + 1 : Nat) : Int) - 1) = (i : Int) := by omega
     have e3 : ((a : Int) + (i : Int)).toNat = a + i := by omega
     have htop := heap_top hH2
     have hsn := fun q => swp_nth (l := v) (i := a) (j := a + i) (by omega) (by omega) q
     obtain ⟨x, hx⟩ : ∃ x, swp v a (a + i) = x := ⟨_, rfl⟩
     have hm3 : Mix v x a (a + n) := by rw [← hx]; exact (Mix.refl v a (a + n)).swp (by omega) (by omega) (by omega)
     have hxl := hm3.len
     have hH3 : Heap x a (0 + 1) i := fun j c g1 g2 g3 => by
       rw [← hx, hsn, hsn, if_neg (by omega), if_neg (by omega), if_neg (by omega), if_neg (by omega)]
       exact hH2 j c (by omega) g2 (by omega)
     have hxi : ∀ j, j < i → (nth x (a + j)).v ≤ (nth x (a + i)).v := fun j hj => by
       rw [← hx, hsn, hsn, if_neg (by omega), if_pos rfl]
       split
       · exact htop i (by omega)
       · exact htop j (by omega)
     have hxo : ∀ j, i < j → j < n → nth x (a + j) = nth v (a + j) := fun j g1 g2 => by rw [← hx, hsn, if_neg (by omega), if_neg (by omega)]
     have hxv : ∃ k, k < i + 1 ∧ nth x (a + i) = nth v (a + k) := ⟨0, by omega, by rw [← hx, hsn, if_pos rfl]; rfl⟩
     rw [e2]
     refine sP (cw_seq (cw_block (cw_seq (cw_region_a (Cl w bs [ownL 21 sv.v v]) [17, 18, 19] mixed_Tryz ?_))))
     refine zp 0 rfl (q_move rfl rfl) ?_
     refine zp 1 rfl (q_move rfl rfl) ?_
     refine zp 2 rfl (q_move rfl rfl) ?_
     refine zp 3 rfl (q_move rfl rfl) ?_
     refine zp 4 rfl (q_move rfl rfl) ?_
     refine zp 5 rfl (q_add rfl rfl rfl (by intro hc; omega)) ?_
     refine zp 6 rfl (q_move rfl rfl) ?_
     refine zp 7 rfl (q_move rfl rfl) ?_
     refine zp 8 rfl (q_move rfl rfl) ?_
     refine zp 9 rfl (q_add rfl rfl rfl (by intro hc; omega)) ?_
     refine zk 10 (Cl.sel (by exact .take 0 rfl (.nil _))) rfl (q_indexN rfl rfl rfl (rdO (by exact .head _)) (by intro hc; omega)) ?_
     refine zk 11 (Cl.sel (by exact .take 0 rfl (.nil _))) rfl (q_loadF rfl rfl rfl (rdO (by exact .head _)) (by intro hc; omega) rfl) ?_
     refine zp 12 rfl (q_move rfl rfl) ?_
     refine zp 13 rfl (q_move rfl rfl) ?_
     refine zk 14 (Cl.sel (by exact .take 0 rfl (.nil _))) rfl (q_indexN rfl rfl rfl (rdO (by exact .head _)) (by intro hc; omega)) ?_
     refine zk 15 (Cl.sel (by exact .take 0 rfl (.nil _))) rfl (q_loadF rfl rfl rfl (rdO (by exact .head _)) (by intro hc; omega) rfl) ?_
     refine zk 16 (Cl.sel (by exact .take 0 rfl (.nil _))) rfl (q_indexN rfl rfl rfl (rdO (by exact .head _)) (by intro hc; omega)) ?_
     refine aw_one0 17 (by kernel_rfl) rfl rfl rfl (e_storeEl1 (i := 0) rfl rfl rfl rfl rfl (by omega)) (by intro hb; (exact absurd hb (by decide))) ?_
     refine aw_q 18 (by kernel_rfl) rfl rfl rfl rfl (OpR.q (q_indexN rfl rfl rfl (rdO (by exact .head _)) (by intro hc; (simp only [List.length_set, List.length_append, List.length_cons, List.length_nil, List.length_replicate, List.length_take, List.length_drop, List.length_map]; omega)))) (by intro hb; (exact absurd hb (by decide))) ?_
     refine aw_one0 19 (by kernel_rfl) rfl rfl rfl (e_storeEl1 (i := 0) rfl rfl rfl rfl rfl (by (simp only [List.length_set, List.length_append, List.length_cons, List.length_nil, List.length_replicate, List.length_take, List.length_drop, List.length_map]; omega))) (by intro hb; (exact absurd hb (by decide))) ?_
     refine aw_end (by kernel_rfl) ?_
     refine post_then (cw_region (zm rfl (zm rfl (zm rfl (zm rfl ?_)))))
     refine sw_le (C' := Cl w bs [ownL 21 sv.v x]) (fun w' h => by rw [← hx]; exact h) ?_
     refine sw_x rfl rfl rfl (e_callH (A := [ownL 21 sv.v x]) (F := []) (CanCall.mk Tryz.call194) rfl rfl (.k rfl (.k rfl (.k rfl (.k rfl (.nil))))) (.refl _) (fun w bs h1 h2 h3 _ _ => sift_spec sv x a 0 i (by omega) (by omega) (by omega) hH3 w bs h1 h2 h3)) (fun l55 => ?_)
     refine sw_imp fun hs2 => (sw_nil (post_blk (post_then (cw_region (zm rfl ?_)))))
     refine zS rfl (q_sub rfl rfl rfl (by intro hc; omega)) ?_
     refine za rfl (sw_nil ?_)
     have hmem := fun j (hj : j < i) => hs2.1.mem (q := a + j) (by omega) (by omega) (by omega) (by omega)
     have hout := fun j (hj : i ≤ j) => hs2.1.out (a + j) (.inr (by omega))
     refine post_next (i, l55) (by exact .cons rfl (.cons rfl (.cons rfl (.cons rfl .nil)))) (fun _ h => h) ⟨by simp only; omega, hm2.trans (hm3.trans (hs2.1.wider (by omega) (by omega))), hs2.2, fun p q g1 g2 g3 => ?_, fun j k g1 g2 g3 => ?_⟩ (by simp only; omega)
     · simp only at g1 ⊢
       obtain ⟨p', rfl⟩ : ∃ p', p = a + p' := ⟨p - a, by omega⟩
       obtain ⟨q', rfl⟩ : ∃ q', q = a + q' := ⟨q - a, by omega⟩
       rw [hout p' (by omega), hout q' (by omega)]
       rw [hxo q' (by omega) (by omega)]
       rcases Nat.lt_or_ge i p' with g4 | g4
       · rw [hxo p' g4 (by omega)]
         exact hS _ _ (by omega) g2 (by omega)
       · have : p' = i := by omega
         subst this
         obtain ⟨k, hk1, hk2⟩ := hxv
         rw [hk2]
         exact hle k q' hk1 (by omega) (by omega)
     · simp only at g1 g2 ⊢
       obtain ⟨r, hr1, hr2, hr3⟩ := hmem j g1
       obtain ⟨r', rfl⟩ : ∃ r', r = a + r' := ⟨r - a, by omega⟩
       have g4 := hxi r' (by omega)
       rw [hout k g2, ← hr3]
       rcases Nat.lt_or_ge i k with g5 | g5
       · rw [hxo k g5 g3]
         obtain ⟨k2, hk1, hk2⟩ := hxv
         have := hle k2 k hk1 (by omega) g3
         rw [hk2] at g4
         omega
       · have : k = i := by omega
         subst this; exact g4
   · have hq0 : q = 0 := by simp at h2; omega
     subst hq0
     refine cw_exit (post_then_x (post_then_x (post_blk_eq (post_end0 rfl ?_))))
     exact fun w' hw => ⟨v, rfl, ⟨hm2, hS⟩, hw⟩
end Go.Proofs.YtkmbliojafefdaaGreatDoor

/- Words of 64 bits as numbers: and, or, and-not, shifts; the count of ones. General lemmas, no program text. -/
set_option autoImplicit false
set_option linter.unusedSectionVars false
namespace Go.Sx
section
variable {P : Program} {n : Fr} {E : Env} {C : World → Prop} {cs : List Bool} {o : Oper}
theorem ofInt_nat {a : Int} (h : 0 ≤ a ∧ a < 18446744073709551616) : (BitVec.ofInt 64 a).toNat = a.toNat := by
 rw [BitVec.toNat_ofInt]
 simp only [Int.reducePow, Nat.reducePow]
 omega
theorem wrap_u64 {a : Nat} (h : a < 18446744073709551616) : IntKind.u64.wrap (a : Int) = a := by
 simp only [IntKind.wrap, IntKind.signed, IntKind.bits]
 simp
 omega
theorem q_andU {t t' : TypeId} {x y : Operand} {cx cy : List Bool} {a b : Int} (ho : o.op = .binOp .and t x y t') (hx : evl E x = some (cx, .int .u64 a)) (hy : evl E y = some (cy, .int .u64 b)) [sx : Sub cx cs] [sy : Sub cy cs]
   (h : AllT cs → (0 ≤ a ∧ a < 18446744073709551616) ∧ 0 ≤ b ∧ b < 18446744073709551616) : OpR P n E C cs o (.int .u64 ((a.toNat &&& b.toNat : Nat) : Int)) :=
 fun e he hc => bin_run (C := C) (r := .int .u64 ((a.toNat &&& b.toNat : Nat) : Int)) ho hx hy sx sy rfl (fun w => by
   have hh := h hc
   rw [binOp_and]
   have h1 : (BitVec.ofInt 64 a &&& BitVec.ofInt 64 b).toNat = a.toNat &&& b.toNat := by rw [BitVec.toNat_and, ofInt_nat hh.1, ofInt_nat hh.2]
   have h2 : a.toNat &&& b.toNat ≤ a.toNat := Nat.and_le_left
   simp only [Op.intBits, IntKind.bits, Sem.run_pure]
   exact congrArg (fun k => Result.ok (Value.int IntKind.u64 k) w) ((wrap_u64 (show (BitVec.ofInt 64 a &&& BitVec.ofInt 64 b).toNat < _ by rw [h1]; omega)).trans (congrArg (fun k : Nat => (k : Int)) h1))) e he hc
end
end Go.Sx

set_option autoImplicit false
set_option maxRecDepth 100000
namespace Go.Proofs.YtkmbliojafefdaaGreatDoor
open Go.Sx
open Enc (enc val)
section
variable {P : Program} {n : Fr} {E : Env} {C : World → Prop} {cs : List Bool} {o : Oper}
theorem wrapU_range (a : Int) : 0 ≤ IntKind.u64.wrap a ∧ IntKind.u64.wrap a < 18446744073709551616 := by
 simp only [IntKind.wrap, IntKind.signed, IntKind.bits]
 simp
 omega
def xo (a b : Int) : Int := IntKind.u64.wrap ((BitVec.ofInt 64 a ^^^ BitVec.ofInt 64 b).toNat : Nat)
theorem q_xorU {t t' : TypeId} {x y : Operand} {cx cy : List Bool} {a b : Int} (ho : o.op = .binOp .xor t x y t') (hx : evl E x = some (cx, .int .u64 a)) (hy : evl E y = some (cy, .int .u64 b)) [sx : Sub cx cs] [sy : Sub cy cs] :
   OpR P n E C cs o (.int .u64 (xo a b)) := bin_run ho hx hy sx sy rfl (fun w => by rw [binOp_xor]; rfl)
end
theorem all256 {p : Nat → Prop} [DecidablePred p] (h : (List.range 256).all (fun x => decide (0 < x → p x)) = true) : ∀ x, 0 < x ∧ x < 256 → p x := fun x hx => by
 have := List.all_eq_true.1 h x (List.mem_range.2 hx.2)
 exact of_decide_eq_true this hx.1
theorem len64b_spec (x : Nat) (hx : 0 < x ∧ x < 256) (w : World) : Calls Tryz.prog 184 #[.int .u64 x] w fun e w' => ∃ l : Int, e = .returned (.int .i64 l) ∧ (0 ≤ l ∧ l ≤ 8 ∧ 2 ^ l.toNat ≤ 2 * x) ∧ Cl w [] [] w' := by
 refine calls_cw (vs := [_]) Tryz.func184 rfl Tryz.ntmps184 rfl (Cl.start0 w) (zr (za rfl (nP (cw_seq (cw_seq (cw_region (zm rfl (zS rfl (q_geq rfl rfl rfl) (sw_nil (post_then ?_))))))))))
 refine cw_cond rfl (fun h1 => ?_) (fun h1 => ?_)
 · simp at h1; omega
 · refine sP (cw_seq (zr (zm rfl (zS rfl (q_geq rfl rfl rfl) (nP ?_)))))
   refine cw_cond rfl (fun h2 => ?_) (fun h2 => ?_)
   · simp at h2; omega
   · refine sP (cw_seq (zr (zm rfl (zS rfl (q_geq rfl rfl rfl) (nP ?_)))))
     refine cw_cond rfl (fun h3 => ?_) (fun h3 => ?_)
     · simp at h3; omega
     · refine sP (zr (zm rfl (zm rfl (zS rfl (q_conv rfl rfl) ?_))))
       have hw : IntKind.u8.wrap (x : Int) = x := by simp only [IntKind.wrap, IntKind.signed, IntKind.bits]; simp; omega
       refine zS rfl (q_indexS rfl rfl rfl Tryz.underlying9 (fun _ => ⟨by rw [hw]; omega, by rw [hw]; exact Int.lt_of_lt_of_le (by omega) (show (256 : Int) ≤ _ by decide)⟩)) ?_
       refine zS rfl (q_conv rfl rfl) (zS rfl (q_add_w rfl rfl rfl) (za rfl (nP (cw_ret (post_ret1 rfl (resOk_tmp rfl) ?_)))))
       rw [hw, Int.toNat_natCast]
       refine fun w' hw' => ⟨_, rfl, ?_, hw'⟩
       clear hw' h1 h2 h3 hw
       revert x
       refine all256 ?_
       kernel_rfl
theorem lenb_spec (x : Nat) (hx : 0 < x ∧ x < 256) (w : World) : Calls Tryz.prog 148 #[.int .u64 x] w fun e w' => ∃ l : Int, e = .returned (.int .i64 l) ∧ (0 ≤ l ∧ l ≤ 8 ∧ 2 ^ l.toNat ≤ 2 * x) ∧ Cl w [] [] w' := by
 refine calls_cw (vs := [_]) Tryz.func148 rfl Tryz.ntmps148 rfl (Cl.start0 w) (zr (za rfl (nP (cw_seq ?_))))
 refine cw_cond rfl (fun h1 => ?_) (fun h1 => ?_)
 · cases h1
 · refine sP (zr (zm rfl ?_))
   refine sw_x rfl rfl rfl (e_call (CanCall.mk Tryz.call184) rfl (.k rfl (.nil)) (fun w hw => len64b_spec x hx w)) (fun l7 => ?_)
   refine sw_imp fun hl => (za rfl (nP (cw_ret (post_ret1 rfl (resOk_tmp rfl) ?_))))
   exact fun w' hw => ⟨l7, rfl, hl, hw⟩
theorem nextPow_spec (x : Nat) (hx : 0 < x ∧ x < 256) (w : World) : Calls Tryz.prog 195 #[.int .i64 x] w fun e w' => ∃ m : Nat, e = .returned (.int .u64 m) ∧ (0 < m ∧ m ≤ 2 * x) ∧ Cl w [] [] w' := by
 refine calls_cw (vs := [_]) Tryz.func195 rfl Tryz.ntmps195 rfl (Cl.start0 w) (zr (za rfl (nP (cw_seq (cw_region (zm rfl (zS rfl (q_conv rfl rfl) ?_)))))))
 have e1 : IntKind.u64.wrap (x : Int) = x := wrap_u64 (by omega)
 rw [e1]
 refine sw_x rfl rfl rfl (e_call (CanCall.mk Tryz.call148) rfl (.k rfl (.nil)) (fun w hw => lenb_spec x hx w)) (fun l5 => ?_)
 refine sw_imp fun hl => ?_
 refine zS rfl (q_shl rfl rfl rfl (by (dsimp only [IntKind.bits]; exact (by intro hc; omega)))) ?_
 refine za rfl (nP (cw_ret (post_ret1 rfl (resOk_tmp rfl) ?_)))
 have e2 : (1 : Int) * 2 ^ l5.toNat = ((2 ^ l5.toNat : Nat) : Int) := by simp
 have e3 : IntKind.u64.wrap ((1 : Int) * 2 ^ l5.toNat) = ((2 ^ l5.toNat : Nat) : Int) := by
   rw [e2]; exact wrap_u64 (by have := hl.2.2; omega)
 rw [e3]
 exact fun w' hw => ⟨_, rfl, ⟨Nat.two_pow_pos _, hl.2.2⟩, hw⟩
theorem next_spec (b : Nat) (x : Int) (w : World) (bs : List Nat) (hs : Sep [blk b [.int .u64 x] 260] w bs) (hn : bs.Nodup) (hlt : ∀ b ∈ bs, b < w.heap.size) :
   Calls Tryz.prog 196 #[.pointer (some ⟨b, 0, none⟩)] w fun e w' => ∃ y : Int, e = .returned (.int .u64 y) ∧ (0 ≤ y ∧ y < 18446744073709551616) ∧ Cl w bs [blk b [.int .u64 y] 260] w' := by
 refine calls_cw (vs := [_]) Tryz.func196 rfl Tryz.ntmps196 rfl (Cl.start hs hn hlt) (zr (za rfl (nP (cw_seq (cw_region_a (Cl w bs [blk b [.int .u64 x] 260]) [9] mixed_Tryz ?_)))))
 refine zp 0 rfl (q_move rfl rfl) ?_
 refine zp 1 rfl (q_nilCheck rfl rfl) ?_
 refine zk 2 (Cl.sel (by exact .take 0 rfl (.nil _))) rfl (q_loadC rfl rfl (by exact .head _) rfl) ?_
 refine zp 3 rfl (q_move rfl rfl) ?_
 refine zp 4 rfl (q_nilCheck rfl rfl) ?_
 refine zk 5 (Cl.sel (by exact .take 0 rfl (.nil _))) rfl (q_loadC rfl rfl (by exact .head _) rfl) ?_
 refine zp 6 rfl (q_shl rfl rfl rfl (by exact fun _ => ⟨by decide, by decide⟩)) ?_
 refine zp 7 rfl (q_xorU rfl rfl rfl) ?_
 refine zp 8 rfl (q_nilCheck rfl rfl) ?_
 refine aw_one0 9 (by kernel_rfl) rfl rfl rfl (e_store (i := 0) rfl rfl rfl rfl rfl rfl rfl rfl) (by intro hb; (exact absurd hb (by decide))) ?_
 refine aw_end (by kernel_rfl) ?_
 refine post_then (cw_seq ?_)
 obtain ⟨y, hy⟩ : ∃ y, xo x (IntKind.u64.wrap (x * 2 ^ (13 : Int).toNat)) = y := ⟨_, rfl⟩
 rw [hy]
 refine cw_region_a (Cl w bs [blk b [.int .u64 y] 260]) [9] mixed_Tryz ?_
 refine zp 0 rfl (q_move rfl rfl) ?_
 refine zp 1 rfl (q_nilCheck rfl rfl) ?_
 refine zk 2 (Cl.sel (by exact .take 0 rfl (.nil _))) rfl (q_loadC rfl rfl (by exact .head _) rfl) ?_
 refine zp 3 rfl (q_move rfl rfl) ?_
 refine zp 4 rfl (q_nilCheck rfl rfl) ?_
 refine zk 5 (Cl.sel (by exact .take 0 rfl (.nil _))) rfl (q_loadC rfl rfl (by exact .head _) rfl) ?_
 refine zp 6 rfl (q_shr rfl rfl rfl (by exact fun _ => ⟨by decide, by decide⟩)) ?_
 refine zp 7 rfl (q_xorU rfl rfl rfl) ?_
 refine zp 8 rfl (q_nilCheck rfl rfl) ?_
 refine aw_one0 9 (by kernel_rfl) rfl rfl rfl (e_store (i := 0) rfl rfl rfl rfl rfl rfl rfl rfl) (by intro hb; (exact absurd hb (by decide))) ?_
 refine aw_end (by kernel_rfl) ?_
 refine post_then (cw_seq ?_)
 obtain ⟨z, hz⟩ : ∃ z, xo y (y / 2 ^ (7 : Int).toNat) = z := ⟨_, rfl⟩
 rw [hz]
 refine cw_region_a (Cl w bs [blk b [.int .u64 z] 260]) [9] mixed_Tryz ?_
 refine zp 0 rfl (q_move rfl rfl) ?_
 refine zp 1 rfl (q_nilCheck rfl rfl) ?_
 refine zk 2 (Cl.sel (by exact .take 0 rfl (.nil _))) rfl (q_loadC rfl rfl (by exact .head _) rfl) ?_
 refine zp 3 rfl (q_move rfl rfl) ?_
 refine zp 4 rfl (q_nilCheck rfl rfl) ?_
 refine zk 5 (Cl.sel (by exact .take 0 rfl (.nil _))) rfl (q_loadC rfl rfl (by exact .head _) rfl) ?_
 refine zp 6 rfl (q_shl rfl rfl rfl (by exact fun _ => ⟨by decide, by decide⟩)) ?_
 refine zp 7 rfl (q_xorU rfl rfl rfl) ?_
 refine zp 8 rfl (q_nilCheck rfl rfl) ?_
 refine aw_one0 9 (by kernel_rfl) rfl rfl rfl (e_store (i := 0) rfl rfl rfl rfl rfl rfl rfl rfl) (by intro hb; (exact absurd hb (by decide))) ?_
 refine aw_end (by kernel_rfl) ?_
 refine post_then (zr (zm rfl (zS rfl (q_nilCheck rfl rfl) ?_)))
 refine zS rfl (q_loadC rfl rfl (by exact .head _) rfl) ?_
 refine za rfl (nP (cw_ret (post_ret1 rfl (resOk_tmp rfl) ?_)))
 exact fun w' hw => ⟨_, rfl, wrapU_range _, hw⟩
theorem order2_spec (b : Nat) (c : Int) (sv : SlV) (l : List Rn) (i j : Nat) (hi : i < l.length) (hj : j < l.length) (hc : 0 ≤ c ∧ c < 1000000) (w : World) (bs : List Nat) (hR : Stb w bs (RdL sv.v l)) (hs : Sep [blk b [.int .i64 c] 3] w bs) (hn : bs.Nodup) (hlt : ∀ b ∈ bs, b < w.heap.size) :
   Calls Tryz.prog 208 #[sv.v, .int .i64 i, .int .i64 j, .pointer (some ⟨b, 0, none⟩)] w fun e w' => ∃ y : (Nat × Nat) × Int, e = .returned (.tuple #[.int .i64 y.1.1, .int .i64 y.1.2]) ∧ ((y.1 = (i, j) ∨ y.1 = (j, i)) ∧ c ≤ y.2 ∧ y.2 ≤ c + 1) ∧ Cl w bs [blk b [.int .i64 y.2] 3] w' := by
 refine calls_cw (vs := [_, _, _, _]) Tryz.func208 rfl Tryz.ntmps208 rfl (Cl.start hs hn hlt) (zr (za rfl (za rfl (nP (cw_seq (cw_seq ?_))))))
 refine cw_region_q mixed_Tryz (by kernel_rfl) ?_
 refine zw rfl (zw rfl ?_)
 refine zq rfl (q_indexN rfl rfl rfl (stA (by assumption)) (by intro hc; omega)) ?_
 refine zq rfl (q_loadF rfl rfl rfl (stA (by assumption)) (by intro hc; omega) rfl) ?_
 refine zw rfl (zw rfl ?_)
 refine zq rfl (q_indexN rfl rfl rfl (stA (by assumption)) (by intro hc; omega)) ?_
 refine zq rfl (q_loadF rfl rfl rfl (stA (by assumption)) (by intro hc; omega) rfl) ?_
 refine qw_step rfl rfl rfl (q_call (CanCall.mk Tryz.call180) rfl (.k rfl (.k rfl (.nil))) (fun _ w hw => callq hw (cmpLessR_spec _ _ w))) (qw_end (post_then ?_))
 refine cw_cond rfl (fun h => ?_) (fun h => ?_)
 · refine zr (zm rfl (zS rfl (q_nilCheck rfl rfl) ?_))
   refine zS rfl (q_loadC rfl rfl (by exact .head _) rfl) ?_
   refine zS rfl (q_add rfl rfl rfl (by intro hc; omega)) ?_
   refine zS rfl (q_nilCheck rfl rfl) (sw_eff0 rfl rfl (e_store (i := 0) rfl rfl rfl rfl rfl rfl rfl rfl) (nP (zr (zm rfl (zm rfl (za rfl (za rfl (sw_nil (post_then (cw_ret (post_then_r (post_ret2 rfl (resOk_tmp rfl) (resOk_tmp rfl) ?_))))))))))))
   exact fun w' hw => ⟨((j, i), c + 1), rfl, ⟨.inr rfl, by simp only; omega, by simp only; omega⟩, hw⟩
 · refine sP (zr (zm rfl (zm rfl (za rfl (za rfl (nP (cw_ret (post_ret2 rfl (resOk_tmp rfl) (resOk_tmp rfl) ?_))))))))
   exact fun w' hw => ⟨((i, j), c), rfl, ⟨.inl rfl, by simp only; omega, by simp only; omega⟩, hw⟩
theorem median_spec (b : Nat) (c : Int) (sv : SlV) (l : List Rn) (i j k : Nat) (hi : i < l.length) (hj : j < l.length) (hk : k < l.length) (hc : 0 ≤ c ∧ c < 900000) (w : World) (bs : List Nat) (hR : Stb w bs (RdL sv.v l)) (hs : Sep [blk b [.int .i64 c] 3] w bs) (hn : bs.Nodup) (hlt : ∀ b ∈ bs, b < w.heap.size) :
   Calls Tryz.prog 198 #[sv.v, .int .i64 i, .int .i64 j, .int .i64 k, .pointer (some ⟨b, 0, none⟩)] w fun e w' => ∃ y : Nat × Int, e = .returned (.int .i64 y.1) ∧ ((y.1 = i ∨ y.1 = j ∨ y.1 = k) ∧ c ≤ y.2 ∧ y.2 ≤ c + 3) ∧ Cl w bs [blk b [.int .i64 y.2] 3] w' := by
 refine calls_cw (vs := [_, _, _, _, _]) Tryz.func198 rfl Tryz.ntmps198 rfl (Cl.start hs hn hlt) (zr (za rfl (nP (cw_seq (cw_region (zm rfl (zm rfl (zm rfl (zm rfl ?_)))))))))
 refine sw_x rfl rfl rfl (e_callH (A := [blk b [.int .i64 c] 3]) (F := []) (CanCall.mk Tryz.call208) rfl rfl (.k rfl (.k rfl (.k rfl (.k rfl (.nil))))) (.refl _) (fun w bs h1 h2 h3 h4 _ => order2_spec b c sv l i j hi hj (by omega) w bs (h4 _ hR) h1 h2 h3)) (fun y1 => ?_)
 refine sw_imp fun h1 => ?_
 obtain ⟨⟨i1, j1⟩, c1⟩ := y1
 have g1 : i1 < l.length ∧ j1 < l.length ∧ (i1 = i ∨ i1 = j) ∧ (j1 = i ∨ j1 = j) := by
   rcases h1.1 with e | e <;> cases e <;> simp [hi, hj]
 dsimp only at h1 ⊢
 refine zm rfl (zS rfl (q_extract rfl rfl rfl) (zS rfl (q_extract rfl rfl rfl) (za rfl (za rfl (nP (zr (zm rfl (zm rfl (zm rfl (zm rfl ?_))))))))))
 refine sw_x rfl rfl rfl (e_callH (A := [blk b [.int .i64 c1] 3]) (F := []) (CanCall.mk Tryz.call208) rfl rfl (.k rfl (.k rfl (.k rfl (.k rfl (.nil))))) (.refl _) (fun w bs h1 h2 h3 h4 _ => order2_spec b c1 sv l j1 k g1.2.1 hk (by omega) w bs (h4 _ hR) h1 h2 h3)) (fun y2 => ?_)
 refine sw_imp fun h2 => ?_
 obtain ⟨⟨j2, k2⟩, c2⟩ := y2
 have g2 : j2 < l.length ∧ k2 < l.length ∧ (j2 = j1 ∨ j2 = k) ∧ (k2 = j1 ∨ k2 = k) := by
   rcases h2.1 with e | e <;> cases e <;> simp [g1, hk]
 dsimp only at h2 ⊢
 refine zm rfl (zS rfl (q_extract rfl rfl rfl) (zS rfl (q_extract rfl rfl rfl) (za rfl (za rfl (nP (zr (zm rfl (zm rfl (zm rfl (zm rfl ?_))))))))))
 refine sw_x rfl rfl rfl (e_callH (A := [blk b [.int .i64 c2] 3]) (F := []) (CanCall.mk Tryz.call208) rfl rfl (.k rfl (.k rfl (.k rfl (.k rfl (.nil))))) (.refl _) (fun w bs h1 h2 h3 h4 _ => order2_spec b c2 sv l i1 j2 g1.1 g2.1 (by omega) w bs (h4 _ hR) h1 h2 h3)) (fun y3 => ?_)
 refine sw_imp fun h3 => ?_
 obtain ⟨⟨i3, j3⟩, c3⟩ := y3
 have g3 : j3 = i1 ∨ j3 = j2 := by
   rcases h3.1 with e | e <;> cases e <;> simp
 dsimp only at h3 ⊢
 refine zm rfl (zS rfl (q_extract rfl rfl rfl) (zS rfl (q_extract rfl rfl rfl) (za rfl (za rfl (nP (zr (zm rfl (za rfl (sw_nil (post_then (cw_ret (post_ret1 rfl (resOk_tmp rfl) ?_))))))))))))
 exact fun w' hw => ⟨(j3, c3), rfl, ⟨by simp only; omega, by simp only; omega, by simp only; omega⟩, hw⟩
theorem medianAdj_spec (b : Nat) (c : Int) (sv : SlV) (l : List Rn) (i : Nat) (hi : i + 1 < l.length) (hi0 : 0 < i) (hl : l.length ≤ 1000000) (hc : 0 ≤ c ∧ c < 900000) (w : World) (bs : List Nat) (hR : Stb w bs (RdL sv.v l)) (hs : Sep [blk b [.int .i64 c] 3] w bs) (hn : bs.Nodup) (hlt : ∀ b ∈ bs, b < w.heap.size) :
   Calls Tryz.prog 197 #[sv.v, .int .i64 i, .pointer (some ⟨b, 0, none⟩)] w fun e w' => ∃ y : Nat × Int, e = .returned (.int .i64 y.1) ∧ ((i ≤ y.1 + 1 ∧ y.1 ≤ i + 1) ∧ c ≤ y.2 ∧ y.2 ≤ c + 3) ∧ Cl w bs [blk b [.int .i64 y.2] 3] w' := by
 refine calls_cw (vs := [_, _, _]) Tryz.func197 rfl Tryz.ntmps197 rfl (Cl.start hs hn hlt) (zr (za rfl (nP (cw_seq (cw_region (zm rfl (zm rfl ?_)))))))
 refine zS rfl (q_sub rfl rfl rfl (by intro hc; omega)) ?_
 refine zm rfl (zm rfl ?_)
 refine zS rfl (q_add rfl rfl rfl (by intro hc; omega)) ?_
 refine zm rfl ?_
 rw [show ((i : Int) - 1) = ((i - 1 : Nat) : Int) by omega, show ((i : Int) + 1) = ((i + 1 : Nat) : Int) by omega]
 refine sw_x rfl rfl rfl (e_callH (A := [blk b [.int .i64 c] 3]) (F := []) (CanCall.mk Tryz.call198) rfl rfl (.k rfl (.k rfl (.k rfl (.k rfl (.k rfl (.nil)))))) (.refl _) (fun w bs h1 h2 h3 h4 _ => median_spec b c sv l (i - 1) i (i + 1) (by omega) (by omega) (by omega) (by omega) w bs (h4 _ hR) h1 h2 h3)) (fun y1 => ?_)
 refine sw_imp fun h1 => (za rfl (nP (cw_ret (post_ret1 rfl (resOk_tmp rfl) ?_))))
 exact fun w' hw => ⟨y1, rfl, ⟨by omega, h1.2⟩, hw⟩
theorem choose_spec (sv : SlV) (l : List Rn) (a b : Nat) (hab : a + 8 < b) (hb : b ≤ l.length) (hl : l.length ≤ 1000000) (w : World) (hR : Stb w [] (RdL sv.v l)) :
   Calls Tryz.prog 177 #[sv.v, .int .i64 a, .int .i64 b] w fun e w' => ∃ y : Nat × Int, e = .returned (.tuple #[.int .i64 y.1, .int .i64 y.2]) ∧ (a ≤ y.1 ∧ y.1 < b) ∧ Cl w [] [] w' := by
 obtain ⟨n, hne⟩ : ∃ n, b = a + n := ⟨b - a, by omega⟩
 subst hne
 refine calls_cw (vs := [_, _, _]) Tryz.func177 rfl Tryz.ntmps177 rfl (Cl.start0 w) (zr (za rfl (za rfl (nP (cw_seq (cw_region (zm rfl (zm rfl ?_))))))))
 refine zS rfl (q_sub rfl rfl rfl (by intro hc; omega)) ?_
 refine za rfl (nP (zr ?_))
 refine sw_x rfl rfl rfl (e_alloc rfl) (fun b9 => ?_)
 refine nP (zr (zm rfl (zm rfl ?_)))
 refine zS rfl (q_quo rfl rfl rfl (by intro hc; omega)) ?_
 refine zS rfl (q_mul rfl rfl rfl (by intro hc; omega)) ?_
 refine zS rfl (q_add rfl rfl rfl (by intro hc; omega)) ?_
 refine za rfl (nP (zr (zm rfl (zm rfl ?_))))
 refine zS rfl (q_quo rfl rfl rfl (by intro hc; omega)) ?_
 refine zS rfl (q_mul rfl rfl rfl (by intro hc; omega)) ?_
 refine zS rfl (q_add rfl rfl rfl (by intro hc; omega)) ?_
 refine za rfl (nP (zr (zm rfl (zm rfl ?_))))
 refine zS rfl (q_quo rfl rfl rfl (by intro hc; omega)) ?_
 refine zS rfl (q_mul rfl rfl rfl (by intro hc; omega)) ?_
 refine zS rfl (q_add rfl rfl rfl (by intro hc; omega)) ?_
 refine za rfl (nP (cw_seq (zr (zm rfl (zS rfl (q_geq rfl rfl rfl) (sw_nil (post_then ?_)))))))
 obtain ⟨q, hq⟩ : ∃ q : Nat, n / 4 = q := ⟨_, rfl⟩
 have e1 : (((a + n : Nat) : Int) - (a : Int)) / 4 = (q : Int) := by omega
 have e2 : (a : Int) + (((a + n : Nat) : Int) - (a : Int)) / 4 * 1 = ((a + q : Nat) : Int) := by rw [e1]; omega
 have e3 : (a : Int) + (((a + n : Nat) : Int) - (a : Int)) / 4 * 2 = ((a + 2 * q : Nat) : Int) := by rw [e1]; omega
 have e4 : (a : Int) + (((a + n : Nat) : Int) - (a : Int)) / 4 * 3 = ((a + 3 * q : Nat) : Int) := by rw [e1]; omega
 rw [e2, e3, e4]
 refine cw_cut (S := Nat × Int) (fun y => [(9, [], .pointer (some ⟨b9, 0, none⟩)), (11, [], .int .i64 y.1)]) (fun y => Cl w [] [blk b9 [.int .i64 y.2] 3]) (fun y => a ≤ y.1 ∧ y.1 < a + n) ?_ ?_
 · -- STOP at: cond
   refine cw_cond rfl (fun h => ?_) (fun h => ?_)
   · refine cw_seq (zr (zm rfl (zS rfl (q_geq rfl rfl rfl) (nP ?_))))
     refine cw_cut (S := (Nat × Nat × Nat) × Int) (fun y => [(0, [], sv.v), (9, [], .pointer (some ⟨b9, 0, none⟩)), (10, [], .int .i64 y.1.1), (11, [], .int .i64 y.1.2.1), (12, [], .int .i64 y.1.2.2)]) (fun y => Cl w [] [blk b9 [.int .i64 y.2] 3]) (fun y => (a ≤ y.1.1 ∧ y.1.1 < a + n) ∧ (a ≤ y.1.2.1 ∧ y.1.2.1 < a + n) ∧ (a ≤ y.1.2.2 ∧ y.1.2.2 < a + n) ∧ 0 ≤ y.2 ∧ y.2 ≤ 9) ?_ ?_
     · -- STOP at: cond
       refine cw_cond rfl (fun h2 => ?_) (fun h2 => ?_)
       · have hn : 50 ≤ n := by simp at h2; omega
         refine zr (zm rfl (zm rfl ?_))
         refine sw_x rfl rfl rfl (e_callH (A := [blk b9 [.int .i64 0] 3]) (F := []) (CanCall.mk Tryz.call197) rfl rfl (.k rfl (.k rfl (.k rfl (.nil)))) (.refl _) (fun w bs h1 h2 h3 h4 _ => medianAdj_spec b9 0 sv l (a + q) (by omega) (by omega) hl (by omega) w bs (h4 _ hR) h1 h2 h3)) (fun y1 => ?_)
         refine sw_imp fun h1 => (za rfl (nP (zr (zm rfl (zm rfl ?_)))))
         refine sw_x rfl rfl rfl (e_callH (A := [blk b9 [.int .i64 y1.2] 3]) (F := []) (CanCall.mk Tryz.call197) rfl rfl (.k rfl (.k rfl (.k rfl (.nil)))) (.refl _) (fun w bs h1 h2 h3 h4 _ => medianAdj_spec b9 y1.2 sv l (a + 2 * q) (by omega) (by omega) hl (by omega) w bs (h4 _ hR) h1 h2 h3)) (fun y2 => ?_)
         refine sw_imp fun h2 => (za rfl (nP (cw_region (zm rfl (zm rfl ?_)))))
         refine sw_x rfl rfl rfl (e_callH (A := [blk b9 [.int .i64 y2.2] 3]) (F := []) (CanCall.mk Tryz.call197) rfl rfl (.k rfl (.k rfl (.k rfl (.nil)))) (.refl _) (fun w bs h1 h2 h3 h4 _ => medianAdj_spec b9 y2.2 sv l (a + 3 * q) (by omega) (by omega) hl (by omega) w bs (h4 _ hR) h1 h2 h3)) (fun y3 => ?_)
         refine sw_imp fun h3 => (za rfl (sw_nil ?_))
         exact post_meet ((y1.1, y2.1, y3.1), y3.2) (by exact .cons rfl (.cons rfl (.cons rfl (.cons rfl (.cons rfl .nil))))) (fun _ h => h) ⟨by simp only; omega, by simp only; omega, by simp only; omega, by simp only; omega⟩
       · refine cw_skip ?_
         exact post_meet ((a + q, a + 2 * q, a + 3 * q), 0) (by exact .cons rfl (.cons rfl (.cons rfl (.cons rfl (.cons rfl .nil))))) (fun _ h => h) ⟨by simp only; omega, by simp only; omega, by simp only; omega, by simp only; omega⟩
     rintro ⟨⟨i, j, k⟩, c⟩ ⟨hi, hj, hk, hc⟩
     dsimp only at hi hj hk hc
     refine post_then (cw_region (zm rfl (zm rfl (zm rfl (zm rfl ?_)))))
     refine sw_x rfl rfl rfl (e_callH (A := [blk b9 [.int .i64 c] 3]) (F := []) (CanCall.mk Tryz.call198) rfl rfl (.k rfl (.k rfl (.k rfl (.k rfl (.k rfl (.nil)))))) (.refl _) (fun w bs h1 h2 h3 h4 _ => median_spec b9 c sv l i j k (by omega) (by omega) (by omega) (by omega) w bs (h4 _ hR) h1 h2 h3)) (fun y1 => ?_)
     refine sw_imp fun h1 => (za rfl (sw_nil ?_))
     exact post_meet (y1.1, y1.2) (by exact .cons rfl (.cons rfl .nil)) (fun _ h => h) ⟨by simp only; omega, by simp only; omega⟩
   · simp at h; omega
 rintro ⟨p, c⟩ ⟨hp1, hp2⟩
 dsimp only at hp1 hp2
 refine post_then (zr ?_)
 refine zS rfl (q_loadC rfl rfl (by exact .head _) rfl) ?_
 refine nP (cw_block (zr (zS rfl (q_eql rfl rfl rfl) (za rfl (sw_nil (post_then ?_))))))
 refine cw_cond rfl (fun h => ?_) (fun h => ?_)
 · refine zr (zm rfl (za rfl (za rfl (nP (cw_ret (post_blk_r (post_ret2 rfl (resOk_tmp rfl) (resOk_tmp rfl) ?_)))))))
   exact fun w' hw => ⟨(p, 1), rfl, ⟨hp1, hp2⟩, (Cl.sel (by exact .nil _)) w' hw⟩
 · refine zr (zS rfl (q_eql rfl rfl rfl) (za rfl (nP ?_)))
   refine cw_cond rfl (fun h2 => ?_) (fun h2 => ?_)
   · refine zr (zm rfl (za rfl (za rfl (nP (cw_ret (post_blk_r (post_ret2 rfl (resOk_tmp rfl) (resOk_tmp rfl) ?_)))))))
     exact fun w' hw => ⟨(p, 2), rfl, ⟨hp1, hp2⟩, (Cl.sel (by exact .nil _)) w' hw⟩
   · refine zr (zm rfl (za rfl (za rfl (nP (cw_ret (post_blk_r (post_ret2 rfl (resOk_tmp rfl) (resOk_tmp rfl) ?_)))))))
     exact fun w' hw => ⟨(p, 0), rfl, ⟨hp1, hp2⟩, (Cl.sel (by exact .nil _)) w' hw⟩
theorem break_spec (sv : SlV) (l : List Rn) (a b : Nat) (hab : a + 8 < b) (hb : b ≤ l.length) (hl : l.length < 256) (w : World) (bs : List Nat) (hs : Sep [ownL 21 sv.v l] w bs) (hn : bs.Nodup) (hlt : ∀ b ∈ bs, b < w.heap.size) :
   Calls Tryz.prog 176 #[sv.v, .int .i64 a, .int .i64 b] w fun e w' => ∃ l' : List Rn, e = .returned (.tuple #[]) ∧ Mix l l' a b ∧ Cl w bs [ownL 21 sv.v l'] w' := by
 obtain ⟨n, hne⟩ : ∃ n, b = a + n := ⟨b - a, by omega⟩
 subst hne
 refine calls_cw (vs := [_, _, _]) Tryz.func176 rfl Tryz.ntmps176 rfl (Cl.start hs hn hlt) (zr (zm rfl (zm rfl ?_)))
 refine zS rfl (q_sub rfl rfl rfl (by intro hc; omega)) ?_
 refine za rfl (nP (zr (zm rfl (zS rfl (q_geq rfl rfl rfl) (sw_nil (post_then ?_))))))
 have e1 : ((a + n : Nat) : Int) - (a : Int) = (n : Int) := by omega
 rw [e1]
 refine cw_cond rfl (fun h => ?_) (fun h => ?_)
 · refine zr (zm rfl (zS rfl (q_conv rfl rfl) ?_))
   refine sw_x rfl rfl rfl (e_alloc rfl) (fun b7 => ?_)
   refine sw_eff0 rfl rfl (e_store (i := 0) rfl rfl rfl rfl rfl rfl rfl rfl) (nP (zr (zm rfl ?_)))
   refine sw_x rfl rfl rfl (e_call (CanCall.mk Tryz.call195) rfl (.k rfl (.nil)) (fun w hw => nextPow_spec n (by omega) w)) (fun m => ?_)
   refine sw_imp fun hm => (za rfl (nP (zr (zm rfl (zm rfl ?_)))))
   refine zS rfl (q_quo rfl rfl rfl (by intro hc; omega)) ?_
   refine zS rfl (q_mul rfl rfl rfl (by intro hc; omega)) ?_
   refine zS rfl (q_add rfl rfl rfl (by intro hc; omega)) ?_
   refine zS rfl (q_sub rfl rfl rfl (by intro hc; omega)) ?_
   refine za rfl (nP (cw_block ?_))
   obtain ⟨q, hq⟩ : ∃ q : Nat, n / 4 = q := ⟨_, rfl⟩
   have e2 : (a : Int) + (n : Int) / 4 * 2 - 1 = ((a + 2 * q - 1 : Nat) : Int) := by omega
   rw [e2]
   refine cw_loop (S := Nat × Int × List Rn) (fun y => [(0, [], sv.v), (1, [], .int .i64 a), (6, [], .int .i64 n), (7, [], .pointer (some ⟨b7, 0, none⟩)), (8, [], .int .u64 m), (9, [], .int .i64 y.1)]) (fun y => Cl w bs [blk b7 [.int .u64 y.2.1] 260, ownL 21 sv.v y.2.2]) (fun y => a + 2 * q ≤ y.1 + 1 ∧ y.1 ≤ a + 2 * q + 2 ∧ Mix l y.2.2 a (a + n)) (fun y => a + 2 * q + 2 - y.1) (a + 2 * q - 1, _, l) ⟨by simp only; omega, by simp only; omega, .refl _ _ _⟩ (by exact .cons rfl (.cons rfl (.cons rfl (.cons rfl (.cons rfl (.cons rfl .nil)))))) (fun _ h => h) ?_
   rintro ⟨i, x, u⟩ ⟨hi1, hi2, hu⟩
   dsimp only at hi1 hi2 hu ⊢
   have hul := hu.len
   refine cw_seq (zr (zm rfl (zm rfl (zm rfl ?_))))
   refine zS rfl (q_quo rfl rfl rfl (by intro hc; omega)) ?_
   refine zS rfl (q_mul rfl rfl rfl (by intro hc; omega)) ?_
   refine zS rfl (q_add rfl rfl rfl (by intro hc; omega)) ?_
   refine zS rfl (q_add rfl rfl rfl (by intro hc; omega)) ?_
   refine zS rfl (q_leq rfl rfl rfl) (nP ?_)
   refine cw_cond rfl (fun h2 => ?_) (fun h2 => ?_)
   · have hi3 : i ≤ a + 2 * q + 1 := by simp at h2; omega
     refine sP (cw_seq (cw_block (zr ?_)))
     refine sw_x rfl rfl rfl (e_callH (A := [blk b7 [.int .u64 x] 260]) (F := [ownL 21 sv.v u]) (CanCall.mk Tryz.call196) rfl rfl (.k rfl (.nil)) (.refl _) (fun w bs h1 h2 h3 _ _ => next_spec b7 x w bs h1 h2 h3)) (fun y36 => ?_)
     refine sw_imp fun hy => (zm rfl (zS rfl (q_sub_w rfl rfl rfl) ?_))
     have e3 : IntKind.u64.wrap ((m : Int) - 1) = ((m - 1 : Nat) : Int) := by
       rw [show (m : Int) - 1 = ((m - 1 : Nat) : Int) by omega]; exact wrap_u64 (by omega)
     rw [e3]
     refine zS rfl (q_andU rfl rfl rfl (fun _ => ⟨hy, by omega⟩)) ?_
     refine zS rfl (q_conv rfl rfl) (za rfl (nP (cw_seq (zr (zm rfl (zm rfl (zS rfl (q_geq rfl rfl rfl) (sw_nil (post_then ?_)))))))))
     have e4 : (y36.toNat &&& ((m - 1 : Nat) : Int).toNat) ≤ m - 1 := Nat.and_le_right
     generalize y36.toNat &&& ((m - 1 : Nat) : Int).toNat = r at e4
     have e5 : IntKind.i64.wrap (r : Int) = r := by simp only [IntKind.wrap, IntKind.signed, IntKind.bits]; simp; omega
     rw [e5]
     refine cw_cut (S := Nat) (fun r => [(0, [], sv.v), (1, [], .int .i64 a), (6, [], .int .i64 n), (7, [], .pointer (some ⟨b7, 0, none⟩)), (8, [], .int .u64 m), (9, [], .int .i64 i), (10, [], .int .i64 r)]) (fun _ => Cl w bs [blk b7 [.int .u64 y36] 260, ownL 21 sv.v u]) (fun r => r < n) ?_ ?_
     · -- STOP at: cond
       refine cw_cond rfl (fun h3 => ?_) (fun h3 => ?_)
       · have h4 : n ≤ r := by simp at h3; omega
         refine cw_region (zm rfl (zm rfl ?_))
         refine zS rfl (q_sub rfl rfl rfl (by intro hc; omega)) ?_
         refine za rfl (sw_nil ?_)
         exact post_meet (r - n) (by exact .cons rfl (.cons rfl (.cons rfl (.cons rfl (.cons rfl (.cons rfl (.cons' rfl (by congr 1; first | omega | (simp only; omega)) .nil))))))) (fun _ h => h) (by omega)
       · have h4 : r < n := by simp at h3; omega
         refine cw_skip ?_
         exact post_meet r (by exact .cons rfl (.cons rfl (.cons rfl (.cons rfl (.cons rfl (.cons rfl (.cons rfl .nil))))))) (fun _ h => h) h4
     rintro r hr
     refine post_then (cw_region_a (Cl w bs [blk b7 [.int .u64 y36] 260, ownL 21 sv.v u]) [17, 18, 19] mixed_Tryz ?_)
     refine zp 0 rfl (q_move rfl rfl) ?_
     refine zp 1 rfl (q_move rfl rfl) ?_
     refine zp 2 rfl (q_move rfl rfl) ?_
     refine zp 3 rfl (q_move rfl rfl) ?_
     refine zp 4 rfl (q_move rfl rfl) ?_
     refine zp 5 rfl (q_add rfl rfl rfl (by intro hc; omega)) ?_
     refine zp 6 rfl (q_move rfl rfl) ?_
     refine zp 7 rfl (q_move rfl rfl) ?_
     refine zp 8 rfl (q_move rfl rfl) ?_
     refine zp 9 rfl (q_add rfl rfl rfl (by intro hc; omega)) ?_
     refine zk 10 (Cl.sel (by exact .take 0 rfl (.take 0 rfl (.nil _)))) rfl (q_indexN rfl rfl rfl (rdO (by exact .tail _ (.head _))) (by intro hc; omega)) ?_
     refine zk 11 (Cl.sel (by exact .take 0 rfl (.take 0 rfl (.nil _)))) rfl (q_loadF rfl rfl rfl (rdO (by exact .tail _ (.head _))) (by intro hc; omega) rfl) ?_
     refine zp 12 rfl (q_move rfl rfl) ?_
     refine zp 13 rfl (q_move rfl rfl) ?_
     refine zk 14 (Cl.sel (by exact .take 0 rfl (.take 0 rfl (.nil _)))) rfl (q_indexN rfl rfl rfl (rdO (by exact .tail _ (.head _))) (by intro hc; omega)) ?_
     refine zk 15 (Cl.sel (by exact .take 0 rfl (.take 0 rfl (.nil _)))) rfl (q_loadF rfl rfl rfl (rdO (by exact .tail _ (.head _))) (by intro hc; omega) rfl) ?_
     refine zk 16 (Cl.sel (by exact .take 0 rfl (.take 0 rfl (.nil _)))) rfl (q_indexN rfl rfl rfl (rdO (by exact .tail _ (.head _))) (by intro hc; omega)) ?_
     refine aw_one0 17 (by kernel_rfl) rfl rfl rfl (e_storeEl1 (i := 1) rfl rfl rfl rfl rfl (by omega)) (by intro hb; (exact absurd hb (by decide))) ?_
     refine aw_q 18 (by kernel_rfl) rfl rfl rfl rfl (OpR.q (q_indexN rfl rfl rfl (rdO (by exact .tail _ (.head _))) (by intro hc; (simp only [List.length_set, List.length_append, List.length_cons, List.length_nil, List.length_replicate, List.length_take, List.length_drop, List.length_map]; omega)))) (by intro hb; (exact absurd hb (by decide))) ?_
     refine aw_one0 19 (by kernel_rfl) rfl rfl rfl (e_storeEl1 (i := 1) rfl rfl rfl rfl rfl (by (simp only [List.length_set, List.length_append, List.length_cons, List.length_nil, List.length_replicate, List.length_take, List.length_drop, List.length_map]; omega))) (by intro hb; (exact absurd hb (by decide))) ?_
     refine aw_end (by kernel_rfl) ?_
     refine post_blk (post_then (cw_region (zm rfl ?_)))
     refine zS rfl (q_add rfl rfl rfl (by intro hc; omega)) ?_
     refine za rfl (sw_nil ?_)
     refine post_next (i + 1, y36, swp u i (a + r)) (by exact .cons rfl (.cons rfl (.cons rfl (.cons rfl (.cons rfl (.cons rfl .nil)))))) (fun w3 hw3 => hw3) ⟨by simp only; omega, by simp only; omega, hu.swp (by omega) (by omega) hb⟩ (by simp only; omega)
   · refine cw_exit (post_then_x (post_then_x (post_blk_eq (post_end0 rfl ?_))))
     exact fun w' hw => ⟨u, rfl, hu, (Cl.sel (by exact .take 1 rfl (.nil _))) w' hw⟩
 · simp at h; omega
end Go.Proofs.YtkmbliojafefdaaGreatDoor

set_option autoImplicit false
set_option maxRecDepth 100000
set_option maxHeartbeats 2000000
namespace Go.Proofs.YtkmbliojafefdaaGreatDoor
open Go.Sx
open Enc (enc val)
theorem Srt.step {u : List Rn} {a i : Nat} (h : Srt u a i) (hi : a < i) (hc : ¬ (nth u i).v < (nth u (i - 1)).v) : Srt u a (i + 1) := fun p q h1 h2 h3 => by
 by_cases e : q = i
 · subst e
   by_cases e2 : p = q - 1
   · subst e2; omega
   · have := h p (q - 1) h1 (by omega) (by omega); omega
 · exact h p q h1 h2 (by omega)
def Low (u : List Rn) (a b : Nat) : Prop := a = 0 ∨ ∀ q, a ≤ q → q < b → (nth u (a - 1)).v ≤ (nth u q).v
theorem Low.mix {l u : List Rn} {a b : Nat} (h : Low l a b) (hm : Mix l u a b) (hab : a ≤ b) (hb : b ≤ l.length) : Low u a b := by
 rcases h with h | h
 · exact .inl h
 · by_cases e : a = 0
   · exact .inl e
   · refine .inr fun q h1 h2 => ?_
     obtain ⟨r, g1, g2, g3⟩ := hm.mem hab hb h1 h2
     rw [hm.out (a - 1) (.inl (by omega)), ← g3]
     exact h r g1 g2
theorem partial_spec (sv : SlV) (l : List Rn) (a b : Nat) (hab : a < b) (hb : b ≤ l.length) (hl : l.length < 256) (hlow : Low l a b) (w : World) (bs : List Nat) (hs : Sep [ownL 21 sv.v l] w bs) (hn : bs.Nodup) (hlt : ∀ b ∈ bs, b < w.heap.size) :
   Calls Tryz.prog 179 #[sv.v, .int .i64 a, .int .i64 b] w fun e w' => ∃ y : Bool × List Rn, e = .returned (.bool y.1) ∧ (Mix l y.2 a b ∧ (y.1 = true → Srt y.2 a b)) ∧ Cl w bs [ownL 21 sv.v y.2] w' := by
 refine calls_cw (vs := [_, _, _]) Tryz.func179 rfl Tryz.ntmps179 rfl (Cl.start hs hn hlt) (zr (za rfl (nP (cw_seq (cw_region (zm rfl ?_))))))
 refine zS rfl (q_add rfl rfl rfl (by intro hc; omega)) ?_
 refine za rfl (nP (cw_seq (zr (za rfl (sw_nil (post_then (cw_block ?_)))))))
 refine cw_loop (S := (Nat × Nat) × List Rn) (fun y => [(0, [], sv.v), (1, [], .int .i64 a), (2, [], .int .i64 b), (7, [], .int .i64 y.1.1), (8, [], .int .i64 y.1.2)]) (fun y => Cl w bs [ownL 21 sv.v y.2]) (fun y => a < y.1.1 ∧ y.1.1 ≤ b ∧ y.1.2 ≤ 5 ∧ Mix l y.2 a b ∧ Srt y.2 a y.1.1) (fun y => 6 - y.1.2) ((a + 1, 0), l) ⟨by simp only; omega, by simp only; omega, by simp only; omega, .refl _ _ _, fun p q h1 h2 h3 => by simp only at h3; omega⟩ (by exact .cons rfl (.cons rfl (.cons rfl (.cons rfl (.cons rfl .nil))))) (fun _ h => h) ?_
 rintro ⟨⟨i0, k⟩, u⟩ ⟨hi1, hi2, hk, hu, hsr⟩
 dsimp only at hi1 hi2 hk hu hsr ⊢
 have hul := hu.len
 refine cw_seq (zr (zm rfl (zS rfl (q_lss rfl rfl rfl) (nP ?_))))
 refine cw_cond rfl (fun h => ?_) (fun h => ?_)
 · have hk5 : k < 5 := by simp at h; omega
   refine sP (cw_seq (cw_block (cw_seq (cw_block ?_))))
   refine cw_loop (S := Nat) (fun i => [(0, [], sv.v), (1, [], .int .i64 a), (2, [], .int .i64 b), (7, [], .int .i64 i), (8, [], .int .i64 k)]) (fun _ => Cl w bs [ownL 21 sv.v u]) (fun i => a < i ∧ i ≤ b ∧ Srt u a i) (fun i => b - i) i0 ⟨hi1, hi2, hsr⟩ (by exact .cons rfl (.cons rfl (.cons rfl (.cons rfl (.cons rfl .nil))))) (fun _ h => h) ?_
   rintro i ⟨hia, hib, hsi⟩
   dsimp only
   have ei : ((i : Int) - 1).toNat = i - 1 := by omega
   refine cw_seq (cw_seq ?_)
   refine cw_region_q mixed_Tryz (by kernel_rfl) ?_
   refine zw rfl (zw rfl (zq rfl (q_lss rfl rfl rfl) (zw rfl (zw rfl (zw rfl ?_)))))
   refine zq rfl (q_indexN rfl rfl rfl (rdO (by exact .head _)) (by intro hc; (simp only [AllT.iff, List.all_cons, List.all_nil, id, Bool.and_eq_true, Bool.not_eq_true', decide_eq_true_eq, decide_eq_false_iff_not, and_true] at hc; omega))) ?_
   refine zq rfl (q_loadF rfl rfl rfl (rdO (by exact .head _)) (by intro hc; (simp only [AllT.iff, List.all_cons, List.all_nil, id, Bool.and_eq_true, Bool.not_eq_true', decide_eq_true_eq, decide_eq_false_iff_not, and_true] at hc; omega)) rfl) ?_
   refine zw rfl (zw rfl ?_)
   refine zq rfl (q_sub rfl rfl rfl (by intro hc; omega)) ?_
   refine zq rfl (q_index rfl rfl rfl (rdO (by exact .head _)) (by intro hc; omega)) ?_
   refine zq rfl (q_loadF rfl rfl rfl (rdO (by exact .head _)) (by intro hc; omega) rfl) ?_
   refine qw_step rfl rfl rfl (q_call (CanCall.mk Tryz.call180) rfl (.k rfl (.k rfl (.nil))) (fun _ w hw => callq hw (cmpLessR_spec _ _ w))) (zq rfl (q_not rfl rfl) (zq rfl (q_and2 rfl rfl rfl) (qw_end (post_then ?_))))
   refine cw_cond rfl (fun h2 => ?_) (fun h2 => ?_)
   · have h3 : i < b ∧ ¬ (nth u i).v < (nth u (i - 1)).v := by
       rw [ei] at h2
       simp at h2; omega
     refine sP (cw_block (cw_region (zm rfl ?_)))
     refine zS rfl (q_add rfl rfl rfl (by intro hc; omega)) ?_
     refine za rfl (sw_nil (post_blk ?_))
     exact post_next (i + 1) (by exact .cons rfl (.cons rfl (.cons rfl (.cons rfl (.cons rfl .nil))))) (fun _ h => h) ⟨by omega, by omega, hsi.step hia h3.2⟩ (by omega)
   · have h3 : i < b → (nth u i).v < (nth u (i - 1)).v := fun hh => by
       rw [ei] at h2
       simp at h2; omega
     refine cw_exit (post_then_x (post_then_x (post_blk_eq (post_then (cw_seq (zr (zm rfl (zm rfl (zS rfl (q_eql rfl rfl rfl) (nP ?_))))))))))
     refine cw_cond rfl (fun h4 => ?_) (fun h4 => ?_)
     · have h5 : i = b := by simp at h4; omega
       subst h5
       refine zr (za rfl (nP (cw_ret (post_then_r (post_blk_r (post_then_r (post_then_r (post_blk_r (post_then_r (post_ret1 rfl (resOk_tmp rfl) ?_))))))))))
       exact fun w' hw => ⟨(true, u), rfl, ⟨hu, fun _ => hsi⟩, hw⟩
     · have h5 : i < b := by simp at h4; omega
       refine sP (cw_seq (zr (zm rfl (zm rfl ?_))))
       refine zS rfl (q_sub rfl rfl rfl (by intro hc; omega)) ?_
       refine zS rfl (q_lss rfl rfl rfl) (nP ?_)
       refine cw_cond rfl (fun h6 => ?_) (fun h6 => ?_)
       · refine zr (za rfl (nP (cw_ret (post_then_r (post_blk_r (post_then_r (post_then_r (post_blk_r (post_then_r (post_ret1 rfl (resOk_tmp rfl) ?_))))))))))
         exact fun w' hw => ⟨(false, u), rfl, ⟨hu, fun h => by cases h⟩, hw⟩
       · refine sP (cw_seq (cw_region_a (Cl w bs [ownL 21 sv.v u]) [15, 16, 17] mixed_Tryz ?_))
         refine zp 0 rfl (q_move rfl rfl) ?_
         refine zp 1 rfl (q_move rfl rfl) ?_
         refine zp 2 rfl (q_move rfl rfl) ?_
         refine zp 3 rfl (q_move rfl rfl) ?_
         refine zp 4 rfl (q_sub rfl rfl rfl (by intro hc; omega)) ?_
         refine zp 5 rfl (q_move rfl rfl) ?_
         refine zp 6 rfl (q_move rfl rfl) ?_
         refine zp 7 rfl (q_sub rfl rfl rfl (by intro hc; omega)) ?_
         refine zk 8 (Cl.sel (by exact .take 0 rfl (.nil _))) rfl (q_index rfl rfl rfl (rdO (by exact .head _)) (by intro hc; omega)) ?_
         refine zk 9 (Cl.sel (by exact .take 0 rfl (.nil _))) rfl (q_loadF rfl rfl rfl (rdO (by exact .head _)) (by intro hc; omega) rfl) ?_
         refine zp 10 rfl (q_move rfl rfl) ?_
         refine zp 11 rfl (q_move rfl rfl) ?_
         refine zk 12 (Cl.sel (by exact .take 0 rfl (.nil _))) rfl (q_indexN rfl rfl rfl (rdO (by exact .head _)) (by intro hc; omega)) ?_
         refine zk 13 (Cl.sel (by exact .take 0 rfl (.nil _))) rfl (q_loadF rfl rfl rfl (rdO (by exact .head _)) (by intro hc; omega) rfl) ?_
         refine zk 14 (Cl.sel (by exact .take 0 rfl (.nil _))) rfl (q_indexN rfl rfl rfl (rdO (by exact .head _)) (by intro hc; omega)) ?_
         refine aw_one0 15 (by kernel_rfl) rfl rfl rfl (e_storeEl1 (i := 0) rfl rfl rfl rfl rfl (by omega)) (by intro hb; (exact absurd hb (by decide))) ?_
         refine aw_q 16 (by kernel_rfl) rfl rfl rfl rfl (OpR.q (q_index rfl rfl rfl (rdO (by exact .head _)) (by intro hc; (simp only [List.length_set, List.length_append, List.length_cons, List.length_nil, List.length_replicate, List.length_take, List.length_drop, List.length_map]; omega)))) (by intro hb; (exact absurd hb (by decide))) ?_
         refine aw_one0 17 (by kernel_rfl) rfl rfl rfl (e_storeEl1 (i := 0) rfl rfl rfl rfl rfl (by (simp only [List.length_set, List.length_append, List.length_cons, List.length_nil, List.length_replicate, List.length_take, List.length_drop, List.length_map]; omega))) (by intro hb; (exact absurd hb (by decide))) ?_
         refine aw_end (by kernel_rfl) ?_
         refine post_then (cw_seq (zr (zm rfl (zm rfl ?_))))
         refine zS rfl (q_sub rfl rfl rfl (by intro hc; omega)) ?_
         refine zS rfl (q_geq rfl rfl rfl) (nP ?_)
         have e2 : (u.set i (nth u ((i : Int) - 1).toNat)).set ((i : Int) - 1).toNat (nth u i) = swp u i (i - 1) := by rw [ei]; rfl
         have hsn := fun q => swp_nth (l := u) (i := i) (j := i - 1) (by omega) (by omega) q
         refine cw_cut (S := List Rn) (fun _ => [(0, [], sv.v), (1, [], .int .i64 a), (2, [], .int .i64 b), (7, [], .int .i64 i), (8, [], .int .i64 k)]) (fun v => Cl w bs [ownL 21 sv.v v]) (fun v => Mix l v a b ∧ Srt v a i) ?_ ?_
         · -- STOP at: cond
           refine cw_cond rfl (fun h7 => ?_) (fun h7 => ?_)
           · refine zr (zm rfl ?_)
             refine zS rfl (q_sub rfl rfl rfl (by intro hc; omega)) ?_
             refine za rfl (nP (cw_block ?_))
             rw [show ((i : Int) - 1) = ((i - 1 : Nat) : Int) by omega]
             refine cw_loop (S := Nat × List Rn) (fun y => [(0, [], sv.v), (1, [], .int .i64 a), (2, [], .int .i64 b), (7, [], .int .i64 i), (8, [], .int .i64 k), (9, [], .int .i64 y.1)]) (fun y => Cl w bs [ownL 21 sv.v y.2]) (fun y => a ≤ y.1 ∧ y.1 < i ∧ Mix l y.2 a b ∧ SrtBut y.2 a i y.1) (fun y => y.1) (i - 1, swp u i (i - 1)) ⟨by simp only; omega, by simp only; omega, hu.swp (by omega) (by omega) hb, fun p q g1 g2 g3 g4 => ?_⟩ (by exact .cons rfl (.cons rfl (.cons rfl (.cons rfl (.cons rfl (.cons rfl .nil)))))) (fun _ h => by first | exact h | (rw [← e2]; exact h)) ?_
             · simp only at g4 ⊢
               rw [hsn, hsn, if_neg (by omega), if_neg (by omega), if_neg (by omega), if_neg (by omega)]
               exact hsi p q g1 g2 g3
             rintro ⟨j, v⟩ ⟨hj1, hj2, hv, hsv⟩
             dsimp only at hj1 hj2 hv hsv ⊢
             have hvl := hv.len
             have hlv := hlow.mix hv (by omega) hb
             have ej : ((j : Int) - 1).toNat = j - 1 := by omega
             refine cw_seq (zr (zm rfl (zS rfl (q_geq rfl rfl rfl) (nP ?_))))
             refine cw_cond rfl (fun h8 => ?_) (fun h8 => ?_)
             · have h9 : 1 ≤ j := by simp at h8; omega
               refine sP (cw_seq (cw_block (cw_seq (cw_seq ?_))))
               refine cw_region_q mixed_Tryz (by kernel_rfl) ?_
               refine zw rfl (zw rfl ?_)
               refine zq rfl (q_indexN rfl rfl rfl (rdO (by exact .head _)) (by intro hc; omega)) ?_
               refine zq rfl (q_loadF rfl rfl rfl (rdO (by exact .head _)) (by intro hc; omega) rfl) ?_
               refine zw rfl (zw rfl ?_)
               refine zq rfl (q_sub rfl rfl rfl (by intro hc; omega)) ?_
               refine zq rfl (q_index rfl rfl rfl (rdO (by exact .head _)) (by intro hc; omega)) ?_
               refine zq rfl (q_loadF rfl rfl rfl (rdO (by exact .head _)) (by intro hc; omega) rfl) ?_
               refine qw_step rfl rfl rfl (q_call (CanCall.mk Tryz.call180) rfl (.k rfl (.k rfl (.nil))) (fun _ w hw => callq hw (cmpLessR_spec _ _ w))) (zq rfl (q_not rfl rfl) (qw_end (post_then ?_)))
               refine cw_cond rfl (fun h10 => ?_) (fun h10 => ?_)
               · have h11 : ¬ (nth v j).v < (nth v (j - 1)).v := by
                   rw [ej] at h10
                   simp at h10; omega
                 refine cw_exit (post_then_x (post_blk_ne rfl (post_then_x (post_then_x (post_blk_eq ?_)))))
                 exact post_meet v (by exact .cons rfl (.cons rfl (.cons rfl (.cons rfl (.cons rfl .nil))))) (fun _ h => h) ⟨hv, srt_of_but hsv (.inr (by omega))⟩
               · have h11 : (nth v j).v < (nth v (j - 1)).v := by
                   rw [ej] at h10
                   simp at h10; omega
                 have h12 : a < j := by
                   rcases Nat.lt_or_ge a j with g | g
                   · exact g
                   · have e : j = a := by omega
                     subst e
                     rcases hlv with g2 | g2
                     · omega
                     · have := g2 j (Nat.le_refl _) (by omega); omega
                 refine sP (cw_region_a (Cl w bs [ownL 21 sv.v v]) [15, 16, 17] mixed_Tryz ?_)
                 refine zp 0 rfl (q_move rfl rfl) ?_
                 refine zp 1 rfl (q_move rfl rfl) ?_
                 refine zp 2 rfl (q_move rfl rfl) ?_
                 refine zp 3 rfl (q_move rfl rfl) ?_
                 refine zp 4 rfl (q_sub rfl rfl rfl (by intro hc; omega)) ?_
                 refine zp 5 rfl (q_move rfl rfl) ?_
                 refine zp 6 rfl (q_move rfl rfl) ?_
                 refine zp 7 rfl (q_sub rfl rfl rfl (by intro hc; omega)) ?_
                 refine zk 8 (Cl.sel (by exact .take 0 rfl (.nil _))) rfl (q_index rfl rfl rfl (rdO (by exact .head _)) (by intro hc; omega)) ?_
                 refine zk 9 (Cl.sel (by exact .take 0 rfl (.nil _))) rfl (q_loadF rfl rfl rfl (rdO (by exact .head _)) (by intro hc; omega) rfl) ?_
                 refine zp 10 rfl (q_move rfl rfl) ?_
                 refine zp 11 rfl (q_move rfl rfl) ?_
                 refine zk 12 (Cl.sel (by exact .take 0 rfl (.nil _))) rfl (q_indexN rfl rfl rfl (rdO (by exact .head _)) (by intro hc; omega)) ?_
                 refine zk 13 (Cl.sel (by exact .take 0 rfl (.nil _))) rfl (q_loadF rfl rfl rfl (rdO (by exact .head _)) (by intro hc; omega) rfl) ?_
                 refine zk 14 (Cl.sel (by exact .take 0 rfl (.nil _))) rfl (q_indexN rfl rfl rfl (rdO (by exact .head _)) (by intro hc; omega)) ?_
                 refine aw_one0 15 (by kernel_rfl) rfl rfl rfl (e_storeEl1 (i := 0) rfl rfl rfl rfl rfl (by omega)) (by intro hb; (exact absurd hb (by decide))) ?_
                 refine aw_q 16 (by kernel_rfl) rfl rfl rfl rfl (OpR.q (q_index rfl rfl rfl (rdO (by exact .head _)) (by intro hc; (simp only [List.length_set, List.length_append, List.length_cons, List.length_nil, List.length_replicate, List.length_take, List.length_drop, List.length_map]; omega)))) (by intro hb; (exact absurd hb (by decide))) ?_
                 refine aw_one0 17 (by kernel_rfl) rfl rfl rfl (e_storeEl1 (i := 0) rfl rfl rfl rfl rfl (by (simp only [List.length_set, List.length_append, List.length_cons, List.length_nil, List.length_replicate, List.length_take, List.length_drop, List.length_map]; omega))) (by intro hb; (exact absurd hb (by decide))) ?_
                 refine aw_end (by kernel_rfl) ?_
                 refine post_blk (post_then (cw_region (zm rfl ?_)))
                 refine zS rfl (q_sub rfl rfl rfl (by intro hc; omega)) ?_
                 refine za rfl (sw_nil ?_)
                 have e2 : (v.set j (nth v ((j : Int) - 1).toNat)).set ((j : Int) - 1).toNat (nth v j) = swp v j (j - 1) := by rw [ej]; rfl
                 exact post_next (j - 1, swp v j (j - 1)) (by exact .cons rfl (.cons rfl (.cons rfl (.cons rfl (.cons rfl (.cons' rfl (by congr 1; first | omega | (simp only; omega)) .nil)))))) (fun w3 hw3 => by rw [← e2]; exact hw3) ⟨by simp only; omega, by simp only; omega, hv.swp (by omega) (by omega) hb, srtBut_swp hsv (by omega) (by omega) (by omega) h11⟩ (by simp only; omega)
             · have h9 : j = 0 := by simp at h8; omega
               refine cw_exit (post_then_x (post_then_x (post_blk_eq ?_)))
               exact post_meet v (by exact .cons rfl (.cons rfl (.cons rfl (.cons rfl (.cons rfl .nil))))) (fun _ h => h) ⟨hv, srt_of_but hsv (.inl (by omega))⟩
           · have h8 : i = a + 1 := by simp at h7; omega
             refine cw_skip ?_
             exact post_meet (swp u i (i - 1)) (by exact .cons rfl (.cons rfl (.cons rfl (.cons rfl (.cons rfl .nil))))) (fun _ h => by rw [← e2]; exact h) ⟨hu.swp (by omega) (by omega) hb, fun p q g1 g2 g3 => by omega⟩
         rintro v ⟨hv, hsv⟩
         have hvl := hv.len
         refine post_then (zr (zm rfl (zm rfl ?_)))
         refine zS rfl (q_sub rfl rfl rfl (by intro hc; omega)) ?_
         refine zS rfl (q_geq rfl rfl rfl) (nP ?_)
         refine cw_cond rfl (fun h7 => ?_) (fun h7 => ?_)
         · refine zr (zm rfl ?_)
           refine zS rfl (q_add rfl rfl rfl (by intro hc; omega)) ?_
           refine za rfl (nP (cw_block ?_))
           refine cw_loop (S := Nat × List Rn) (fun y => [(0, [], sv.v), (1, [], .int .i64 a), (2, [], .int .i64 b), (7, [], .int .i64 i), (8, [], .int .i64 k), (10, [], .int .i64 y.1)]) (fun y => Cl w bs [ownL 21 sv.v y.2]) (fun y => i < y.1 ∧ y.1 ≤ b ∧ Mix l y.2 a b ∧ Srt y.2 a i) (fun y => b - y.1) (i + 1, v) ⟨by simp only; omega, by simp only; omega, hv, hsv⟩ (by exact .cons rfl (.cons rfl (.cons rfl (.cons rfl (.cons rfl (.cons rfl .nil)))))) (fun _ h => h) ?_
           rintro ⟨j, x⟩ ⟨hj1, hj2, hx, hsx⟩
           dsimp only at hj1 hj2 hx hsx ⊢
           have hxl := hx.len
           have ej : ((j : Int) - 1).toNat = j - 1 := by omega
           refine cw_seq (zr (zm rfl (zm rfl (zS rfl (q_lss rfl rfl rfl) (nP ?_)))))
           refine cw_cond rfl (fun h8 => ?_) (fun h8 => ?_)
           · have h9 : j < b := by simp at h8; omega
             refine sP (cw_seq (cw_block (cw_seq (cw_seq ?_))))
             refine cw_region_q mixed_Tryz (by kernel_rfl) ?_
             refine zw rfl (zw rfl ?_)
             refine zq rfl (q_indexN rfl rfl rfl (rdO (by exact .head _)) (by intro hc; omega)) ?_
             refine zq rfl (q_loadF rfl rfl rfl (rdO (by exact .head _)) (by intro hc; omega) rfl) ?_
             refine zw rfl (zw rfl ?_)
             refine zq rfl (q_sub rfl rfl rfl (by intro hc; omega)) ?_
             refine zq rfl (q_index rfl rfl rfl (rdO (by exact .head _)) (by intro hc; omega)) ?_
             refine zq rfl (q_loadF rfl rfl rfl (rdO (by exact .head _)) (by intro hc; omega) rfl) ?_
             refine qw_step rfl rfl rfl (q_call (CanCall.mk Tryz.call180) rfl (.k rfl (.k rfl (.nil))) (fun _ w hw => callq hw (cmpLessR_spec _ _ w))) (zq rfl (q_not rfl rfl) (qw_end (post_then ?_)))
             refine cw_cond rfl (fun h10 => ?_) (fun h10 => ?_)
             · refine cw_exit (post_then_x (post_blk_ne rfl (post_then_x (post_then_x (post_blk_eq (post_blk (post_then (cw_region (zm rfl ?_)))))))))
               refine zS rfl (q_add rfl rfl rfl (by intro hc; omega)) ?_
               refine za rfl (sw_nil ?_)
               exact post_next ((i, k + 1), x) (by exact .cons rfl (.cons rfl (.cons rfl (.cons rfl (.cons rfl .nil))))) (fun _ h => h) ⟨by simp only; omega, by simp only; omega, by simp only; omega, hx, hsx⟩ (by simp only; omega)
             · refine sP (cw_region_a (Cl w bs [ownL 21 sv.v x]) [15, 16, 17] mixed_Tryz ?_)
               refine zp 0 rfl (q_move rfl rfl) ?_
               refine zp 1 rfl (q_move rfl rfl) ?_
               refine zp 2 rfl (q_move rfl rfl) ?_
               refine zp 3 rfl (q_move rfl rfl) ?_
               refine zp 4 rfl (q_sub rfl rfl rfl (by intro hc; omega)) ?_
               refine zp 5 rfl (q_move rfl rfl) ?_
               refine zp 6 rfl (q_move rfl rfl) ?_
               refine zp 7 rfl (q_sub rfl rfl rfl (by intro hc; omega)) ?_
               refine zk 8 (Cl.sel (by exact .take 0 rfl (.nil _))) rfl (q_index rfl rfl rfl (rdO (by exact .head _)) (by intro hc; omega)) ?_
               refine zk 9 (Cl.sel (by exact .take 0 rfl (.nil _))) rfl (q_loadF rfl rfl rfl (rdO (by exact .head _)) (by intro hc; omega) rfl) ?_
               refine zp 10 rfl (q_move rfl rfl) ?_
               refine zp 11 rfl (q_move rfl rfl) ?_
               refine zk 12 (Cl.sel (by exact .take 0 rfl (.nil _))) rfl (q_indexN rfl rfl rfl (rdO (by exact .head _)) (by intro hc; omega)) ?_
               refine zk 13 (Cl.sel (by exact .take 0 rfl (.nil _))) rfl (q_loadF rfl rfl rfl (rdO (by exact .head _)) (by intro hc; omega) rfl) ?_
               refine zk 14 (Cl.sel (by exact .take 0 rfl (.nil _))) rfl (q_indexN rfl rfl rfl (rdO (by exact .head _)) (by intro hc; omega)) ?_
               refine aw_one0 15 (by kernel_rfl) rfl rfl rfl (e_storeEl1 (i := 0) rfl rfl rfl rfl rfl (by omega)) (by intro hb; (exact absurd hb (by decide))) ?_
               refine aw_q 16 (by kernel_rfl) rfl rfl rfl rfl (OpR.q (q_index rfl rfl rfl (rdO (by exact .head _)) (by intro hc; (simp only [List.length_set, List.length_append, List.length_cons, List.length_nil, List.length_replicate, List.length_take, List.length_drop, List.length_map]; omega)))) (by intro hb; (exact absurd hb (by decide))) ?_
               refine aw_one0 17 (by kernel_rfl) rfl rfl rfl (e_storeEl1 (i := 0) rfl rfl rfl rfl rfl (by (simp only [List.length_set, List.length_append, List.length_cons, List.length_nil, List.length_replicate, List.length_take, List.length_drop, List.length_map]; omega))) (by intro hb; (exact absurd hb (by decide))) ?_
               refine aw_end (by kernel_rfl) ?_
               refine post_blk (post_then (cw_region (zm rfl ?_)))
               refine zS rfl (q_add rfl rfl rfl (by intro hc; omega)) ?_
               refine za rfl (sw_nil ?_)
               have e2 : (x.set j (nth x ((j : Int) - 1).toNat)).set ((j : Int) - 1).toNat (nth x j) = swp x j (j - 1) := by rw [ej]; rfl
               exact post_next (j + 1, swp x j (j - 1)) (by exact .cons rfl (.cons rfl (.cons rfl (.cons rfl (.cons rfl (.cons rfl .nil)))))) (fun w3 hw3 => by rw [← e2]; exact hw3) ⟨by simp only; omega, by simp only; omega, hx.swp (by omega) (by omega) hb, fun p q g1 g2 g3 => by
                 have hsn := fun q => swp_nth (l := x) (i := j) (j := j - 1) (by omega) (by omega) q
                 rw [hsn, hsn, if_neg (by omega), if_neg (by omega), if_neg (by omega), if_neg (by omega)]
                 exact hsx p q g1 g2 g3⟩ (by simp only; omega)
           · refine cw_exit (post_then_x (post_then_x (post_blk_eq (post_blk (post_then (cw_region (zm rfl ?_)))))))
             refine zS rfl (q_add rfl rfl rfl (by intro hc; omega)) ?_
             refine za rfl (sw_nil ?_)
             exact post_next ((i, k + 1), x) (by exact .cons rfl (.cons rfl (.cons rfl (.cons rfl (.cons rfl .nil))))) (fun _ h => h) ⟨by simp only; omega, by simp only; omega, by simp only; omega, hx, hsx⟩ (by simp only; omega)
         · refine cw_skip (post_blk (post_then (cw_region (zm rfl ?_))))
           refine zS rfl (q_add rfl rfl rfl (by intro hc; omega)) ?_
           refine za rfl (sw_nil ?_)
           exact post_next ((i, k + 1), v) (by exact .cons rfl (.cons rfl (.cons rfl (.cons rfl (.cons rfl .nil))))) (fun _ h => h) ⟨by simp only; omega, by simp only; omega, by simp only; omega, hv, hsv⟩ (by simp only; omega)
 · refine cw_exit (post_then_x (post_then_x (post_blk_eq (post_then (zr (za rfl (nP (cw_ret (post_ret1 rfl (resOk_tmp rfl) ?_)))))))))
   exact fun w' hw => ⟨(false, u), rfl, ⟨hu, fun h => by cases h⟩, hw⟩
end Go.Proofs.YtkmbliojafefdaaGreatDoor

set_option autoImplicit false
set_option maxRecDepth 100000
set_option maxHeartbeats 2000000
namespace Go.Proofs.YtkmbliojafefdaaGreatDoor
open Go.Sx
open Enc (enc val)
def Bnd (u : List Rn) (a c d b : Nat) : Prop := ∀ p q, a ≤ p → p < q → q < b → (p < c ∨ d ≤ q) → (nth u p).v ≤ (nth u q).v
theorem Bnd.mix {u v : List Rn} {a c d b : Nat} (h : Bnd u a c d b) (hm : Mix u v c d) (h1 : a ≤ c) (h2 : c ≤ d) (h3 : d ≤ b) (h4 : b ≤ u.length) : Bnd v a c d b := fun p q g1 g2 g3 g4 => by
 have key : ∀ r, a ≤ r → r < b → ∃ s, nth v r = nth u s ∧ (r < c → s = r) ∧ (d ≤ r → s = r) ∧ (c ≤ r → r < d → c ≤ s ∧ s < d) := fun r e1 e2 => by
   by_cases e3 : c ≤ r ∧ r < d
   · obtain ⟨s, k1, k2, k3⟩ := hm.mem h2 (by omega) e3.1 e3.2
     exact ⟨s, k3.symm, fun _ => by omega, fun _ => by omega, fun _ _ => ⟨k1, k2⟩⟩
   · exact ⟨r, hm.out r (by omega), fun _ => rfl, fun _ => rfl, fun _ _ => by omega⟩
 obtain ⟨s, s1, s2, s3, s4⟩ := key p g1 (by omega)
 obtain ⟨t, t1, t2, t3, t4⟩ := key q (by omega) g3
 rw [s1, t1]
 refine h s t ?_ ?_ ?_ ?_ <;> omega
theorem Bnd.step {u v : List Rn} {a c d b c' d' : Nat} (h : Bnd u a c d b) (hm : Mix u v c d) (h1 : a ≤ c) (h2 : c ≤ d) (h3 : d ≤ b) (h4 : b ≤ u.length) (hn : ∀ p q, c ≤ p → p < q → q < d → (p < c' ∨ d' ≤ q) → (nth v p).v ≤ (nth v q).v) : Bnd v a c' d' b := fun p q g1 g2 g3 g4 => by
 by_cases e : p < c ∨ d ≤ q
 · exact h.mix hm h1 h2 h3 h4 p q g1 g2 g3 e
 · exact hn p q (by omega) g2 (by omega) g4
theorem Bnd.fin {u v : List Rn} {a c d b : Nat} (h : Bnd u a c d b) (hm : Mix u v c d) (h1 : a ≤ c) (h2 : c ≤ d) (h3 : d ≤ b) (h4 : b ≤ u.length) (hs : Srt v c d) : Srt v a b := fun p q g1 g2 g3 => by
 by_cases e : p < c ∨ d ≤ q
 · exact h.mix hm h1 h2 h3 h4 p q g1 g2 g3 e
 · exact hs p q (by omega) g2 (by omega)
theorem Bnd.low {u : List Rn} {a c d b : Nat} (h : Bnd u a c d b) (hl : Low u a b) (h1 : a ≤ c) (h3 : d ≤ b) : Low u c d := by
 by_cases e : a = c
 · subst e
   rcases hl with g | g
   · exact .inl g
   · exact .inr fun q g1 g2 => g q g1 (by omega)
 · exact .inr fun q g1 g2 => h (c - 1) q (by omega) (by omega) (by omega) (.inl (by omega))
theorem Parted.left {l u v : List Rn} {a b m : Nat} (h : Parted l u a b m) (hb : b ≤ l.length) (hm : Mix u v a m) (hs : Srt v a m) (p q : Nat) (g1 : a ≤ p) (g2 : p < q) (g3 : q < b) (g4 : p < m + 1) : (nth v p).v ≤ (nth v q).v := by
 have h1 := h.am
 have h2 := h.mb
 have hul := h.mix.len
 have hlo : ∀ r, a ≤ r → r < m → (nth v r).v ≤ (nth u m).v := fun r e1 e2 => by
   obtain ⟨s, k1, k2, k3⟩ := hm.mem h1 (by omega) e1 e2
   rw [← k3]; exact h.lo s k1 k2
 by_cases e : q < m
 · exact hs p q g1 g2 e
 · have e1 : (nth u m).v ≤ (nth v q).v := by
     rw [hm.out q (.inr (by omega))]
     by_cases e2 : q = m
     · rw [e2]; exact Int.le_refl _
     · exact h.hi q (by omega) g3
   by_cases e3 : p < m
   · have := hlo p g1 e3; omega
   · have e4 : p = m := by omega
     subst e4
     rw [hm.out p (.inr (by omega))]; exact e1
theorem Parted.right {l u v : List Rn} {a b m : Nat} (h : Parted l u a b m) (hb : b ≤ l.length) (hm : Mix u v (m + 1) b) (hs : Srt v (m + 1) b) (p q : Nat) (g1 : a ≤ p) (g2 : p < q) (g3 : q < b) (g4 : m ≤ q) : (nth v p).v ≤ (nth v q).v := by
 have h1 := h.am
 have h2 := h.mb
 have hul := h.mix.len
 have hhi : ∀ r, m < r → r < b → (nth u m).v ≤ (nth v r).v := fun r e1 e2 => by
   obtain ⟨s, k1, k2, k3⟩ := hm.mem (by omega) (by omega) (show m + 1 ≤ r from e1) e2
   rw [← k3]; exact h.hi s (by omega) k2
 by_cases e : m < p
 · exact hs p q e g2 g3
 · have e1 : (nth v p).v ≤ (nth u m).v := by
     rw [hm.out p (.inl (by omega))]
     by_cases e2 : p = m
     · rw [e2]; exact Int.le_refl _
     · exact h.lo p g1 (by omega)
   by_cases e3 : m < q
   · have := hhi q e3 g3; omega
   · have e4 : q = m := by omega
     subst e4
     rw [hm.out q (.inl (by omega))]; exact e1
theorem pdq_spec (sv : SlV) : ∀ (n : Nat) (l : List Rn) (a b : Nat) (lim : Int) (hba : b ≤ a + n) (hab : a ≤ b) (hb : b ≤ l.length) (hl : l.length < 256) (hlim : 0 ≤ lim ∧ lim ≤ 64) (hlow : Low l a b) (w : World) (bs : List Nat) (hs : Sep [ownL 21 sv.v l] w bs) (hn : bs.Nodup) (hlt : ∀ b ∈ bs, b < w.heap.size),
   Calls Tryz.prog 147 #[sv.v, .int .i64 a, .int .i64 b, .int .i64 lim] w fun e w' => ∃ l' : List Rn, e = .returned (.tuple #[]) ∧ (Mix l l' a b ∧ Srt l' a b) ∧ Cl w bs [ownL 21 sv.v l'] w' := by
 intro n
 induction n using Nat.strongRecOn with
 | _ n ih =>
 intro l a b lim hba hab hb hl hlim hlow w bs hs hn hlt
 refine calls_cw (vs := [_, _, _, _]) Tryz.func147 rfl Tryz.ntmps147 rfl (Cl.start hs hn hlt) (zr (za rfl (nP (cw_seq (cw_region (za rfl (sw_nil (post_then (cw_block ?_)))))))))
 refine cw_loop (S := ((Nat × Nat) × Int) × (Bool × Bool) × List Rn) (fun y => [(0, [], sv.v), (1, [], .int .i64 y.1.1.1), (2, [], .int .i64 y.1.1.2), (3, [], .int .i64 y.1.2), (8, [], .bool y.2.1.1), (9, [], .bool y.2.1.2)]) (fun y => Cl w bs [ownL 21 sv.v y.2.2]) (fun y => (a ≤ y.1.1.1 ∧ y.1.1.1 ≤ y.1.1.2 ∧ y.1.1.2 ≤ b) ∧ (0 ≤ y.1.2 ∧ y.1.2 ≤ 64) ∧ Mix l y.2.2 a b ∧ Bnd y.2.2 a y.1.1.1 y.1.1.2 b) (fun y => y.1.1.2 - y.1.1.1) (((a, b), lim), (true, true), l) ⟨⟨Nat.le_refl _, hab, Nat.le_refl _⟩, hlim, .refl _ _ _, fun p q g1 g2 g3 g4 => by simp only at g4; omega⟩ (by exact .cons rfl (.cons rfl (.cons rfl (.cons rfl (.cons rfl (.cons rfl .nil)))))) (fun _ h => h) ?_
 rintro ⟨⟨⟨c, d⟩, lm⟩, ⟨wb, wp⟩, u⟩ ⟨⟨hc, hcd, hd⟩, hlm, hu, hB⟩
 dsimp only at hc hcd hd hlm hu hB ⊢
 have hul := hu.len
 have hlu : Low u c d := hB.low (hlow.mix hu hab hb) hc hd
 have hfin : ∀ v, Mix u v c d → Srt v c d → Mix l v a b ∧ Srt v a b := fun v hm hsv => ⟨hu.trans (hm.wider hc hd), hB.fin hm hc hcd hd (by omega) hsv⟩
 refine cw_block (zr (zm rfl (zm rfl ?_)))
 refine zS rfl (q_sub rfl rfl rfl (by intro hc; omega)) ?_
 refine za rfl (nP (cw_seq (zr (zm rfl (zS rfl (q_leq rfl rfl rfl) (sw_nil (post_then ?_)))))))
 refine cw_cond rfl (fun h => ?_) (fun h => ?_)
 · refine zr (zm rfl (zm rfl (zm rfl ?_)))
   refine sw_x rfl rfl rfl (e_callH (A := [ownL 21 sv.v u]) (F := []) (CanCall.mk Tryz.call174) rfl rfl (.k rfl (.k rfl (.k rfl (.nil)))) (.refl _) (fun w bs h1 h2 h3 _ _ => insertion_spec sv u c d (by omega) (by omega) (by omega) w bs h1 h2 h3)) (fun v => ?_)
   refine sw_imp fun hm => (nP (cw_ret (post_then_r (post_blk_r (post_then_r (post_blk_r (post_ret0 rfl ?_)))))))
   exact fun w' hw => ⟨v, rfl, hfin v hm.1 hm.2, hw⟩
 · have hcd2 : c + 12 < d := by simp at h; omega
   refine sP (cw_seq (zr (zm rfl (zS rfl (q_eql rfl rfl rfl) (nP ?_)))))
   refine cw_cond rfl (fun h2 => ?_) (fun h2 => ?_)
   · refine zr (zm rfl (zm rfl (zm rfl ?_)))
     refine sw_x rfl rfl rfl (e_callH (A := [ownL 21 sv.v u]) (F := []) (CanCall.mk Tryz.call175) rfl rfl (.k rfl (.k rfl (.k rfl (.nil)))) (.refl _) (fun w bs h1 h2 h3 _ _ => heapSort_spec sv u c d (by omega) (by omega) (by omega) w bs h1 h2 h3)) (fun v => ?_)
     refine sw_imp fun hm => (nP (cw_ret (post_then_r (post_blk_r (post_then_r (post_blk_r (post_ret0 rfl ?_)))))))
     exact fun w' hw => ⟨v, rfl, hfin v hm.1 hm.2, hw⟩
   · have hlm0 : lm ≠ 0 := by simpa using h2
     refine sP (cw_seq (zr (zm rfl (zS rfl (q_not rfl rfl) (nP ?_)))))
     refine cw_cut (S := Int × List Rn) (fun y => [(0, [], sv.v), (1, [], .int .i64 c), (2, [], .int .i64 d), (3, [], .int .i64 y.1), (8, [], .bool wb), (9, [], .bool wp), (10, [], .int .i64 ((d : Int) - c))]) (fun y => Cl w bs [ownL 21 sv.v y.2]) (fun y => (0 ≤ y.1 ∧ y.1 ≤ 64) ∧ Mix u y.2 c d) ?_ ?_
     · -- STOP at: cond
       refine cw_cond rfl (fun h3 => ?_) (fun h3 => ?_)
       · refine zr (zm rfl (zm rfl (zm rfl ?_)))
         refine sw_x rfl rfl rfl (e_callH (A := [ownL 21 sv.v u]) (F := []) (CanCall.mk Tryz.call176) rfl rfl (.k rfl (.k rfl (.k rfl (.nil)))) (.refl _) (fun w bs h1 h2 h3 _ _ => break_spec sv u c d (by omega) (by omega) (by omega) w bs h1 h2 h3)) (fun v => ?_)
         refine sw_imp fun hm => (nP (cw_region (zm rfl ?_)))
         refine zS rfl (q_sub rfl rfl rfl (by intro hc; omega)) ?_
         refine za rfl (sw_nil ?_)
         exact post_meet (lm - 1, v) (by exact .cons rfl (.cons rfl (.cons rfl (.cons rfl (.cons rfl (.cons rfl (.cons rfl .nil))))))) (fun _ h => h) ⟨by simp only; omega, hm⟩
       · refine cw_skip ?_
         exact post_meet (lm, u) (by exact .cons rfl (.cons rfl (.cons rfl (.cons rfl (.cons rfl (.cons rfl (.cons rfl .nil))))))) (fun _ h => h) ⟨by simp only; omega, .refl _ _ _⟩
     rintro ⟨lm2, v⟩ ⟨hlm2, hv⟩
     dsimp only at hlm2 hv
     have hvl := hv.len
     refine post_then (zr (zm rfl (zm rfl (zm rfl ?_))))
     refine sw_x rfl rfl rfl (e_call (CanCall.mk Tryz.call177) rfl (.k rfl (.k rfl (.k rfl (.nil)))) (fun w hw => choose_spec sv v c d (by omega) (by omega) (by omega) w (by exact stb_own hw (by exact .head _)))) (fun p => ?_)
     refine sw_imp fun hp => ?_
     obtain ⟨p, hint⟩ := p
     dsimp only at hp ⊢
     refine zm rfl (zS rfl (q_extract rfl rfl rfl) (zS rfl (q_extract rfl rfl rfl) (za rfl (za rfl (nP (cw_seq (zr (zm rfl (zS rfl (q_eql rfl rfl rfl) (sw_nil (post_then ?_)))))))))))
     refine cw_cut (S := (Nat × Int) × List Rn) (fun y => [(0, [], sv.v), (1, [], .int .i64 c), (2, [], .int .i64 d), (3, [], .int .i64 lm2), (8, [], .bool wb), (9, [], .bool wp), (10, [], .int .i64 ((d : Int) - c)), (11, [], .int .i64 y.1.1), (12, [], .int .i64 y.1.2)]) (fun y => Cl w bs [ownL 21 sv.v y.2]) (fun y => (c ≤ y.1.1 ∧ y.1.1 < d) ∧ Mix u y.2 c d) ?_ ?_
     · -- STOP at: cond
       refine cw_cond rfl (fun h3 => ?_) (fun h3 => ?_)
       · refine zr (zm rfl (zm rfl (zm rfl ?_)))
         refine sw_x rfl rfl rfl (e_callH (A := [ownL 21 sv.v v]) (F := []) (CanCall.mk Tryz.call178) rfl rfl (.k rfl (.k rfl (.k rfl (.nil)))) (.refl _) (fun w bs h1 h2 h3 _ _ => reverse_spec sv v c d (by omega) (by omega) (by omega) w bs h1 h2 h3)) (fun x => ?_)
         refine sw_imp fun hx => (nP (zr (zm rfl ?_)))
         refine zS rfl (q_sub rfl rfl rfl (by intro hc; omega)) ?_
         refine zm rfl (zm rfl ?_)
         refine zS rfl (q_sub rfl rfl rfl (by intro hc; omega)) ?_
         refine zS rfl (q_sub rfl rfl rfl (by intro hc; omega)) ?_
         refine za rfl (nP (cw_region (za rfl (sw_nil ?_))))
         exact post_meet ((d - 1 - (p - c), 1), x) (by exact .cons rfl (.cons rfl (.cons rfl (.cons rfl (.cons rfl (.cons rfl (.cons rfl (.cons' rfl (by congr 1; first | omega | (simp only; omega)) (.cons rfl .nil))))))))) (fun _ h => h) ⟨by simp only; omega, hv.trans hx⟩
       · refine cw_skip ?_
         exact post_meet ((p, hint), v) (by exact .cons rfl (.cons rfl (.cons rfl (.cons rfl (.cons rfl (.cons rfl (.cons rfl (.cons rfl (.cons rfl .nil))))))))) (fun _ h => h) ⟨hp, hv⟩
     clear hp hv hvl
     rintro ⟨⟨p, hint⟩, v⟩ ⟨hp, hv⟩
     dsimp only at hp hv
     have hvl := hv.len
     have hvlow := hlu.mix hv hcd (by omega)
     refine post_then (cw_seq (zr (zm rfl (zm rfl (zm rfl (zS rfl (q_and2 rfl rfl rfl) (zm rfl (zm rfl (zS rfl (q_eql rfl rfl rfl) (zS rfl (q_and2 rfl rfl rfl) (nP ?_)))))))))))
     refine cw_cut (S := List Rn) (fun _ => [(0, [], sv.v), (1, [], .int .i64 c), (2, [], .int .i64 d), (3, [], .int .i64 lm2), (8, [], .bool wb), (9, [], .bool wp), (10, [], .int .i64 ((d : Int) - c)), (11, [], .int .i64 p)]) (fun y => Cl w bs [ownL 21 sv.v y]) (fun y => Mix u y c d) ?_ ?_
     · -- STOP at: cond
       refine cw_cond rfl (fun h3 => ?_) (fun h3 => ?_)
       · refine zr (zm rfl (zm rfl (zm rfl ?_)))
         refine sw_x rfl rfl rfl (e_callH (A := [ownL 21 sv.v v]) (F := []) (CanCall.mk Tryz.call179) rfl rfl (.k rfl (.k rfl (.k rfl (.nil)))) (.refl _) (fun w bs h1 h2 h3 _ _ => partial_spec sv v c d (by omega) (by omega) (by omega) hvlow w bs h1 h2 h3)) (fun x => ?_)
         refine sw_imp fun hx => ?_
         obtain ⟨ok, x⟩ := x
         dsimp only at hx ⊢
         refine nP ?_
         refine cw_cond rfl (fun h4 => ?_) (fun h4 => ?_)
         · refine cw_ret (post_then_r (post_then_r (post_blk_r (post_then_r (post_blk_r (post_ret0 rfl ?_))))))
           exact fun w' hw => ⟨x, rfl, hfin x (hv.trans hx.1) (hx.2 h4), hw⟩
         · refine cw_skip ?_
           exact post_meet x (by exact .cons rfl (.cons rfl (.cons rfl (.cons rfl (.cons rfl (.cons rfl (.cons rfl (.cons rfl .nil)))))))) (fun _ h => h) (hv.trans hx.1)
       · refine cw_skip ?_
         exact post_meet v (by exact .cons rfl (.cons rfl (.cons rfl (.cons rfl (.cons rfl (.cons rfl (.cons rfl (.cons rfl .nil)))))))) (fun _ h => h) hv
     clear hv hvl hvlow
     rintro v hv
     have hvl := hv.len
     have hvlow := hlu.mix hv hcd (by omega)
     refine post_then (cw_seq (cw_seq ?_))
     refine cw_region_q mixed_Tryz (by kernel_rfl) ?_
     refine zw rfl (zq rfl (q_gtr rfl rfl rfl) (zw rfl (zw rfl (zw rfl ?_))))
     refine zq rfl (q_sub rfl rfl rfl (by intro hc; omega)) ?_
     refine zq rfl (q_index rfl rfl rfl (rdO (by exact .head _)) (by intro hc; (simp only [AllT.iff, List.all_cons, List.all_nil, id, Bool.and_eq_true, Bool.not_eq_true', decide_eq_true_eq, decide_eq_false_iff_not, and_true] at hc; omega))) ?_
     refine zq rfl (q_loadF rfl rfl rfl (rdO (by exact .head _)) (by intro hc; omega) rfl) ?_
     refine zw rfl (zw rfl ?_)
     refine zq rfl (q_indexN rfl rfl rfl (rdO (by exact .head _)) (by intro hc; omega)) ?_
     refine zq rfl (q_loadF rfl rfl rfl (rdO (by exact .head _)) (by intro hc; omega) rfl) ?_
     refine qw_step rfl rfl rfl (q_call (CanCall.mk Tryz.call180) rfl (.k rfl (.k rfl (.nil))) (fun _ w hw => callq hw (cmpLessR_spec _ _ w))) (zq rfl (q_not rfl rfl) (zq rfl (q_and2 rfl rfl rfl) (qw_end (post_then ?_))))
     have ec : ((c : Int) - 1).toNat = c - 1 := by omega
     refine cw_cond rfl (fun h3 => ?_) (fun h3 => ?_)
     · have h4 : 0 < c ∧ ¬ (nth v (c - 1)).v < (nth v p).v := by
         rw [ec] at h3
         simp at h3; omega
       have hmin : ∀ q, c ≤ q → q < d → (nth v p).v ≤ (nth v q).v := fun q g1 g2 => by
         rcases hvlow with g | g
         · omega
         · have := g q g1 g2; omega
       refine zr (zm rfl (zm rfl (zm rfl (zm rfl ?_))))
       refine sw_x rfl rfl rfl (e_callH (A := [ownL 21 sv.v v]) (F := []) (CanCall.mk Tryz.call181) rfl rfl (.k rfl (.k rfl (.k rfl (.k rfl (.nil))))) (.refl _) (fun w bs h1 h2 h3 _ _ => partEq_spec sv v c d p hp.1 hp.2 (by omega) (by omega) hmin w bs h1 h2 h3)) (fun x => ?_)
       refine sw_imp fun hx => ?_
       obtain ⟨m, x⟩ := x
       obtain ⟨hx1, hx2, hx3, hx4, hx5⟩ := hx
       dsimp only at hx1 hx2 hx3 hx4 hx5 ⊢
       refine za rfl (nP (zr (zm rfl (za rfl (sw_nil (post_then (cw_exit (post_then_x (post_blk_eq ?_)))))))))
       exact post_next (((m, d), lm2), (wb, wp), x) (by exact .cons rfl (.cons rfl (.cons rfl (.cons rfl (.cons rfl (.cons rfl .nil)))))) (fun _ h => h) ⟨⟨by simp only; omega, by simp only; omega, by simp only; omega⟩, hlm2, hu.trans ((hv.trans hx3).wider hc hd), hB.step (hv.trans hx3) hc hcd hd (by omega) (fun q r g1 g2 g3 g4 => by
         simp only at g4
         rw [hx4 q g1 (by omega)]
         by_cases e : r < m
         · rw [hx4 r (by omega) e]; exact Int.le_refl _
         · exact Int.le_of_lt (hx5 r (by omega) g3))⟩ (by simp only; omega)
     · refine sP (zr (zm rfl (zm rfl (zm rfl (zm rfl ?_)))))
       refine sw_x rfl rfl rfl (e_callH (A := [ownL 21 sv.v v]) (F := []) (CanCall.mk Tryz.call182) rfl rfl (.k rfl (.k rfl (.k rfl (.k rfl (.nil))))) (.refl _) (fun w bs h1 h2 h3 _ _ => partition_spec sv v c d p hp.1 hp.2 (by omega) (by omega) w bs h1 h2 h3)) (fun x => ?_)
       refine sw_imp fun hx => ?_
       obtain ⟨⟨m, ap⟩, x⟩ := x
       dsimp only at hx ⊢
       have hx1 := hx.am
       have hx2 := hx.mb
       have hxl := hx.mix.len
       have hxlow : Low x c d := hvlow.mix hx.mix hcd (by omega)
       refine zm rfl (zS rfl (q_extract rfl rfl rfl) (zS rfl (q_extract rfl rfl rfl) (za rfl (za rfl (nP (zr (zm rfl (za rfl (sw_nil (post_then (cw_seq (cw_region (zm rfl (zm rfl ?_))))))))))))))
       refine zS rfl (q_sub rfl rfl rfl (by intro hc; omega)) ?_
       refine zm rfl (zm rfl ?_)
       refine zS rfl (q_sub rfl rfl rfl (by intro hc; omega)) ?_
       refine za rfl (za rfl (nP (zr (zm rfl ?_))))
       refine zS rfl (q_quo rfl rfl rfl (by intro hc; omega)) ?_
       refine za rfl (nP (zr (zm rfl (zm rfl (zS rfl (q_lss rfl rfl rfl) (sw_nil (post_then ?_)))))))
       refine cw_cond rfl (fun h5 => ?_) (fun h5 => ?_)
       · refine zr (zm rfl (zm rfl (zS rfl (q_geq rfl rfl rfl) (za rfl (nP (cw_seq (cw_region (zm rfl (zm rfl (zm rfl (zm rfl ?_)))))))))))
         refine sw_x rfl rfl rfl (e_callH (A := [ownL 21 sv.v x]) (F := []) (CanCall.mk Tryz.call147) rfl rfl (.k rfl (.k rfl (.k rfl (.k rfl (.nil))))) (.refl _) (fun w bs h1 h2 h3 _ _ => ih (m - c) (by omega) x c m lm2 (by omega) hx1 (by omega) (by omega) hlm2 (hxlow.imp id fun g q g1 g2 => g q g1 (by omega)) w bs h1 h2 h3)) (fun z => ?_)
         refine sw_imp fun hz => (nP (cw_region (zm rfl ?_)))
         refine zS rfl (q_add rfl rfl rfl (by intro hc; omega)) ?_
         refine za rfl (sw_nil (post_blk ?_))
         have hm : Mix u z c d := (hv.trans hx.mix).trans (hz.1.wider (Nat.le_refl _) (by omega))
         exact post_next (((m + 1, d), lm2), (_, ap), z) (by exact .cons rfl (.cons rfl (.cons rfl (.cons rfl (.cons rfl (.cons rfl .nil)))))) (fun _ h => h) ⟨⟨by simp only; omega, by simp only; omega, by simp only; omega⟩, hlm2, hu.trans (hm.wider hc hd), hB.step hm hc hcd hd (by omega) (fun q r g1 g2 g3 g4 => by
           simp only at g4
           exact hx.left (by omega) hz.1 hz.2 q r g1 g2 g3 (by omega))⟩ (by simp only; omega)
       · refine zr (zm rfl (zm rfl (zS rfl (q_geq rfl rfl rfl) (za rfl (nP (cw_seq (cw_region (zm rfl (zm rfl ?_)))))))))
         refine zS rfl (q_add rfl rfl rfl (by intro hc; omega)) ?_
         refine zm rfl (zm rfl ?_)
         rw [show ((m : Int) + 1) = ((m + 1 : Nat) : Int) by omega]
         refine sw_x rfl rfl rfl (e_callH (A := [ownL 21 sv.v x]) (F := []) (CanCall.mk Tryz.call147) rfl rfl (.k rfl (.k rfl (.k rfl (.k rfl (.nil))))) (.refl _) (fun w bs h1 h2 h3 _ _ => ih (d - (m + 1)) (by omega) x (m + 1) d lm2 (by omega) (by omega) (by omega) (by omega) hlm2 (.inr fun q g1 g2 => hx.hi q g1 g2) w bs h1 h2 h3)) (fun z => ?_)
         refine sw_imp fun hz => (nP (cw_region (zm rfl (za rfl (sw_nil (post_blk ?_))))))
         have hm : Mix u z c d := (hv.trans hx.mix).trans (hz.1.wider (by omega) (Nat.le_refl _))
         exact post_next (((c, m), lm2), (_, ap), z) (by exact .cons rfl (.cons rfl (.cons rfl (.cons rfl (.cons rfl (.cons rfl .nil)))))) (fun _ h => h) ⟨⟨by simp only; omega, by simp only; omega, by simp only; omega⟩, hlm2, hu.trans (hm.wider hc hd), hB.step hm hc hcd hd (by omega) (fun q r g1 g2 g3 g4 => by
           simp only at g4
           exact hx.right (by omega) hz.1 hz.2 q r g1 g2 g3 (by omega))⟩ (by simp only; omega)
theorem sort_spec (sv : SlV) (l : List Rn) (hb : l.length < 256) (w : World) (bs : List Nat) (hs : Sep [ownL 21 sv.v l] w bs) (hn : bs.Nodup) (hlt : ∀ b ∈ bs, b < w.heap.size) :
   Calls Tryz.prog 118 #[sv.v] w fun e w' => ∃ l' : List Rn, e = .returned (.tuple #[]) ∧ (Mix l l' 0 l.length ∧ Srt l' 0 l.length) ∧ Cl w bs [ownL 21 sv.v l'] w' := by
 by_cases h12 : l.length ≤ 12
 · exact sort12_spec sv l h12 w bs hs hn hlt
 refine calls_cw (vs := [_]) Tryz.func118 rfl Tryz.ntmps118 rfl (Cl.start hs hn hlt) (zr (zm rfl ?_))
 refine zS rfl (q_len rfl (.k rfl (.nil)) (rdO (by exact .head _))) ?_
 refine za rfl (nP (cw_region (zm rfl (zm rfl (zm rfl (zS rfl (q_conv rfl rfl) ?_))))))
 rw [show IntKind.u64.wrap (l.length : Int) = l.length from wrap_u64 (by omega)]
 refine sw_x rfl rfl rfl (e_call (CanCall.mk Tryz.call148) rfl (.k rfl (.nil)) (fun w hw => lenb_spec l.length (by omega) w)) (fun l9 => ?_)
 refine sw_imp fun h9 => ?_
 refine sw_x rfl rfl rfl (e_callH (A := [ownL 21 sv.v l]) (F := []) (CanCall.mk Tryz.call147) rfl rfl (.k rfl (.k rfl (.k rfl (.k rfl (.nil))))) (.refl _) (fun w bs h1 h2 h3 _ _ => pdq_spec sv l.length l 0 l.length l9 (by omega) (by omega) (by omega) hb (by omega) (.inl rfl) w bs h1 h2 h3)) (fun l27 => ?_)
 refine sw_imp fun hm => (sw_nil (post_end0 rfl ?_))
 exact fun w' hw => ⟨l27, rfl, hm, hw⟩
end Go.Proofs.YtkmbliojafefdaaGreatDoor

set_option autoImplicit false
set_option maxRecDepth 100000
namespace Go.Proofs.YtkmbliojafefdaaGreatDoor
open Go.Sx
open Enc (enc val)
instance : InfoT Tryz.prog 21 1 4 [.int .i32 0] := info_of (v := .int .i32 0) (by kernel_rfl) rfl rfl
instance : HasTy Tryz.prog 21 Rn := hasTy_cell Tryz.sizeOf21 Tryz.isAgg21 rfl (fun _ => rfl)
def fgX (G : List (Rn × XL)) (c : Rn) : List XL := (G.filter fun x => decide (x.1 = c)).map (·.2)
theorem fg_snoc (G : List (Rn × XL)) (x : Rn × XL) (c : Rn) : fgX (G ++ [x]) c = fgX G c ++ if x.1 = c then [x.2] else [] := by
 unfold fgX
 rw [List.filter_append, List.map_append]
 congr 1
 by_cases h : x.1 = c <;> simp [h]
theorem fg_le (G : List (Rn × XL)) (c : Rn) : (fgX G c).length ≤ G.length := by
 unfold fgX; rw [List.length_map]; exact List.length_filter_le _ _
def evG (G : List (Rn × XL)) : List (Rn × XP) := G.map fun x => (x.1, plX x.2)
theorem abc_le (q : List (Rn × XP)) : (abcC q).length ≤ q.length := by
 have key : ∀ (q : List Rn) (acc : List Rn), (q.foldl insR acc).length ≤ acc.length + q.length := by
   intro q
   induction q with
   | nil => intro acc; simp
   | cons x q ih =>
     intro acc
     rw [List.foldl_cons]
     have h := ih (insR acc x)
     have h2 : (insR acc x).length ≤ acc.length + 1 := by unfold insR; split <;> simp
     simp only [List.length_cons]; omega
 have := key (q.map (·.1)) []
 simpa [abcC] using this
theorem evG_len (G : List (Rn × XL)) : (evG G).length = G.length := by simp [evG]
theorem fg_pl (G : List (Rn × XL)) (c : Rn) : (fgX G c).map plX = xsC (evG G) c := by
 unfold fgX xsC evG
 rw [List.map_map, List.filter_map, List.map_map]
 rfl
theorem fg_nil {G : List (Rn × XL)} {c : Rn} : c ∈ abcC (evG G) ↔ fgX G c ≠ [] := by
 rw [abc_mem, ← fg_pl]
 simp
theorem fg_mem {G : List (Rn × XL)} {c : Rn} {e : XL} (h : e ∈ fgX G c) : ∃ x ∈ G, x.2 = e := by
 unfold fgX at h
 obtain ⟨x, hx, rfl⟩ := List.mem_map.1 h
 exact ⟨x, (List.mem_filter.1 hx).1, rfl⟩
structure EtyOk (u : Ety) : Prop where
 size : u.word.size ≤ 1000000
 few : (runes u.word).length ≤ 40
 len : u.sl.length = (runes u.word).length
 ok : ∀ q ∈ u.sl, q.length ≤ 1000 ∧ ∀ x ∈ q, phoneOk x = true
theorem sw_pureP {P : Program} {ops : Array Oper} {Q : Exit → Act → World → Prop} {n : Fr} {E : Env} {C : World → Prop} {l : List Oper} {p : Prop} (hp : ∀ w, C w → p) (h : p → SW P ops Q l n E C) : SW P ops Q l n E C := fun a w ha hw => h (hp w hw) a w ha hw
theorem cw_pureP {P : Program} {Q : Exit → Act → World → Prop} {n : Fr} {E : Env} {C : World → Prop} {c : Code} {p : Prop} (hp : ∀ w, C w → p) (h : p → CW P c Q n E C) : CW P c Q n E C := fun a w ha hw => h (hp w hw) a w ha hw
theorem evs_take {es : List Ety} {k : Nat} (hk : k < es.length) : ((es.take (k + 1)).map fun u => (u.word, u.sl)).flatMap evOf = ((es.take k).map fun u => (u.word, u.sl)).flatMap evOf ++ evOf ((nth es k).word, (nth es k).sl) := by
 rw [List.take_succ_eq_append_getElem hk, List.map_append, List.flatMap_append, nth_get hk]; simp
theorem evOf_take {u : ByteArray × List (List ByteArray)} {i : Nat} (hi : i < (runes u.1).length) : (evOf u).take (i + 1) = (evOf u).take i ++ [evAt (runes u.1) u.2 i] := by
 unfold evOf
 rw [List.take_succ_eq_append_getElem (by simpa using hi)]; simp
theorem evOf_len (u : ByteArray × List (List ByteArray)) : (evOf u).length = (runes u.1).length := by simp [evOf]
theorem learned_spec (sv : SlV) (es : List Ety) (o : Lrn) (ho : LrnOk o) (hn : es.length ≤ 3000) (heo : ∀ u ∈ es, EtyOk u) (h12 : (abcC ((es.map fun u => (u.word, u.sl)).flatMap evOf)).length < 256) (w : World) (hs : Stb w [] (RdL sv.v es)) (hei : Stb w [] fun w' => ∀ u ∈ es, EtIn u w') :
   Calls Tryz.prog 70 #[sv.v, val o] w fun e w' => ∃ b : Bk, e = .returned (val b) ∧ (b.bl.map fun L => (L.c, L.rl.map fun u => (u.tl, u.pl))) = learnC o (es.map fun u => (u.word, u.sl)) ∧ Cl w [] [Sx.frz (BkIn b)] w' := by
 have hLn := rd_len hs.here
 refine calls_cw (vs := [_, _]) Tryz.func70 rfl Tryz.ntmps70 rfl (Cl.start0 w) (zr ?_)
 refine sw_x rfl rfl rfl (e_box rfl rfl rfl) (fun b3 => ?_)
 refine sw_x rfl rfl rfl (e_alloc rfl) (fun b4 => ?_)
 refine nP (zr ?_)
 refine sw_x rfl rfl rfl (e_makeMap (κ := Rn) (ν := SlV) rfl) (fun b15 => ?_)
 refine za rfl (nP (zr (za rfl (sw_nil (post_then (cw_seq (cw_seq (cw_region (zm rfl ?_)))))))))
 refine zS rfl (q_len rfl (.k rfl (.nil)) (stA (by assumption))) ?_
 refine zm rfl (nP (cw_block ?_))
 refine cw_loop (S := Nat × SlV × List (Rn × XL) × List (Rn × SlV)) (fun y => [(3, [], .pointer (some ⟨b3, 0, none⟩)), (4, [], .pointer (some ⟨b4, 0, none⟩)), (5, [], .map (some b15)), (6, [], y.2.1.v), (16, [], sv.v), (17, [], .int .i64 es.length), (18, [], .int .i64 y.1)]) (fun y => Cl w [] ((ownL 21 y.2.1.v (abcC (evG y.2.2.1)) :: Sx.frz (fun w => ∀ x ∈ y.2.2.1, RdL x.2.w.v x.2.wl w) :: mpA b15 y.2.2.2 :: blk b4 (enc (default : Bk)) 45 :: blk b3 (enc o) 40 :: []) ++ rowsK 179 y.2.2.2 (fgX y.2.2.1))) (fun y => y.1 ≤ es.length ∧ (evG y.2.2.1) = ((es.take y.1).map fun u => (u.word, u.sl)).flatMap evOf ∧ y.2.2.1.length ≤ 40 * y.1 ∧ (∀ x ∈ y.2.2.1, ExOk x.2) ∧ Stb w [] (fun w' => ∀ x ∈ y.2.2.1, RdL x.2.p.v x.2.pl w') ∧ (y.2.2.2.map (·.1)).Nodup ∧ (∀ c, get? y.2.2.2 c = none ↔ fgX y.2.2.1 c = [])) (fun y => es.length - y.1) (0, ⟨none, 0, 0⟩, [], []) ⟨by simp, by simp [evG], by simp, by simp, ⟨fun w' _ x hx => by simp at hx⟩, by simp, fun c => by simp [fgX, get?]⟩ (by exact .cons rfl (.cons rfl (.cons rfl (.cons rfl (.cons rfl (.cons rfl (.cons rfl .nil))))))) (fun w' h => Cl.addNil 21 (cl_true (fun w => by simp) ((Cl.sel (by exact .take 0 rfl (.take 0 rfl (.take 0 rfl (.nil _))))) _ h))) ?_
 rintro ⟨k, sa, G, m⟩ ⟨hk, hG, hGl, hGo, hGp, hmn, hmg⟩
 dsimp only at hk hG hGl hGo hGp hmn hmg ⊢
 refine zr (zS rfl (q_lss rfl rfl rfl) (nP (cw_seq ?_)))
 refine cw_cond rfl (fun h => ?_) (fun h => ?_)
 · have hk' : k < es.length := by simp at h; omega
   obtain ⟨u, hu⟩ : ∃ u, nth es k = u := ⟨_, rfl⟩
   have hum : u ∈ es := by rw [← hu]; exact nth_mem hk'
   have huo := heo u hum
   obtain ⟨ws, hws⟩ : ∃ ws, runes u.word = ws := ⟨_, rfl⟩
   have hfew := huo.few
   have husz := huo.size
   have hlen := huo.len
   have hev := evs_take hk'
   rw [hu] at hev
   have hue : Stb w [] (EtIn u) := stb_map hei fun _ h => h u hum
   obtain ⟨vs, g1, ⟨g2, g3⟩, g4⟩ := hue.here
   have g1s := rd_stb g1
   refine sP (cw_seq (cw_block (zr ?_)))
   refine zS rfl (q_indexN rfl rfl rfl (stA (by assumption)) (by intro hc; omega)) ?_
   refine zS rfl (q_loadEl rfl rfl rfl (stA (by assumption)) (by intro hc; omega)) ?_
   rw [hu]
   refine sw_x rfl rfl rfl (e_alloc rfl) (fun b8 => ?_)
   refine sw_eff0 rfl rfl (e_store (i := 0) rfl rfl rfl rfl rfl rfl rfl rfl) (nP (zr (zS rfl (q_fieldAddr rfl rfl) (zS rfl (q_fieldAddr rfl rfl) ?_))))
   refine zS rfl (q_loadC rfl rfl (by exact .head _) rfl) ?_
   refine sw_x rfl rfl rfl (e_call (CanCall.mk Tryz.call110) rfl (.k rfl (.nil)) (fun w hw => letters_spec _ w (by omega))) (fun x25 => ?_)
   refine sw_imp (fun hx25 => ?_)
   refine za rfl (nP (zr (zm rfl ?_)))
   refine zS rfl (q_len rfl (.k rfl (.nil)) (rdO (by exact .head _))) ?_
   refine zm rfl (nP (cw_block ?_))
   rw [hws] at hfew hlen ⊢
   refine cw_loop (S := Nat × SlV × List (Rn × XL) × List (Rn × SlV)) (fun y => [(3, [], .pointer (some ⟨b3, 0, none⟩)), (4, [], .pointer (some ⟨b4, 0, none⟩)), (5, [], .map (some b15)), (6, [], y.2.1.v), (8, [], .pointer (some ⟨b8, 0, none⟩)), (9, [], x25.v), (16, [], sv.v), (17, [], .int .i64 es.length), (18, [], .int .i64 k), (26, [], x25.v), (27, [], .int .i64 ws.length), (28, [], .int .i64 y.1)]) (fun y => Cl w [] ((ownL 21 y.2.1.v (abcC (evG y.2.2.1)) :: Sx.frz (fun w => (∀ x ∈ y.2.2.1, RdL x.2.w.v x.2.wl w) ∧ RdL x25.v ws w) :: mpA b15 y.2.2.2 :: blk b8 (enc u) 153 :: blk b4 (enc (default : Bk)) 45 :: blk b3 (enc o) 40 :: []) ++ rowsK 179 y.2.2.2 (fgX y.2.2.1))) (fun y => y.1 ≤ ws.length ∧ (evG y.2.2.1) = ((es.take k).map fun u => (u.word, u.sl)).flatMap evOf ++ (evOf (u.word, u.sl)).take y.1 ∧ y.2.2.1.length ≤ 40 * k + y.1 ∧ (∀ x ∈ y.2.2.1, ExOk x.2) ∧ Stb w [] (fun w' => ∀ x ∈ y.2.2.1, RdL x.2.p.v x.2.pl w') ∧ (y.2.2.2.map (·.1)).Nodup ∧ (∀ c, get? y.2.2.2 c = none ↔ fgX y.2.2.1 c = [])) (fun y => ws.length - y.1) (0, sa, G, m) ⟨by simp, by rw [hG]; simp, hGl, hGo, hGp, hmn, hmg⟩ (by exact .cons rfl (.cons rfl (.cons rfl (.cons rfl (.cons rfl (.cons rfl (.cons rfl (.cons rfl (.cons rfl (.cons rfl (.cons rfl (.cons rfl .nil)))))))))))) (fun w' h => ?_) ?_
   · have h1 : Cl w [] (ownL 21 x25.v ws :: (blk b8 (enc u) 153 :: ownL 21 sa.v (abcC (evG G)) :: Sx.frz (fun w => ∀ x ∈ G, RdL x.2.w.v x.2.wl w) :: mpA b15 m :: blk b4 (enc (default : Bk)) 45 :: blk b3 (enc o) 40 :: rowsK 179 m (fgX G))) w' := h
     have h2 : Cl w [] (Sx.frz (fun w => ∀ x ∈ G, RdL x.2.w.v x.2.wl w) :: Sx.frz (RdL x25.v ws) :: blk b8 (enc u) 153 :: ownL 21 sa.v (abcC (evG G)) :: mpA b15 m :: blk b4 (enc (default : Bk)) 45 :: blk b3 (enc o) 40 :: rowsK 179 m (fgX G)) w' := (Cl.sel (by exact .take 3 rfl (.all _))) _ h1.frzL
     have h3 : Cl w [] (ownL 21 sa.v (abcC (evG G)) :: Sx.frz (fun w => (∀ x ∈ G, RdL x.2.w.v x.2.wl w) ∧ RdL x25.v ws w) :: mpA b15 m :: blk b8 (enc u) 153 :: blk b4 (enc (default : Bk)) 45 :: blk b3 (enc o) 40 :: rowsK 179 m (fgX G)) w' := (Cl.sel (by exact .take 2 rfl (.take 0 rfl (.take 1 rfl (.all _))))) _ h2.frz2
     exact h3
   rintro ⟨i, sa, G, m⟩ ⟨hi, hG, hGl, hGo, hGp, hmn, hmg⟩
   dsimp only at hi hG hGl hGo hGp hmn hmg ⊢
   refine zr (zS rfl (q_lss rfl rfl rfl) (nP (cw_seq ?_)))
   refine cw_cond rfl (fun h2 => ?_) (fun h2 => ?_)
   · have hi' : i < ws.length := by simp at h2; omega
     obtain ⟨c, hc⟩ : ∃ c, nth ws i = c := ⟨_, rfl⟩
     have hev2 := evOf_take (u := (u.word, u.sl)) (i := i) (by rw [hws]; exact hi')
     simp only [hws] at hev2
     have hlen2 := fg_le G c
     have habl := abc_le (evG G)
     rw [evG_len] at habl
     have hvi : i < vs.length := by omega
     refine sP (cw_seq (cw_block (zr (zm rfl ?_))))
     refine zS rfl (q_indexN (xs := ws) rfl rfl rfl (fun w1 h1 => (rd_frz (R := fun w => (∀ x ∈ G, RdL x.2.w.v x.2.wl w) ∧ RdL x25.v ws w) h1 (by exact .tail _ (.head _))).2) (fun _ => hi')) ?_
     refine zS rfl (q_loadF (xs := ws) rfl rfl rfl (fun w1 h1 => (rd_frz (R := fun w => (∀ x ∈ G, RdL x.2.w.v x.2.wl w) ∧ RdL x25.v ws w) h1 (by exact .tail _ (.head _))).2) (fun _ => hi') rfl) ?_
     rw [hc]
     refine za rfl (za rfl (nP (cw_seq (zr (zm rfl (zm rfl ?_))))))
     refine zS rfl (q_lookup (κ := Rn) (ν := SlV) (k := c) rfl rfl rfl (by exact fun w hw => rdm_own hw (by exact .tail _ (.tail _ (.head _))))) ?_
     refine sw_pureP (p := (getZ (⟨none, 0, 0⟩ : SlV) m c).addr.isNone = decide (fgX G c = [])) (fun w1 h1 => ?_) fun hnil => ?_
     · show (getZ (default : SlV) m c).addr.isNone = _
       have h3 := open_row (H := ownL 21 sa.v (abcC (evG G)) :: Sx.frz (fun w => (∀ x ∈ G, RdL x.2.w.v x.2.wl w) ∧ RdL x25.v ws w) :: mpA b15 m :: blk b8 (enc u) 153 :: blk b4 (enc (default : Bk)) 45 :: blk b3 (enc o) 40 :: []) hmn (fun h => (hmg c).1 h) h1
       by_cases hg : fgX G c = []
       · have h4 := (hmg c).2 hg
         have : (getZ (default : SlV) m c) = default := by unfold getZ; rw [h4]; rfl
         rw [this, decide_eq_true hg]; rfl
       · rw [decide_eq_false hg]
         cases ha : (getZ (default : SlV) m c).addr with
         | some a => rfl
         | none => exact absurd (rd_nil (rd_own h3 (.head _)) ha) hg
     refine zS rfl (q_eqlNil rfl rfl) (nP ?_)
     rw [hnil]
     have hcm : c ∈ abcC (evG G) ↔ fgX G c ≠ [] := fg_nil
     refine cw_cut (S := SlV) (fun y => [(3, [], .pointer (some ⟨b3, 0, none⟩)), (4, [], .pointer (some ⟨b4, 0, none⟩)), (5, [], .map (some b15)), (6, [], y.v), (8, [], .pointer (some ⟨b8, 0, none⟩)), (9, [], x25.v), (10, [], .int .i64 i), (11, [], .int .i32 c.v), (16, [], sv.v), (17, [], .int .i64 es.length), (18, [], .int .i64 k), (26, [], x25.v), (27, [], .int .i64 ws.length), (28, [], .int .i64 i)]) (fun y => Cl w [] ((ownL 21 y.v (insR (abcC (evG G)) c) :: Sx.frz (fun w => (∀ x ∈ G, RdL x.2.w.v x.2.wl w) ∧ RdL x25.v ws w) :: mpA b15 m :: blk b8 (enc u) 153 :: blk b4 (enc (default : Bk)) 45 :: blk b3 (enc o) 40 :: []) ++ rowsK 179 m (fgX G))) (fun _ => True) ?_ ?_
     · refine cw_cond rfl (fun h3 => ?_) (fun h3 => ?_)
       · have h4 : insR (abcC (evG G)) c = abcC (evG G) ++ [c] := by
           unfold insR; rw [if_neg]
           rw [hcm]; simpa using h3
         refine cw_region (zm rfl (zm rfl ?_))
         refine sw_x rfl rfl rfl (e_buildL (α := Rn) (l := [c]) rfl (.k rfl (.nil)) rfl rfl rfl rfl) (fun s39 => ?_)
         refine sw_x rfl rfl rfl (e_append (i := 1) rfl (.k rfl (.k rfl (.nil))) rfl rfl (rdO (by exact .head _)) (by first | omega | (simp only [List.length_set, List.length_append, List.length_cons, List.length_nil, List.length_replicate, List.length_take, List.length_drop, List.length_map]; omega)) rfl) (fun s40 => ?_)
         refine za rfl (sw_nil ?_)
         exact post_meet s40 (by exact .cons rfl (.cons rfl (.cons rfl (.cons rfl (.cons rfl (.cons rfl (.cons rfl (.cons rfl (.cons rfl (.cons rfl (.cons rfl (.cons rfl (.cons rfl (.cons rfl .nil)))))))))))))) (fun w' h => by rw [h4]; exact h.tail) trivial
       · have h4 : insR (abcC (evG G)) c = abcC (evG G) := by
           unfold insR; rw [if_pos]
           rw [hcm]; simpa using h3
         refine cw_skip ?_
         exact post_meet sa (by exact .cons rfl (.cons rfl (.cons rfl (.cons rfl (.cons rfl (.cons rfl (.cons rfl (.cons rfl (.cons rfl (.cons rfl (.cons rfl (.cons rfl (.cons rfl (.cons rfl .nil)))))))))))))) (fun w' h => by rw [h4]; exact h) trivial
     rintro sa2 -
     refine post_then ?_
     dsimp only
     refine cw_c (C' := Cl w [] (ownL 179 (getZ (default : SlV) m c).v (fgX G c) :: ownL 21 sa2.v (insR (abcC (evG G)) c) :: Sx.frz (fun w => (∀ x ∈ G, RdL x.2.w.v x.2.wl w) ∧ RdL x25.v ws w) :: mpA b15 m :: blk b8 (enc u) 153 :: blk b4 (enc (default : Bk)) 45 :: blk b3 (enc o) 40 :: rowsK 179 (eraseK m c) (fgX G))) (fun w' h => open_row hmn (fun h => (hmg c).1 h) h) (cw_region_a (Cl w [] [mpA b15 m, blk b8 (enc u) 153]) [15] mixed_Tryz ?_)
     refine zp 0 rfl (q_move rfl rfl) ?_
     refine zp 1 rfl (q_move rfl rfl) ?_
     refine zp 2 rfl (q_move rfl rfl) ?_
     refine zp 3 rfl (q_move rfl rfl) ?_
     refine zp 5 rfl (q_move rfl rfl) ?_
     refine zp 6 rfl (q_move rfl rfl) ?_
     refine zk 7 (Cl.sel (by exact .take 3 rfl (.take 3 rfl (.nil _)))) rfl (q_fieldAddr rfl rfl) ?_
     refine zk 8 (Cl.sel (by exact .take 3 rfl (.take 3 rfl (.nil _)))) rfl (q_loadC rfl rfl (by exact .tail _ (.head _)) rfl) ?_
     refine zp 9 rfl (q_move rfl rfl) ?_
     refine zk 10 (Cl.sel (by exact .take 3 rfl (.take 3 rfl (.nil _)))) rfl (q_indexN rfl rfl rfl (stA (by assumption)) (by intro hc; omega)) ?_
     refine zk 11 (Cl.sel (by exact .take 3 rfl (.take 3 rfl (.nil _)))) rfl (q_loadEl rfl rfl rfl (stA (by assumption)) (by intro hc; omega)) ?_
     refine zp 12 rfl (q_build rfl (.k rfl (.k rfl (.k rfl (.nil)))) rfl) ?_
     refine zk 4 (Cl.sel (by exact .take 3 rfl (.take 3 rfl (.nil _)))) rfl (q_lookup (κ := Rn) (ν := SlV) (k := c) rfl rfl rfl (by exact fun w hw => rdm_own hw (by exact .head _))) ?_
     refine aw_x 13 (by kernel_rfl) rfl rfl rfl rfl (e_buildL (α := XL) (l := [⟨x25, i, nth vs i, ws, nth u.sl i⟩]) rfl (.k rfl (.nil)) rfl rfl rfl rfl) (by intro hb; exact fun _ => (Cl.sel (by exact .take 4 rfl (.take 4 rfl (.nil _))))) (fun s54 => ?_)
     refine aw_x 14 (by kernel_rfl) rfl rfl rfl rfl (e_append (i := 1) rfl (.k rfl (.k rfl (.nil))) rfl rfl (rdO (by exact .head _)) (by first | omega | (simp only [List.length_set, List.length_append, List.length_cons, List.length_nil, List.length_replicate, List.length_take, List.length_drop, List.length_map]; omega)) rfl) (by intro hb; exact fun _ => (Cl.sel (by exact .take 4 rfl (.take 4 rfl (.nil _))))) (fun s55 => ?_)
     refine aw_one0 15 (by kernel_rfl) rfl rfl rfl (e_mapUpdate (κ := Rn) (ν := SlV) (i := 4) (.inl rfl) rfl rfl rfl rfl) (by intro hb; (exact absurd hb (by decide))) ?_
     refine aw_end (by kernel_rfl) ?_
     refine post_blk (post_then (cw_region ?_))
     refine zS rfl (q_add rfl rfl rfl (by intro hc; omega)) ?_
     refine zm rfl (sw_nil ?_)
     have hXp : Stb w [] (RdL (nth vs i).v (nth u.sl i)) := rd_stb (g3 i (by omega))
     have hXs : SpotOk (nth vs i) := g4 _ (nth_mem hvi)
     have hXo := huo.ok _ (nth_mem (l := u.sl) (i := i) (by omega))
     obtain ⟨X, hX⟩ : ∃ X : XL, (⟨x25, (i : Int), nth vs i, ws, nth u.sl i⟩ : XL) = X := ⟨_, rfl⟩
     rw [hX]
     have hXok : ExOk X := by rw [← hX]; exact ⟨hXs, hXo.1, hXo.2, by simp only; omega⟩
     have hXpl : RdL X.w.v X.wl = RdL x25.v ws := by rw [← hX]
     have hXpp : Stb w [] (RdL X.p.v X.pl) := by rw [← hX]; exact hXp
     have hXev : (c, plX X) = evAt ws u.sl i := by rw [← hX]; unfold evAt; rw [hc]; rfl
     have hev3 : evG (G ++ [(c, X)]) = evG G ++ [evAt ws u.sl i] := by rw [← hXev]; simp [evG]
     have hab : abcC (evG (G ++ [(c, X)])) = insR (abcC (evG G)) c := by rw [hev3, abc_snoc]; unfold evAt; rw [hc]
     refine post_next (i + 1, sa2, G ++ [(c, X)], upd m c s55) (by exact .cons rfl (.cons rfl (.cons rfl (.cons rfl (.cons rfl (.cons rfl (.cons rfl (.cons rfl (.cons rfl (.cons rfl (.cons rfl (.cons rfl .nil)))))))))))) (fun w' h => ?_) ⟨by simp only; omega, ?_, ?_, ?_, ?_, ?_, fun c' => ?_⟩ (by simp only; omega)
     · have h1 : Cl w [] (ownL 179 s55.v (fgX G c ++ [X]) :: ((ownL 21 sa2.v (insR (abcC (evG G)) c) :: Sx.frz (fun w => (∀ x ∈ G, RdL x.2.w.v x.2.wl w) ∧ RdL x25.v ws w) :: mpA b15 (upd m c s55) :: blk b8 (enc u) 153 :: blk b4 (enc (default : Bk)) 45 :: blk b3 (enc o) 40 :: []) ++ rowsK 179 (eraseK m c) (fgX G))) w' := h.tail
       have h2 := shut_row (f' := fgX (G ++ [(c, X)])) hmn (fun k' hk' => by rw [fg_snoc, if_neg (fun e => hk' e.symm), List.append_nil]) (by rw [fg_snoc, if_pos rfl]) h1
       have h3 : Cl w [] (Sx.frz (fun w => (∀ x ∈ G, RdL x.2.w.v x.2.wl w) ∧ RdL x25.v ws w) :: ownL 21 sa2.v (insR (abcC (evG G)) c) :: mpA b15 (upd m c s55) :: blk b8 (enc u) 153 :: blk b4 (enc (default : Bk)) 45 :: blk b3 (enc o) 40 :: rowsK 179 (upd m c s55) (fgX (G ++ [(c, X)]))) w' := (Cl.sel (by exact .take 1 rfl (.all _))) _ h2
       have h4 := Cl.frzM (R' := fun w => (∀ x ∈ G ++ [(c, X)], RdL x.2.w.v x.2.wl w) ∧ RdL x25.v ws w) h3 (fun w hh => ⟨fun x hx => by
         rcases List.mem_append.1 hx with hx | hx
         · exact hh.1 x hx
         · simp at hx; subst hx; rw [hXpl]; exact hh.2, hh.2⟩)
       simp only
       rw [hab]
       have h5 : Cl w [] (ownL 21 sa2.v (insR (abcC (evG G)) c) :: Sx.frz (fun w => (∀ x ∈ G ++ [(c, X)], RdL x.2.w.v x.2.wl w) ∧ RdL x25.v ws w) :: mpA b15 (upd m c s55) :: blk b8 (enc u) 153 :: blk b4 (enc (default : Bk)) 45 :: blk b3 (enc o) 40 :: rowsK 179 (upd m c s55) (fgX (G ++ [(c, X)]))) w' := (Cl.sel (by exact .take 1 rfl (.all _))) _ h4
       exact h5
     · simp only
       rw [hev3, hev2, ← List.append_assoc, ← hG]
     · simp only [List.length_append, List.length_cons, List.length_nil]; omega
     · intro x hx
       rcases List.mem_append.1 hx with hx | hx
       · exact hGo x hx
       · simp at hx; subst hx; exact hXok
     · exact ⟨fun w' k x hx => by
         rcases List.mem_append.1 hx with hx | hx
         · exact hGp.stb w' k x hx
         · simp at hx; subst hx; exact hXpp.stb w' k⟩
     · exact upd_nodup _ _ _ hmn
     · simp only
       rw [get?_upd, fg_snoc]
       by_cases hcc : c' = c
       · subst hcc; simp
       · rw [if_neg hcc, if_neg (fun e => hcc e.symm), List.append_nil]; exact hmg c'
   · have hi' : i = ws.length := by simp at h2; omega
     subst hi'
     rw [List.take_of_length_le (l := evOf (u.word, u.sl)) (by rw [evOf_len, hws]; exact Nat.le_refl _), ← hev] at hG
     refine cw_exit (post_then_x (post_then_x (post_blk_eq (post_blk (post_then (cw_region ?_))))))
     refine zS rfl (q_add rfl rfl rfl (by intro hc; omega)) ?_
     refine zm rfl (sw_nil ?_)
     refine post_next (k + 1, sa, G, m) (by exact .cons rfl (.cons rfl (.cons rfl (.cons rfl (.cons rfl (.cons rfl (.cons rfl .nil))))))) (fun w' h => ?_) ⟨by simp only; omega, hG, by simp only; omega, hGo, hGp, hmn, hmg⟩ (by simp only; omega)
     have h1 : Cl w [] (Sx.frz (fun w => (∀ x ∈ G, RdL x.2.w.v x.2.wl w) ∧ RdL x25.v ws w) :: ownL 21 sa.v (abcC (evG G)) :: mpA b15 m :: blk b4 (enc (default : Bk)) 45 :: blk b3 (enc o) 40 :: blk b8 (enc u) 153 :: rowsK 179 m (fgX G)) w' := (Cl.sel (by exact .take 1 rfl (.take 0 rfl (.take 0 rfl (.take 1 rfl (.take 1 rfl (.all _))))))) _ h
     have h2 := Cl.frzM (R' := fun w => ∀ x ∈ G, RdL x.2.w.v x.2.wl w) h1 (fun w hh => hh.1)
     have h3 : Cl w [] (blk b8 (enc u) 153 :: ownL 21 sa.v (abcC (evG G)) :: Sx.frz (fun w => ∀ x ∈ G, RdL x.2.w.v x.2.wl w) :: mpA b15 m :: blk b4 (enc (default : Bk)) 45 :: blk b3 (enc o) 40 :: rowsK 179 m (fgX G)) w' := (Cl.sel (by exact .take 5 rfl (.take 1 rfl (.all _)))) _ h2
     exact h3.tail
 · have hk' : k = es.length := by simp at h; omega
   subst hk'
   rw [List.take_length] at hG
   have hG2 : evG G = (es.map fun u => (u.word, u.sl)).flatMap evOf := hG
   rw [← hG2] at h12
   refine cw_c (C' := Cl w [] [ownL 21 sa.v (abcC (evG G)), Sx.frz (fun w => ∀ x ∈ G, RdL x.2.w.v x.2.wl w), mpA b15 m, blk b4 (enc (default : Bk)) 45, blk b3 (enc o) 40, Sx.frz (fun w => ∀ kv ∈ m, RdL kv.2.v (fgX G kv.1) w)]) (fun w' h => rowsK_frz (H := [ownL 21 sa.v (abcC (evG G)), Sx.frz (fun w => ∀ x ∈ G, RdL x.2.w.v x.2.wl w), mpA b15 m, blk b4 (enc (default : Bk)) 45, blk b3 (enc o) 40]) h) (cw_exit (post_then_x (post_then_x (post_blk_eq (post_then (zr (zm rfl ?_)))))))
   refine sw_x rfl rfl rfl (e_callH (A := [ownL 21 sa.v (abcC (evG G))]) (CanCall.mk Tryz.call118) rfl rfl (.k rfl (.nil)) (.refl _) (fun w1 bs h1 h2 h3 _ _ => sort_spec sa (abcC (evG G)) h12 w1 bs h1 h2 h3)) (fun ab => ?_)
   refine sw_imp fun hab => ?_
   have habl := hab.1.perm.length_eq
   have habs : ab = sortR (abcC (evG G)) := sort_eq hab.1.perm (by rw [habl]; exact hab.2)
   refine nP (zr ?_)
   refine sw_x rfl rfl rfl (e_alloc rfl) (fun b12 => ?_)
   refine nP (cw_seq (zr (zm rfl ?_)))
   refine zS rfl (q_len rfl (.k rfl (.nil)) (rdO (by exact .tail _ (.head _)))) ?_
   refine zm rfl (nP (cw_block ?_))
   refine cw_loop (S := Nat × SlV × List Let) (fun y => [(3, [], .pointer (some ⟨b3, 0, none⟩)), (4, [], .pointer (some ⟨b4, 0, none⟩)), (5, [], .map (some b15)), (12, [], .pointer (some ⟨b12, 0, none⟩)), (60, [], sa.v), (61, [], .int .i64 ab.length), (62, [], .int .i64 y.1)]) (fun y => Cl w [] [ownL 61 y.2.1.v y.2.2, Sx.frz (fun w => ∀ L ∈ y.2.2, LetIn L w), blk b12 [y.2.1.v] 45, ownL 21 sa.v ab, Sx.frz (fun w => ∀ x ∈ G, RdL x.2.w.v x.2.wl w), mpA b15 m, blk b4 (enc (default : Bk)) 45, blk b3 (enc o) 40, Sx.frz (fun w => ∀ kv ∈ m, RdL kv.2.v (fgX G kv.1) w)]) (fun y => y.1 ≤ ab.length ∧ (y.2.2.map fun L => (L.c, L.rl.map fun u => (u.tl, u.pl))) = (ab.take y.1).map fun c => (c.v, listC ((xsC (evG G) c).map toXL) o)) (fun y => ab.length - y.1) (0, ⟨none, 0, 0⟩, []) ⟨by simp, by simp⟩ (by exact .cons rfl (.cons rfl (.cons rfl (.cons rfl (.cons rfl (.cons rfl (.cons rfl .nil))))))) (fun w' h => Cl.addNil 61 (cl_true (fun w => by simp) h)) ?_
   rintro ⟨j, so, out⟩ ⟨hj, hout⟩
   dsimp only at hj hout ⊢
   have hol : out.length < 256 := by
     have h1 := congrArg List.length hout
     simp only [List.length_map, List.length_take] at h1; omega
   refine zr (zS rfl (q_lss rfl rfl rfl) (nP (cw_seq ?_)))
   refine cw_cond rfl (fun h2 => ?_) (fun h2 => ?_)
   · have hj' : j < ab.length := by simp at h2; omega
     obtain ⟨c, hc⟩ : ∃ c, nth ab j = c := ⟨_, rfl⟩
     have hcm : fgX G c ≠ [] := by
       rw [← fg_nil]
       exact hab.1.perm.mem_iff.1 (by rw [← hc]; exact nth_mem hj')
     obtain ⟨s, hgs⟩ : ∃ s, get? m c = some s := by
       cases hg : get? m c with
       | none => exact absurd ((hmg c).1 hg) hcm
       | some s => exact ⟨s, rfl⟩
     have hgz : getZ (⟨none, 0, 0⟩ : SlV) m c = s := by unfold getZ; rw [hgs]; rfl
     have hmem : (c, s) ∈ m := (get?_mem hmn).1 hgs
     have hfl := fg_le G c
     have hfo : ∀ e ∈ fgX G c, ExOk e := fun e he => by
       obtain ⟨x, hx, rfl⟩ := fg_mem he
       exact hGo x hx
     have hrd : ∀ (H : List Asn) w1, Cl w [] H w1 → Sx.frz (fun w => ∀ kv ∈ m, RdL kv.2.v (fgX G kv.1) w) ∈ H → Stb w1 [] (RdL s.v (fgX G c)) := fun H w1 hw hm => (stb_frz hw hm).mono fun w2 h4 => h4 (c, s) hmem
     have hin2 : ∀ (H : List Asn) w1, Cl w [] H w1 → Sx.frz (fun w => ∀ x ∈ G, RdL x.2.w.v x.2.wl w) ∈ H → Stb w1 [] (fun w' => ∀ u ∈ fgX G c, ExIn u w') := fun H w1 hw hm => ⟨fun w2 k u hu => by
       obtain ⟨x, hx, rfl⟩ := fg_mem hu
       exact ⟨(stb_frz hw hm).stb w2 k x hx, (stb_arg hw hGp).stb w2 k x hx⟩⟩
     refine sP (cw_seq (cw_block (zr ?_)))
     refine zS rfl (q_indexN rfl rfl rfl (rdO (by exact .tail _ (.tail _ (.tail _ (.head _))))) (by intro hc; omega)) ?_
     refine zS rfl (q_loadEl rfl rfl rfl (rdO (by exact .tail _ (.tail _ (.tail _ (.head _))))) (by intro hc; omega)) ?_
     refine za rfl (nP ?_)
     rw [hc]
     refine cw_region_a (Cl w [] [blk b12 [so.v] 45, mpA b15 m, blk b3 (enc o) 40]) [12] mixed_Tryz ?_
     refine zk 0 (Cl.sel (by exact .take 2 rfl (.take 4 rfl (.take 5 rfl (.nil _))))) rfl (q_fieldAddr rfl rfl) ?_
     refine zk 1 (Cl.sel (by exact .take 2 rfl (.take 4 rfl (.take 5 rfl (.nil _))))) rfl (q_loadC rfl rfl (by exact .head _) rfl) ?_
     refine zp 2 rfl (q_move rfl rfl) ?_
     refine zp 3 rfl (q_move rfl rfl) ?_
     refine zp 4 rfl (q_move rfl rfl) ?_
     refine zk 6 (Cl.sel (by exact .take 2 rfl (.take 4 rfl (.take 5 rfl (.nil _))))) rfl (q_loadA rfl rfl (by exact .tail _ (.tail _ (.head _))) rfl) ?_
     refine zk 5 (Cl.sel (by exact .take 2 rfl (.take 4 rfl (.take 5 rfl (.nil _))))) rfl (q_lookup (κ := Rn) (ν := SlV) (k := c) rfl rfl rfl (by exact fun w hw => rdm_own hw (by exact .tail _ (.head _)))) ?_
     rw [hgz]
     refine aw_x 7 (by kernel_rfl) rfl rfl rfl rfl (e_call (CanCall.mk Tryz.call119) rfl (.k rfl (.k rfl (.nil))) (fun w1 hw => list119_spec s (fgX G c) o ho (by omega) hfo w1 (hrd _ w1 hw (by exact .tail _ (.tail _ (.tail _ (.tail _ (.tail _ (.tail _ (.tail _ (.tail _ (.head _)))))))))) (hin2 _ w1 hw (by exact .tail _ (.tail _ (.tail _ (.tail _ (.head _)))))))) (by intro hb; exact fun _ w h => (Cl.sel (by exact .take 3 rfl (.take 5 rfl (.take 6 rfl (.nil _))))) w h.2) (fun y73 => ?_)
     refine aw_imp fun hy => ?_
     refine zp 8 rfl (q_build rfl (.k rfl (.k rfl (.nil))) rfl) ?_
     refine aw_x 9 (by kernel_rfl) rfl rfl rfl rfl (e_buildL (α := Let) (l := [⟨c.v, y73.1, y73.2⟩]) rfl (.k rfl (.nil)) rfl rfl rfl rfl) (by intro hb; exact fun _ => (Cl.sel (by exact .take 4 rfl (.take 6 rfl (.take 7 rfl (.nil _)))))) (fun s75 => ?_)
     refine aw_x 10 (by kernel_rfl) rfl rfl rfl rfl (e_append (i := 2) rfl (.k rfl (.k rfl (.nil))) rfl rfl (rdO (by exact .head _)) (by first | omega | (simp only [List.length_set, List.length_append, List.length_cons, List.length_nil, List.length_replicate, List.length_take, List.length_drop, List.length_map]; omega)) rfl) (by intro hb; exact fun _ => (Cl.sel (by exact .take 4 rfl (.take 6 rfl (.take 7 rfl (.nil _)))))) (fun s76 => ?_)
     refine zk 11 (Cl.sel (by exact .take 4 rfl (.take 6 rfl (.take 7 rfl (.nil _))))) rfl (q_fieldAddr rfl rfl) ?_
     refine aw_one0 12 (by kernel_rfl) rfl rfl rfl (e_store (i := 4) rfl rfl rfl rfl rfl rfl rfl rfl) (by intro hb; (exact absurd hb (by decide))) ?_
     refine aw_end (by kernel_rfl) ?_
     refine post_blk (post_then (cw_region ?_))
     refine zS rfl (q_add rfl rfl rfl (by intro hc; omega)) ?_
     refine zm rfl (sw_nil ?_)
     refine post_next (j + 1, s76, out ++ [⟨c.v, y73.1, y73.2⟩]) (by exact .cons rfl (.cons rfl (.cons rfl (.cons rfl (.cons rfl (.cons rfl (.cons rfl .nil))))))) (fun w' h => ?_) ⟨by simp only; omega, ?_⟩ (by simp only; omega)
     · have h1 : Cl w [] ([Sx.frz (fun w => RdL y73.1.v y73.2 w ∧ ∀ u ∈ y73.2, ChcIn u w), Sx.frz (fun w => ∀ L ∈ out, LetIn L w)] ++ [ownL 61 s76.v (out ++ [⟨c.v, y73.1, y73.2⟩]), blk b12 [s76.v] 45, ownL 21 sa.v ab, Sx.frz (fun w => ∀ x ∈ G, RdL x.2.w.v x.2.wl w), mpA b15 m, blk b4 (enc (default : Bk)) 45, blk b3 (enc o) 40, Sx.frz (fun w => ∀ kv ∈ m, RdL kv.2.v (fgX G kv.1) w)]) w' := (Cl.sel (by exact .take 1 rfl (.take 2 rfl (.take 1 rfl (.take 1 rfl (.take 1 rfl (.take 1 rfl (.take 1 rfl (.take 1 rfl (.take 1 rfl (.take 1 rfl (.nil _)))))))))))) _ h
       have h2 := Cl.frz (R := fun w => ∀ q ∈ out ++ [⟨c.v, y73.1, y73.2⟩], LetIn q w) h1 fun w bs ⟨b1, _, _, k1, b2, _, _, k2, _⟩ q hq => by
         rcases List.mem_append.1 hq with hq | hq
         · exact frz_here k2 q hq
         · simp at hq; subst hq; exact frz_here k1
       exact (Cl.sel (by exact .take 1 rfl (.take 0 rfl (.take 0 rfl (.take 0 rfl (.take 0 rfl (.take 0 rfl (.take 0 rfl (.take 0 rfl (.take 0 rfl (.nil _))))))))))) _ h2
     · simp only
       rw [List.map_append, hout, List.take_succ_eq_append_getElem hj', List.map_append, ← nth_get hj', hc]
       congr 1
       simp only [List.map_cons, List.map_nil]
       rw [hy, listC_pl (fg_pl G c)]
   · have hj' : j = ab.length := by simp at h2; omega
     subst hj'
     rw [List.take_length] at hout
     refine cw_exit (post_then_x (post_then_x (post_blk_eq (post_then (zr ?_)))))
     refine zS rfl (q_loadA rfl rfl (by exact .tail _ (.tail _ (.head _))) rfl) ?_
     refine sw_eff0 rfl rfl (e_store (i := 6) rfl rfl rfl rfl rfl rfl rfl rfl) (nP (cw_ret ?_))
     refine post_ret1 rfl (resOk_blk (x := (⟨so, out⟩ : Bk)) rfl (by exact .tail _ (.tail _ (.tail _ (.tail _ (.tail _ (.tail _ (.head _))))))) (by rfl)) ?_
     refine fun w' h => ⟨⟨so, out⟩, rfl, ?_, ?_⟩
     · simp only
       rw [hout, habs, hG2]; rfl
     · have h1 : Cl w [] ([ownL 61 so.v out, Sx.frz (fun w => ∀ L ∈ out, LetIn L w)] ++ []) w' := (Cl.sel (by exact .take 0 rfl (.take 0 rfl (.nil _)))) _ h
       exact Cl.frz h1 fun w bs ⟨b1, _, _, k1, b2, _, _, k2, _⟩ => ⟨ownL.rd k1, frz_here k2⟩
end Go.Proofs.YtkmbliojafefdaaGreatDoor

set_option autoImplicit false
set_option maxRecDepth 100000
namespace Go.Proofs.YtkmbliojafefdaaGreatDoor
open Go.Sx
open Enc (enc val)
theorem ent_ok {p : List Pr} {l : List Sp} (hsz : ∀ u ∈ l, u.word.size ≤ 1000000) (hl0 : lexE l = 0) (hp0 : prsE p = 0) {es : List Ety} (h : (es.map fun u => (u.word, u.sl)) = entC p l) : es.length ≤ 3000 ∧ ∀ u ∈ es, EtyOk u := by
 obtain ⟨z1, z2, z3, z4, z5⟩ := prsE_zero hp0
 have hl1 : l.length ≤ 3000 ∧ ∀ u ∈ l, spOk u = true := by
   unfold lexE at hl0
   split at hl0
   · cases hl0
   · split at hl0
     · rename_i h1 h2
       simp only [Bool.and_eq_true, List.all_eq_true] at h2
       exact ⟨by omega, h2.2⟩
     · cases hl0
 refine ⟨?_, fun u hu => ?_⟩
 · have h1 := ent_le p l
   rw [← h, List.length_map] at h1; omega
 · have h1 : (u.word, u.sl) ∈ entC p l := by rw [← h]; exact List.mem_map.2 ⟨u, hu, rfl⟩
   unfold entC at h1
   obtain ⟨x, hx, he⟩ := List.mem_map.1 h1
   obtain ⟨hx1, hx2⟩ := List.mem_filter.1 hx
   have e1 : x.word = u.word := congrArg Prod.fst he
   have e2 : alP p x.word x.pl = u.sl := congrArg Prod.snd he
   have hxo := hl1.2 x hx1
   have h3 : wordOk x.word = true ∧ phonesOk x.pl 120 = true := by simpa [spOk] using hxo
   have hrl : (runes x.word).length ≤ 40 := by have := h3.1; simp [wordOk] at this; omega
   have h4 : 0 ≤ leastC p (runes x.word) x.pl := by unfold alOk at hx2; simpa using hx2
   have h5 := path_ok h4
   have h6 : alP p x.word x.pl = pathC p (runes x.word) x.pl := by unfold alP; rw [if_pos hx2]
   refine ⟨by rw [← e1]; exact hsz x hx1, by rw [← e1]; exact hrl, by rw [← e1, ← e2, h6, h5.1], fun q hq => ?_⟩
   rw [← e2, h6] at hq
   obtain ⟨y, hy, rfl⟩ := h5.2 q hq
   have hy2 := z5 y hy
   unfold prOk at hy2
   simp only [Bool.and_eq_true] at hy2
   have h7 := hy2.1.1.2
   unfold phonesOk at h7
   simp only [Bool.and_eq_true, decide_eq_true_eq, List.all_eq_true] at h7
   exact ⟨by omega, h7.1⟩
def bkP (bl : List Let) : List (Int × List (List Cond × List ByteArray)) := bl.map fun L => (L.c, L.rl.map fun u => (u.tl, u.pl))
def learnP (l : List Sp) (p : List Pr) (o : Lrn) : List (Int × List (List Cond × List ByteArray)) := if optE l p o = 0 then learnC o (entC p l) else []
theorem optE_zero {l : List Sp} {p : List Pr} {o : Lrn} (h : optE l p o = 0) : lexE l = 0 ∧ prsE p = 0 ∧ LrnOk o := by
 unfold optE at h
 split at h
 · rename_i h1; exact absurd h h1
 · rename_i h1
   have h1 : worstC [lexE l, prsE p] = 0 := by simpa using h1
   split at h
   · rename_i h2
     unfold worstC at h1
     split at h1
     · cases h1
     · rw [orL2] at h1
       split at h1
       · rename_i h3; exact absurd h1 h3
       · rename_i h3; exact ⟨by simpa using h3, h1, lrnOk_of h2⟩
   · cases h
theorem learn_spec (sl sp : SlV) (l : List Sp) (p : List Pr) (o : Lrn) (hsz : ∀ u ∈ l, u.word.size ≤ 1000000) (h12 : optE l p o = 0 → (abcC ((entC p l).flatMap evOf)).length < 256) (w : World) (hT : Stb w [] Tab) (hs : Stb w [] (RdL sl.v l)) (hl : Stb w [] fun w' => ∀ u ∈ l, SpIn u w') (hp0 : Stb w [] (RdL sp.v p)) (hp : Stb w [] fun w' => ∀ u ∈ p, PrIn u w') :
   Calls Tryz.prog 29 #[sl.v, sp.v, val o] w fun e w' => ∃ b : Bk, e = .returned (.tuple #[val b, .int .i64 (optE l p o)]) ∧ bkP b.bl = learnP l p o ∧ Cl w [] [Sx.frz (BkIn b)] w' := by
 refine calls_cw (vs := [_, _, _]) Tryz.func29 rfl Tryz.ntmps29 rfl (Cl.start0 w) (zr ?_)
 refine sw_x rfl rfl rfl (e_box rfl rfl rfl) (fun b5 => ?_)
 refine sw_x rfl rfl rfl (e_alloc rfl) (fun b6 => ?_)
 refine za rfl (nP (cw_seq (zr (zm rfl (zm rfl ?_)))))
 refine zS rfl (q_loadA rfl rfl (by exact .tail _ (.head _)) rfl) ?_
 refine sw_step rfl rfl rfl (q_call (CanCall.mk Tryz.call69) rfl (.k rfl (.k rfl (.k rfl (.nil)))) (fun _ w1 hw => callq hw (options_spec _ _ l p o hsz w1 (stb_arg hw hT) (stb_arg hw hs) (stb_arg hw hl) (stb_arg hw hp0) (stb_arg hw hp)))) (za rfl (nP (zr (zm rfl (zS rfl (q_neq rfl rfl rfl) (sw_nil (post_then ?_)))))))
 refine cw_cond rfl (fun h => ?_) (fun h => ?_)
 · have h1 : optE l p o ≠ 0 := by simpa using h
   refine zr (zS rfl (q_build rfl (.nil) rfl) (zm rfl (sw_eff0 rfl rfl (e_store (i := 0) rfl rfl rfl rfl rfl rfl rfl rfl) (za rfl (nP (cw_ret (post_then_r ?_)))))))
   refine post_ret2 rfl (resOk_blk (x := (default : Bk)) rfl (by exact .head _) (by rfl)) (resOk_tmp rfl) ?_
   refine fun w' hw => ⟨default, rfl, by unfold learnP; rw [if_neg h1]; rfl, ?_⟩
   exact Cl.frz (H := []) ((Cl.sel (by exact .nil _)) _ hw) fun w _ _ => ⟨rd_nil0 w, fun L hL => by cases hL⟩
 · have h1 : optE l p o = 0 := by simpa using h
   obtain ⟨z1, z2, z3⟩ := optE_zero h1
   refine sP (cw_seq (cw_region_a (Cl w [] [blk b5 (enc o) 40]) [] mixed_Tryz ?_))
   refine zp 0 rfl (q_move rfl rfl) ?_
   refine zp 1 rfl (q_move rfl rfl) ?_
   refine zk 3 (Cl.sel (by exact .take 1 rfl (.nil _))) rfl (q_loadA rfl rfl (by exact .head _) rfl) ?_
   refine aw_x 2 (by kernel_rfl) rfl rfl rfl rfl (e_call (CanCall.mk Tryz.call71) rfl (.k rfl (.k rfl (.nil))) (fun w1 hw => entries_spec sl sp l p hsz z1 z2 w1 (stb_arg hw hs) (stb_arg hw hl) (stb_arg hw hp0) (stb_arg hw hp))) (by intro hb; exact fun _ w h => (Cl.sel (by exact .take 2 rfl (.nil _))) w h.2) (fun y19 => ?_)
   refine aw_imp fun hy => ?_
   obtain ⟨e1, e2⟩ := ent_ok hsz z1 z2 hy
   refine aw_x 4 (by kernel_rfl) rfl rfl rfl rfl (e_call (CanCall.mk Tryz.call70) rfl (.k rfl (.k rfl (.nil))) (fun w1 hw => learned_spec y19.1 y19.2 o z3 e1 e2 (by rw [hy]; exact h12 h1) w1 ((stb_frz (R := fun w => RdL y19.1.v y19.2 w ∧ ∀ u ∈ y19.2, EtIn u w) hw (by exact .head _)).mono fun _ h => h.1) ((stb_frz (R := fun w => RdL y19.1.v y19.2 w ∧ ∀ u ∈ y19.2, EtIn u w) hw (by exact .head _)).mono fun _ h => h.2))) (by intro hb; exact fun _ w h => (Cl.sel (by exact .take 3 rfl (.nil _))) w h.2) (fun b21 => ?_)
   refine aw_imp fun hb => ?_
   refine aw_one0 5 (by kernel_rfl) rfl rfl rfl (e_store (i := 2) rfl rfl rfl rfl rfl rfl rfl rfl) (by intro hb; exact (Cl.sel (by exact .take 3 rfl (.nil _)))) ?_
   refine zp 6 rfl (q_assign rfl rfl) ?_
   refine aw_end (by kernel_rfl) ?_
   refine post_then (cw_ret ?_)
   refine post_ret2 rfl (resOk_blk (x := b21) rfl (by exact .tail _ (.tail _ (.head _))) (by rfl)) (resOk_tmp rfl) ?_
   exact fun w' hw => ⟨b21, by rw [h1], by unfold bkP; rw [hb, hy]; unfold learnP; rw [if_pos h1], (Cl.sel (by exact .take 0 rfl (.nil _))) _ hw⟩
end Go.Proofs.YtkmbliojafefdaaGreatDoor

set_option autoImplicit false
set_option maxRecDepth 100000
namespace Go.Proofs.YtkmbliojafefdaaGreatDoor
open Go.Sx
open Enc (enc val)
theorem said39_spec (sv : Value) (l : List Snd) (hl : l.length ≤ 1000000) (w : World) (hs : Stb w [] (RdL sv l)) : Calls Tryz.prog 39 #[sv] w fun e w' => ∃ r : SlV, e = .returned r.v ∧ True ∧ Cl w [] [ownL 9 r.v (l.map (·.phone))] w' := by
 have hL := rd_len hs.here
 refine calls_cw (vs := [_]) Tryz.func39 rfl Tryz.ntmps39 rfl (Cl.start0 w) (zr (za rfl (nP (cw_seq (cw_region (za rfl (sw_nil (post_then (cw_seq (cw_seq (cw_region (za rfl (sw_nil (post_then (cw_block ?_)))))))))))))))
 refine cw_loop (S := Nat × SlV) (fun y => [(0, [], sv), (3, [], y.2.v), (4, [], .int .i64 y.1)]) (fun y => Cl w [] [ownL 9 y.2.v ((l.take y.1).map (·.phone))]) (fun y => y.1 ≤ l.length) (fun y => l.length - y.1) (0, ⟨none, 0, 0⟩) (by simp) (by exact .cons rfl (.cons rfl (.cons rfl .nil))) (fun w' h => Cl.addNil 9 h) ?_
 rintro ⟨k, so⟩ hk
 dsimp only at hk ⊢
 have hkl : ((l.take k).map (·.phone)).length ≤ 1000000 := by rw [List.length_map, List.length_take]; omega
 refine cw_seq (zr (zm rfl (zm rfl ?_)))
 refine zS rfl (q_len rfl (.k rfl (.nil)) (stA (by assumption))) ?_
 refine zS rfl (q_lss rfl rfl rfl) (nP ?_)
 refine cw_cond rfl (fun h => ?_) (fun h => ?_)
 · have hk' : k < l.length := by simp at h; omega
   refine sP (cw_seq (cw_block (cw_region (zm rfl (zm rfl (zm rfl ?_))))))
   refine zS rfl (q_indexN rfl rfl rfl (stA (by assumption)) (by intro hc; omega)) ?_
   refine zS rfl (q_fieldEl rfl rfl (stA (by assumption)) (by intro hc; omega)) ?_
   refine zS rfl (q_loadF rfl rfl rfl (stA (by assumption)) (by intro hc; omega) rfl) ?_
   refine sw_x rfl rfl rfl (e_build1 (α := ByteArray) rfl rfl rfl rfl) (fun s17 => ?_)
   refine sw_x rfl rfl rfl (e_append (i := 1) rfl (.k rfl (.k rfl (.nil))) rfl rfl (rdO (by exact .head _)) (by first | omega | (simp only [List.length_set, List.length_append, List.length_cons, List.length_nil, List.length_replicate, List.length_take, List.length_drop, List.length_map]; omega)) rfl) (fun s18 => ?_)
   refine za rfl (sw_nil (post_blk (post_then (cw_region (zm rfl ?_)))))
   refine zS rfl (q_add rfl rfl rfl (by intro hc; omega)) ?_
   refine za rfl (sw_nil ?_)
   refine post_next (k + 1, s18) (by exact .cons rfl (.cons rfl (.cons rfl .nil))) (fun w' h => ?_) (by simp only; omega) (by simp only; omega)
   simp only
   rw [List.take_succ_eq_append_getElem hk', List.map_append, ← nth_get hk']
   exact (Cl.sel (by exact .take 1 rfl (.nil _))) _ h
 · have hk' : k = l.length := by simp at h; omega
   subst hk'
   rw [List.take_length]
   refine cw_exit (post_then_x (post_then_x (post_blk_eq (post_then (zr (zm rfl (za rfl (nP (cw_ret (post_ret1 rfl (resOk_tmp rfl) ?_))))))))))
   exact fun w' hw => ⟨so, rfl, trivial, hw⟩
instance : DecidableEq Cond := fun a b => decidable_of_iff (a.at_ = b.at_ ∧ a.c = b.c) ⟨fun h => by cases a; cases b; simp at h; simp [h], fun h => by rw [h]; exact ⟨rfl, rfl⟩⟩
section
variable {n : Fr} {E : Env} {C : World → Prop} {cs : List Bool} {o : Oper}
theorem neq109 (a b : Cond) (w : World) : (binOp .neq 109 (val a) (val b)).run Tryz.prog w = .ok (.bool (!decide (a = b))) w := by
 obtain ⟨a1, a2⟩ := a
 obtain ⟨b1, b2⟩ := b
 show (binOp .neq 109 (.agg #[.int .i64 a1, .int .i32 a2]) (.agg #[.int .i64 b1, .int .i32 b2])).run Tryz.prog w = _
 simp [go_sem]
 by_cases h1 : a1 = b1 <;> by_cases h2 : a2 = b2 <;> simp [h1, h2] <;> omega
theorem q_neqCond {t' : TypeId} {x y : Operand} {cx cy : List Bool} {a b : Cond} (ho : o.op = .binOp .neq 109 x y t') (hx : evl E x = some (cx, val a)) (hy : evl E y = some (cy, val b)) [sx : Sub cx cs] [sy : Sub cy cs] : OpR Tryz.prog n E C cs o (.bool (!decide (a = b))) :=
 .of_run fun ac ha hc w _ => by
   have hg : (eqGuard .neq 109 x y (val a) (val b)).run Tryz.prog w = .ok () w := by kernel_rfl
   unfold execOp; simp only [ho]; rw [ha.eval hx sx hc, ha.eval hy sy hc]
   simp [hg, neq109, Result.andThen]
end
theorem sameTests_spec (sa sb : Value) (a b : List Cond) (w : World) (ha : Stb w [] (RdL sa a)) (hb : Stb w [] (RdL sb b)) : Calls Tryz.prog 60 #[sa, sb] w fun e w' => e = .returned (.bool (decide (a = b))) ∧ Cl w [] [] w' := by
 have hLa := rd_len ha.here
 have hLb := rd_len hb.here
 refine calls_cw (vs := [_, _]) Tryz.func60 rfl Tryz.ntmps60 rfl (Cl.start0 w) (zr (za rfl (nP (cw_seq (cw_seq (cw_region (zm rfl ?_)))))))
 refine zS rfl (q_len rfl (.k rfl (.nil)) (stA (by assumption))) ?_
 refine zm rfl ?_
 refine zS rfl (q_len rfl (.k rfl (.nil)) (stA (by assumption))) ?_
 refine zS rfl (q_neq rfl rfl rfl) (nP ?_)
 refine cw_cond rfl (fun h => ?_) (fun h => ?_)
 · have h2 : ¬ a = b := fun e => by subst e; simp at h
   refine zr (za rfl (nP (cw_ret (post_then_r (post_ret1 rfl (resOk_tmp rfl) ?_)))))
   exact fun w' hw => ⟨by rw [decide_eq_false h2], hw⟩
 · have hl : a.length = b.length := by simp at h; omega
   refine sP (cw_seq (zr (za rfl (nP (cw_block ?_)))))
   refine cw_loop (S := Nat) (fun k => [(0, [], sa), (1, [], sb), (5, [], .int .i64 k)]) (fun _ => Cl w [] []) (fun k => k ≤ a.length ∧ ∀ j, j < k → nth a j = nth b j) (fun k => a.length - k) 0 ⟨Nat.zero_le _, fun j hj => by omega⟩ (by exact .cons rfl (.cons rfl (.cons rfl .nil))) (fun _ h => h) ?_
   rintro k ⟨hk, hbe⟩
   refine cw_seq (zr (zm rfl (zm rfl ?_)))
   refine zS rfl (q_len rfl (.k rfl (.nil)) (stA (by assumption))) ?_
   refine zS rfl (q_lss rfl rfl rfl) (nP ?_)
   refine cw_cond rfl (fun h2 => ?_) (fun h2 => ?_)
   · have hk' : k < a.length := by simp at h2; omega
     have hkb : k < b.length := by omega
     refine sP (cw_seq (cw_block (cw_seq (cw_region_a (Cl w [] []) [] mixed_Tryz ?_))))
     refine zp 0 rfl (q_move rfl rfl) ?_
     refine zp 1 rfl (q_move rfl rfl) ?_
     refine zk 2 (Cl.sel (by exact .nil _)) rfl (q_indexN rfl rfl rfl (stA (by assumption)) (by intro hc; omega)) ?_
     refine zk 3 (Cl.sel (by exact .nil _)) rfl (q_loadEl rfl rfl rfl (stA (by assumption)) (by intro hc; omega)) ?_
     refine zp 4 rfl (q_move rfl rfl) ?_
     refine zp 5 rfl (q_move rfl rfl) ?_
     refine zk 6 (Cl.sel (by exact .nil _)) rfl (q_indexN rfl rfl rfl (stA (by assumption)) (by intro hc; omega)) ?_
     refine zk 7 (Cl.sel (by exact .nil _)) rfl (q_loadEl rfl rfl rfl (stA (by assumption)) (by intro hc; omega)) ?_
     refine zk 8 (Cl.sel (by exact .nil _)) rfl (q_neqCond (a := nth a k) (b := nth b k) rfl rfl rfl) ?_
     refine aw_end (by kernel_rfl) ?_
     refine post_then ?_
     refine cw_cond rfl (fun h3 => ?_) (fun h3 => ?_)
     · have h4 : ¬ a = b := fun e => by subst e; simp at h3
       refine zr (za rfl (nP (cw_ret (post_blk_r (post_then_r (post_then_r (post_blk_r (post_then_r (post_ret1 rfl (resOk_tmp rfl) ?_)))))))))
       exact fun w' hw => ⟨by rw [decide_eq_false h4], hw⟩
     · have h4 : nth a k = nth b k := by simpa using h3
       refine cw_skip (post_blk (post_then (cw_region (zm rfl ?_))))
       refine zS rfl (q_add rfl rfl rfl (by intro hc; omega)) ?_
       refine za rfl (sw_nil ?_)
       exact post_next (k + 1) (by exact .cons rfl (.cons rfl (.cons rfl .nil))) (fun _ h => h) ⟨by omega, fun j hj => by
         rcases Nat.lt_or_ge j k with h5 | h5
         · exact hbe j h5
         · have : j = k := by omega
           subst this; exact h4⟩ (by omega)
   · have hk' : k = a.length := by simp at h2; omega
     have h4 : a = b := List.ext_getElem hl fun i h5 h6 => by
       have := hbe i (by omega)
       rwa [nth_get h5, nth_get h6] at this
     refine cw_exit (post_then_x (post_then_x (post_blk_eq (post_then (zr (za rfl (nP (cw_ret (post_ret1 rfl (resOk_tmp rfl) ?_)))))))))
     exact fun w' hw => ⟨by rw [decide_eq_true h4], hw⟩
def exL (s1 s2 s3 : SlV) : List Sp := [⟨⟨#[97, 99, 101]⟩, s1, [⟨#[101, 105]⟩, ⟨#[115]⟩]⟩, ⟨⟨#[97, 116, 101]⟩, s2, [⟨#[101, 105]⟩, ⟨#[116]⟩]⟩, ⟨⟨#[99, 97, 116]⟩, s3, [⟨#[107]⟩, ⟨#[97]⟩, ⟨#[116]⟩]⟩]
def exP (s1 s2 s3 s4 s5 s6 : SlV) : List Pr := [⟨97, s1, 0, [⟨#[97]⟩]⟩, ⟨97, s2, 1, [⟨#[101, 105]⟩]⟩, ⟨99, s3, 0, [⟨#[107]⟩]⟩, ⟨99, s4, 1, [⟨#[115]⟩]⟩, ⟨101, ⟨none, 0, 0⟩, 0, []⟩, ⟨101, s5, 1, [⟨#[101]⟩]⟩, ⟨116, s6, 0, [⟨#[116]⟩]⟩]
def ExR (a b s1 s2 s3 t1 t2 t3 t4 t5 t6 : SlV) (w : World) : Prop := (RdL a.v (exL s1 s2 s3) w ∧ ∀ u ∈ exL s1 s2 s3, SpIn u w) ∧ (RdL b.v (exP t1 t2 t3 t4 t5 t6) w ∧ ∀ u ∈ exP t1 t2 t3 t4 t5 t6, PrIn u w)
structure ExS where
 a : SlV
 b : SlV
 s1 : SlV
 s2 : SlV
 s3 : SlV
 t1 : SlV
 t2 : SlV
 t3 : SlV
 t4 : SlV
 t5 : SlV
 t6 : SlV
theorem example_spec (w : World) : Calls Tryz.prog 59 #[] w fun e w' => ∃ y : ExS, e = .returned (.tuple #[y.a.v, y.b.v]) ∧ True ∧ Cl w [] [Sx.frz (ExR y.a y.b y.s1 y.s2 y.s3 y.t1 y.t2 y.t3 y.t4 y.t5 y.t6)] w' := by
 refine calls_cw (vs := []) Tryz.func59 rfl Tryz.ntmps59 rfl (Cl.start0 w) (zr (za rfl (za rfl (nP (cw_seq (cw_region ?_))))))
 refine sw_x rfl rfl rfl (e_buildL (α := ByteArray) (l := [⟨#[101, 105]⟩, ⟨#[115]⟩]) rfl (.k rfl (.k rfl (.nil))) rfl rfl rfl rfl) (fun s4 => ?_)
 refine zS rfl (q_build rfl (.k rfl (.k rfl (.nil))) rfl) ?_
 refine sw_x rfl rfl rfl (e_buildL (α := ByteArray) (l := [⟨#[101, 105]⟩, ⟨#[116]⟩]) rfl (.k rfl (.k rfl (.nil))) rfl rfl rfl rfl) (fun s6 => ?_)
 refine zS rfl (q_build rfl (.k rfl (.k rfl (.nil))) rfl) ?_
 refine sw_x rfl rfl rfl (e_buildL (α := ByteArray) (l := [⟨#[107]⟩, ⟨#[97]⟩, ⟨#[116]⟩]) rfl (.k rfl (.k rfl (.k rfl (.nil)))) rfl rfl rfl rfl) (fun s8 => ?_)
 refine zS rfl (q_build rfl (.k rfl (.k rfl (.nil))) rfl) ?_
 refine sw_x rfl rfl rfl (e_buildL (α := Sp) (l := exL s4 s6 s8) rfl (.k rfl (.k rfl (.k rfl (.nil)))) rfl rfl rfl rfl) (fun s10 => ?_)
 refine za rfl (nP (zr ?_))
 refine sw_x rfl rfl rfl (e_build1 (α := ByteArray) rfl rfl rfl rfl) (fun s11 => ?_)
 refine zS rfl (q_build rfl (.k rfl (.k rfl (.nil))) rfl) ?_
 refine sw_x rfl rfl rfl (e_build1 (α := ByteArray) rfl rfl rfl rfl) (fun s13 => ?_)
 refine zS rfl (q_build rfl (.k rfl (.k rfl (.k rfl (.nil)))) rfl) ?_
 refine sw_x rfl rfl rfl (e_build1 (α := ByteArray) rfl rfl rfl rfl) (fun s15 => ?_)
 refine zS rfl (q_build rfl (.k rfl (.k rfl (.nil))) rfl) ?_
 refine sw_x rfl rfl rfl (e_build1 (α := ByteArray) rfl rfl rfl rfl) (fun s17 => ?_)
 refine zS rfl (q_build rfl (.k rfl (.k rfl (.k rfl (.nil)))) rfl) (zS rfl (q_build rfl (.k rfl (.nil)) rfl) ?_)
 refine sw_x rfl rfl rfl (e_build1 (α := ByteArray) rfl rfl rfl rfl) (fun s20 => ?_)
 refine zS rfl (q_build rfl (.k rfl (.k rfl (.k rfl (.nil)))) rfl) ?_
 refine sw_x rfl rfl rfl (e_build1 (α := ByteArray) rfl rfl rfl rfl) (fun s22 => ?_)
 refine zS rfl (q_build rfl (.k rfl (.k rfl (.nil))) rfl) ?_
 refine sw_x rfl rfl rfl (e_buildL (α := Pr) (l := exP s11 s13 s15 s17 s20 s22) rfl (.k rfl (.k rfl (.k rfl (.k rfl (.k rfl (.k rfl (.k rfl (.nil)))))))) rfl rfl rfl rfl) (fun s24 => ?_)
 refine za rfl (nP (zr (zm rfl (zm rfl (za rfl (za rfl (sw_nil (post_then (cw_ret (post_ret2 rfl (resOk_tmp rfl) (resOk_tmp rfl) ?_))))))))))
 refine fun w' hw => ⟨⟨s10, s24, s4, s6, s8, s11, s13, s15, s17, s20, s22⟩, rfl, trivial, ?_⟩
 have h1 : Cl w [] ([ownL 68 s24.v (exP s11 s13 s15 s17 s20 s22), ownL 9 s22.v ([⟨#[116]⟩] : List ByteArray), ownL 9 s20.v ([⟨#[101]⟩] : List ByteArray), ownL 9 s17.v ([⟨#[115]⟩] : List ByteArray), ownL 9 s15.v ([⟨#[107]⟩] : List ByteArray), ownL 9 s13.v ([⟨#[101, 105]⟩] : List ByteArray), ownL 9 s11.v ([⟨#[97]⟩] : List ByteArray), ownL 56 s10.v (exL s4 s6 s8), ownL 9 s8.v ([⟨#[107]⟩, ⟨#[97]⟩, ⟨#[116]⟩] : List ByteArray), ownL 9 s6.v ([⟨#[101, 105]⟩, ⟨#[116]⟩] : List ByteArray), ownL 9 s4.v ([⟨#[101, 105]⟩, ⟨#[115]⟩] : List ByteArray)] ++ []) w' := (Cl.sel (by exact .take 0 rfl (.take 0 rfl (.take 0 rfl (.take 0 rfl (.take 0 rfl (.take 0 rfl (.take 0 rfl (.take 0 rfl (.take 0 rfl (.take 0 rfl (.take 0 rfl (.nil _))))))))))))) _ hw
 refine Cl.frz h1 fun w bs ⟨_, _, _, k24, _, _, _, k22, _, _, _, k20, _, _, _, k17, _, _, _, k15, _, _, _, k13, _, _, _, k11, _, _, _, k10, _, _, _, k8, _, _, _, k6, _, _, _, k4, _⟩ => ?_
 refine ⟨⟨ownL.rd k10, fun u hu => ?_⟩, ownL.rd k24, fun u hu => ?_⟩
 · simp only [exL, List.mem_cons, List.not_mem_nil, or_false] at hu
   rcases hu with rfl | rfl | rfl
   · exact ownL.rd k4
   · exact ownL.rd k6
   · exact ownL.rd k8
 · simp only [exP, List.mem_cons, List.not_mem_nil, or_false] at hu
   rcases hu with rfl | rfl | rfl | rfl | rfl | rfl | rfl
   · exact ownL.rd k11
   · exact ownL.rd k13
   · exact ownL.rd k15
   · exact ownL.rd k17
   · exact rd_nil0 w
   · exact ownL.rd k20
   · exact ownL.rd k22
end Go.Proofs.YtkmbliojafefdaaGreatDoor

set_option autoImplicit false
set_option maxRecDepth 100000
namespace Go.Proofs.YtkmbliojafefdaaGreatDoor
open Go.Sx
variable (s1 s2 s3 t1 t2 t3 t4 t5 t6 : SlV)
theorem ex_alignN : alignN (exP t1 t2 t3 t4 t5 t6) ⟨#[97, 116, 101]⟩ ([⟨#[101, 105]⟩, ⟨#[116]⟩] : List ByteArray) = 1 := by kernel_rfl
theorem ex_alignE : alignE (exP t1 t2 t3 t4 t5 t6) ⟨#[97, 116, 101]⟩ ([⟨#[101, 105]⟩, ⟨#[116]⟩] : List ByteArray) = 0 := by kernel_rfl
theorem ex_alignP : alignP (exP t1 t2 t3 t4 t5 t6) ⟨#[97, 116, 101]⟩ ([⟨#[101, 105]⟩, ⟨#[116]⟩] : List ByteArray) = [([⟨#[101, 105]⟩] : List ByteArray), ([⟨#[116]⟩] : List ByteArray), ([] : List ByteArray)] := by kernel_rfl
theorem ex_optE : optE (exL s1 s2 s3) (exP t1 t2 t3 t4 t5 t6) (⟨2, 1, 10⟩ : Lrn) = 0 := by kernel_rfl
theorem ex_abc : (abcC ((entC (exP t1 t2 t3 t4 t5 t6) (exL s1 s2 s3)).flatMap evOf)).length = 4 := by kernel_rfl
def exBk : List (Int × List (List Cond × List ByteArray)) := [(97, [([⟨-1, 0⟩], ([⟨#[101, 105]⟩] : List ByteArray)), ([], ([⟨#[97]⟩] : List ByteArray))]), (99, [([⟨-1, 0⟩], ([⟨#[107]⟩] : List ByteArray)), ([], ([⟨#[115]⟩] : List ByteArray))]), (101, [([], [])]), (116, [([], ([⟨#[116]⟩] : List ByteArray))])]
theorem ex_learn : learnP (exL s1 s2 s3) (exP t1 t2 t3 t4 t5 t6) (⟨2, 1, 10⟩ : Lrn) = exBk := by kernel_rfl
theorem two_rules {rl : List Chc} {a1 a2 : List Cond} {l1 l2 : List ByteArray} (h : (rl.map fun u => (u.tl, u.pl)) = [(a1, l1), (a2, l2)]) : ∃ u v : Chc, rl = [⟨u.t, u.p, a1, l1⟩, ⟨v.t, v.p, a2, l2⟩] := by
 match rl, h with
 | [u, v], h =>
   simp only [List.map_cons, List.map_nil, List.cons.injEq, Prod.mk.injEq, and_true] at h
   obtain ⟨⟨rfl, rfl⟩, rfl, rfl⟩ := h
   exact ⟨u, v, rfl⟩
theorem one_rule {rl : List Chc} {a1 : List Cond} {l1 : List ByteArray} (h : (rl.map fun u => (u.tl, u.pl)) = [(a1, l1)]) : ∃ u : Chc, rl = [⟨u.t, u.p, a1, l1⟩] := by
 match rl, h with
 | [u], h =>
   simp only [List.map_cons, List.map_nil, List.cons.injEq, Prod.mk.injEq, and_true] at h
   obtain ⟨rfl, rfl⟩ := h
   exact ⟨u, rfl⟩
structure BkS where
 r1 : SlV
 r2 : SlV
 r3 : SlV
 r4 : SlV
 u1 : Chc
 u2 : Chc
 u3 : Chc
 u4 : Chc
 u5 : Chc
 u6 : Chc
def exBl (b : BkS) : List Let := [⟨97, b.r1, [⟨b.u1.t, b.u1.p, [⟨-1, 0⟩], ([⟨#[101, 105]⟩] : List ByteArray)⟩, ⟨b.u2.t, b.u2.p, [], ([⟨#[97]⟩] : List ByteArray)⟩]⟩, ⟨99, b.r2, [⟨b.u3.t, b.u3.p, [⟨-1, 0⟩], ([⟨#[107]⟩] : List ByteArray)⟩, ⟨b.u4.t, b.u4.p, [], ([⟨#[115]⟩] : List ByteArray)⟩]⟩, ⟨101, b.r3, [⟨b.u5.t, b.u5.p, [], []⟩]⟩, ⟨116, b.r4, [⟨b.u6.t, b.u6.p, [], ([⟨#[116]⟩] : List ByteArray)⟩]⟩]
theorem ex_shape {bl : List Let} (h : bkP bl = exBk) : ∃ b, bl = exBl b := by
 have hl : bl.length = 4 := by have := congrArg List.length h; simpa [bkP, exBk] using this
 obtain ⟨L1, L2, L3, L4, rfl⟩ : ∃ L1 L2 L3 L4, bl = [L1, L2, L3, L4] := by
   match bl, hl with
   | [a, b, c, d], _ => exact ⟨a, b, c, d, rfl⟩
 simp only [bkP, exBk, List.map_cons, List.map_nil, List.cons.injEq, Prod.mk.injEq, and_true] at h
 obtain ⟨⟨c1, h1⟩, ⟨c2, h2⟩, ⟨c3, h3⟩, c4, h4⟩ := h
 obtain ⟨u1, u2, e1⟩ := two_rules h1
 obtain ⟨u3, u4, e2⟩ := two_rules h2
 obtain ⟨u5, e3⟩ := one_rule h3
 obtain ⟨u6, e4⟩ := one_rule h4
 refine ⟨⟨L1.r, L2.r, L3.r, L4.r, u1, u2, u3, u4, u5, u6⟩, ?_⟩
 obtain ⟨c1', r1, l1⟩ := L1
 obtain ⟨c2', r2, l2⟩ := L2
 obtain ⟨c3', r3, l3⟩ := L3
 obtain ⟨c4', r4, l4⟩ := L4
 simp only at c1 c2 c3 c4 e1 e2 e3 e4
 subst c1 c2 c3 c4 e1 e2 e3 e4
 rfl
variable (b : BkS)
theorem ex_sayE : sayE (exBl b) ⟨#[99, 97, 116]⟩ = 0 := by kernel_rfl
theorem ex_sayR : (sayR (exBl b) ⟨#[99, 97, 116]⟩).map (·.phone) = ([⟨#[107]⟩, ⟨#[97]⟩, ⟨#[116]⟩] : List ByteArray) := by kernel_rfl
theorem ex_sayL : (sayR (exBl b) ⟨#[99, 97, 116]⟩).length = 3 := by kernel_rfl
theorem ex_joinE : joinE [(⟨⟨none, 0, 0⟩, s1, s2, s3, [], ([⟨#[97]⟩] : List ByteArray), ([⟨#[122]⟩] : List ByteArray), ([⟨#[97]⟩] : List ByteArray)⟩ : Jnt)] [([⟨#[108]⟩, ⟨#[101]⟩] : List ByteArray), ([⟨#[97]⟩, ⟨#[109]⟩, ⟨#[105]⟩] : List ByteArray)] = 0 := by kernel_rfl
theorem ex_joinR : joinR [(⟨⟨none, 0, 0⟩, s1, s2, s3, [], ([⟨#[97]⟩] : List ByteArray), ([⟨#[122]⟩] : List ByteArray), ([⟨#[97]⟩] : List ByteArray)⟩ : Jnt)] [([⟨#[108]⟩, ⟨#[101]⟩] : List ByteArray), ([⟨#[97]⟩, ⟨#[109]⟩, ⟨#[105]⟩] : List ByteArray)] = [([⟨#[108]⟩, ⟨#[101]⟩, ⟨#[122]⟩] : List ByteArray), ([⟨#[97]⟩, ⟨#[109]⟩, ⟨#[105]⟩] : List ByteArray)] := by kernel_rfl
theorem ex_accE : accentE [(⟨⟨#[114]⟩, s1, [([⟨#[82]⟩] : List ByteArray), ([⟨#[82]⟩, ⟨#[120]⟩] : List ByteArray)]⟩ : Fgn)] ([⟨#[114]⟩, ⟨#[97]⟩, ⟨#[114]⟩] : List ByteArray) 5 = 0 := by kernel_rfl
theorem ex_accR : accentR [(⟨⟨#[114]⟩, s1, [([⟨#[82]⟩] : List ByteArray), ([⟨#[82]⟩, ⟨#[120]⟩] : List ByteArray)]⟩ : Fgn)] ([⟨#[114]⟩, ⟨#[97]⟩, ⟨#[114]⟩] : List ByteArray) 5 = ([⟨#[82]⟩, ⟨#[120]⟩, ⟨#[97]⟩, ⟨#[82]⟩, ⟨#[120]⟩] : List ByteArray) := by kernel_rfl
end Go.Proofs.YtkmbliojafefdaaGreatDoor
