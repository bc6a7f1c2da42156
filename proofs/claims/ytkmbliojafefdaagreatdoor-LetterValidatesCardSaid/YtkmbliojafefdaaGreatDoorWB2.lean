import Derived.Test.YtkmbliojafefdaaGreatDoorWB1

set_option autoImplicit false
set_option linter.unusedSimpArgs false
set_option linter.unusedVariables false
set_option maxRecDepth 100000
namespace Go.Proofs.YtkmbliojafefdaaGreatDoor
open Go.Sx
open Enc (enc val)
def Asc (p : List Pr) : Prop := ∀ i j, i < j → j < p.length → (nth p i).c ≤ (nth p j).c
theorem orL2_neg {x y : Int} (h : orL [x, y] < 0) : x ≤ 0 := by
 unfold orL at h
 split at h
 · omega
 · omega
theorem sgn_neg {x : Int} : sgn x < 0 ↔ x < 0 := by
 unfold sgn; split
 · constructor <;> omega
 · split <;> constructor <;> omega
theorem sgn_le {x : Int} : sgn x ≤ 0 ↔ x ≤ 0 := by
 unfold sgn; split
 · constructor <;> omega
 · split <;> constructor <;> omega
theorem sgn_zero {x : Int} : sgn x = 0 ↔ x = 0 := by
 unfold sgn; split
 · constructor <;> omega
 · split <;> constructor <;> omega
theorem asc_of {p : List Pr} (h : riseB prC p = true) : Asc p := by
 have h1 : ∀ k, 1 ≤ k → k < p.length → (nth p (k - 1)).c ≤ (nth p k).c := fun k h0 hk => by
   have := orL2_neg (riseB_yes.1 h k h0 hk)
   rw [sgn_le] at this; omega
 intro i j hij hj
 induction j with
 | zero => omega
 | succ j ih =>
   have h2 := h1 (j + 1) (by omega) hj
   rw [Nat.add_sub_cancel] at h2
   by_cases h3 : i = j
   · rw [h3]; exact h2
   · exact Int.le_trans (ih (by omega) (by omega)) h2
theorem lowB_le {α : Type} (c : α → Int) (xs : List α) : lowB c xs ≤ xs.length := by
 unfold lowB; exact (List.takeWhile_prefix _).length_le
theorem lowB_lt {α : Type} [Inhabited α] {c : α → Int} : ∀ {xs : List α} {i : Nat}, i < lowB c xs → c (nth xs i) < 0
 | [], i, h => by simp [lowB] at h
 | x :: xs, i, h => by
   unfold lowB at h
   by_cases h1 : c x < 0
   · rw [List.takeWhile_cons_of_pos (by simpa using h1)] at h
     cases i with
     | zero => exact h1
     | succ i => exact lowB_lt (xs := xs) (i := i) (by simpa [lowB] using h)
   · rw [List.takeWhile_cons_of_neg (by simpa using h1)] at h; simp at h
theorem lowB_ge {α : Type} [Inhabited α] {c : α → Int} : ∀ {xs : List α}, lowB c xs < xs.length → ¬ c (nth xs (lowB c xs)) < 0
 | [], h => by simp at h
 | x :: xs, h => by
   by_cases h1 : c x < 0
   · have e : lowB c (x :: xs) = lowB c xs + 1 := by unfold lowB; rw [List.takeWhile_cons_of_pos (by simpa using h1)]; rfl
     rw [e] at h ⊢
     exact lowB_ge (xs := xs) (by simpa using h)
   · have e : lowB c (x :: xs) = 0 := by unfold lowB; rw [List.takeWhile_cons_of_neg (by simpa using h1)]; rfl
     rw [e]; exact h1
def cutF (p : List Pr) (c : Int) : Nat := lowB (fun x => sgn (x.c - c)) p
theorem halves_of {p : List Pr} (h : Asc p) (c : Int) : Halves (fun x : Pr => sgn (x.c - c)) p := fun i j hij hj hc => by
 have := h i j hij hj
 simp only [sgn_neg] at hc ⊢; omega
theorem hold_spec (p : List Pr) (c : Int) : CmpT Tryz.prog 114 #[] (.int .i32 c) (fun x : Pr => sgn (x.c - c)) (fun _ => True) p := by
 intro u hu w _
 refine calls_cw (vs := [_, _]) Tryz.func114 rfl Tryz.ntmps114 rfl (Cl.start0 w) (zr ?_)
 refine sw_x rfl rfl rfl (e_box rfl rfl rfl) (fun b2 => ?_)
 refine za rfl (nP (zr (zS rfl (q_fieldAddr rfl rfl) ?_)))
 refine zS rfl (q_loadC rfl rfl (by exact .head _) rfl) ?_
 refine zm rfl (sw_step rfl rfl rfl (q_call (CanCall.mk Tryz.call75) rfl (.k rfl (.k rfl (.nil))) (fun _ w hw => callq hw (compareR_spec _ _ w))) (za rfl (nP (cw_ret (post_ret1 rfl (resOk_tmp rfl) ?_)))))
 exact fun w' hw => ⟨rfl, (Cl.sel (by exact .nil _)) _ hw⟩
def cutT (p : List Pr) (c : Int) : Nat := cutF p c + lowB (fun x : Pr => if x.c = c then -1 else 0) (p.drop (cutF p c))
theorem cut_le (p : List Pr) (c : Int) : cutF p c ≤ cutT p c ∧ cutT p c ≤ p.length := by
 unfold cutT
 have h1 : cutF p c ≤ p.length := lowB_le _ _
 have h2 := lowB_le (fun x : Pr => if x.c = c then (-1 : Int) else 0) (p.drop (cutF p c))
 rw [List.length_drop] at h2
 omega
theorem nth_drop {α : Type} [Inhabited α] (l : List α) (k i : Nat) : nth (l.drop k) i = nth l (k + i) := by
 simp [nth, List.getD, List.getElem?_drop]
theorem cutT_at {p : List Pr} {c : Int} {tt : Nat} (h1 : cutF p c ≤ tt) (h2 : tt ≤ p.length) (h3 : ∀ i, cutF p c ≤ i → i < tt → (nth p i).c = c) (h4 : tt < p.length → (nth p tt).c ≠ c) : cutT p c = tt := by
 unfold cutT
 rw [lowB_at (k := tt - cutF p c) (by rw [List.length_drop]; omega)]
 · omega
 · intro i hi
   rw [nth_drop]
   simp [h3 (cutF p c + i) (by omega) (by omega)]
 · intro hk
   rw [List.length_drop] at hk
   rw [nth_drop, show cutF p c + (tt - cutF p c) = tt by omega, if_neg (h4 (by omega))]
   simp
theorem offers_is {p : List Pr} (h : Asc p) (c : Int) : offers p c = (p.take (cutT p c)).drop (cutF p c) := by
 have hb := cut_le p c
 refine offers_cut hb.1 hb.2 (fun i hi => ?_) (fun i h1 h2 => ?_) (fun i h1 h2 => ?_)
 · have := lowB_lt hi
   rw [sgn_neg] at this; omega
 · have h3 : i - cutF p c < lowB (fun x : Pr => if x.c = c then (-1 : Int) else 0) (p.drop (cutF p c)) := by unfold cutT at h2; omega
   have := lowB_lt h3
   rw [nth_drop, show cutF p c + (i - cutF p c) = i by omega] at this
   by_cases h4 : (nth p i).c = c
   · exact h4
   · simp [h4] at this
 · have h3 : (nth p (cutT p c)).c ≠ c := by
     have h5 : lowB (fun x : Pr => if x.c = c then (-1 : Int) else 0) (p.drop (cutF p c)) < (p.drop (cutF p c)).length := by
       rw [List.length_drop]; have : cutT p c = _ := rfl; unfold cutT at this h1; omega
     have := lowB_ge h5
     rw [nth_drop] at this
     intro h6
     apply this
     rw [if_pos (by exact h6)]; decide
   have h4 : ¬ (nth p (cutT p c)).c < c := by
     have h6 : ¬ (nth p (cutF p c)).c < c := by
       have h5 : cutF p c < p.length := by omega
       have := lowB_ge (c := fun x : Pr => sgn (x.c - c)) h5
       rw [sgn_neg] at this
       intro h7; apply this
       show (nth p (cutF p c)).c - c < 0
       omega
     by_cases h7 : cutF p c = cutT p c
     · rw [← h7]; exact h6
     · have := h (cutF p c) (cutT p c) (by omega) (by omega)
       omega
   by_cases h5 : cutT p c = i
   · rw [← h5]; exact h3
   · have := h (cutT p c) i (by omega) h2
     omega
theorem blk_stb {b : Nat} {cells : List Value} {t : TypeId} {w : World} (h : BlkAt b cells t w) : Stb w [] (BlkAt b cells t) := by
 obtain ⟨bs, h1, h2⟩ := h
 subst h1
 exact ⟨fun w' k => ⟨[b], rfl, by rw [k.block b (Array.getElem?_eq_some_iff.1 h2).1 (by simp)]; exact h2⟩⟩
theorem of_spec (b : Nat) (sp : SlV) (p : List Pr) (c : Int) (hp : Asc p) (w : World) (hb : Stb w [] (BlkAt b [sp.v] 22)) (hs : Stb w [] (RdL sp.v p)) : Calls Tryz.prog 112 #[.int .i32 c, .pointer (some ⟨b, 0, none⟩)] w fun e w' => e = .returned (sp.sub 3 (cutF p c) (cutT p c)).v ∧ Cl w [] [] w' := by
 have hL := rd_len hs.here
 have hcl := cut_le p c
 refine calls_cw (vs := [_, _]) Tryz.func112 rfl Tryz.ntmps112 rfl (Cl.start0 w) (zr (za rfl (nP (cw_seq (cw_region ?_)))))
 refine zS rfl (q_loadS rfl rfl (fun w hw => Stb.cl (by assumption) hw) rfl) ?_
 refine zm rfl ?_
 refine sw_step rfl rfl rfl (q_call (CanCall.mk Tryz.call113) rfl (.k rfl (.k rfl (.k rfl (.nil)))) (fun _ w hw => callq hw (searchPr_spec _ p c _ _ (fun x : Pr => sgn (x.c - c)) _ w (by exact stb_arg hw (by assumption)) (stb_true w []) (CanCall.mk Tryz.call114) (hold_spec p c) (halves_of hp c)))) ?_
 refine zm rfl (zS rfl (q_extract rfl rfl rfl) (zS rfl (q_extract rfl rfl rfl) (za rfl (za rfl (nP (zr (zm rfl (za rfl (sw_nil (post_then (cw_seq (cw_block ?_))))))))))))
 refine cw_loop (S := Nat) (fun k => [(0, [], .int .i32 c), (1, [], .pointer (some ⟨b, 0, none⟩)), (4, [], .int .i64 (cutF p c)), (6, [], .int .i64 k)]) (fun _ => Cl w [] []) (fun k => cutF p c ≤ k ∧ k ≤ p.length ∧ ∀ i, cutF p c ≤ i → i < k → (nth p i).c = c) (fun k => p.length - k) (cutF p c) ⟨by omega, by omega, fun i h1 h2 => by omega⟩ (by exact .cons rfl (.cons rfl (.cons rfl (.cons rfl .nil)))) (fun _ h => h) ?_
 rintro k ⟨hk, hk2, hbe⟩
 refine cw_seq (zr (zm rfl ?_))
 refine zS rfl (q_loadS rfl rfl (fun w hw => Stb.cl (by assumption) hw) rfl) ?_
 refine zS rfl (q_len rfl (.k rfl (.nil)) (stA (by assumption))) ?_
 refine zS rfl (q_lss rfl rfl rfl) (zm rfl ?_)
 refine zS rfl (q_loadS rfl rfl (fun w hw => Stb.cl (by assumption) hw) rfl) ?_
 refine zm rfl ?_
 refine zS rfl (q_indexN rfl rfl rfl (stA (by assumption)) (by intro hc; (simp only [AllT.iff, List.all_cons, List.all_nil, id, Bool.and_eq_true, Bool.not_eq_true', decide_eq_true_eq, decide_eq_false_iff_not, and_true] at hc; omega))) ?_
 refine zS rfl (q_fieldEl rfl rfl (stA (by assumption)) (by intro hc; (simp only [AllT.iff, List.all_cons, List.all_nil, id, Bool.and_eq_true, Bool.not_eq_true', decide_eq_true_eq, decide_eq_false_iff_not, and_true] at hc; omega))) ?_
 refine zS rfl (q_loadF rfl rfl rfl (stA (by assumption)) (by intro hc; (simp only [AllT.iff, List.all_cons, List.all_nil, id, Bool.and_eq_true, Bool.not_eq_true', decide_eq_true_eq, decide_eq_false_iff_not, and_true] at hc; omega)) rfl) ?_
 refine zm rfl (zS rfl (q_eql rfl rfl rfl) (zS rfl (q_and2 rfl rfl rfl) (nP ?_)))
 refine cw_cond rfl (fun h => ?_) (fun h => ?_)
 · have hk' : k < p.length ∧ (nth p k).c = c := by simp at h; exact ⟨by omega, h.2⟩
   refine sP (cw_block (cw_region (zm rfl ?_)))
   refine zS rfl (q_add rfl rfl rfl (by intro hc; omega)) ?_
   refine za rfl (sw_nil (post_blk ?_))
   refine post_next (k + 1) (by exact .cons rfl (.cons rfl (.cons rfl (.cons rfl .nil)))) (fun _ h => h) ⟨by omega, by omega, fun i h1 h2 => ?_⟩ (by omega)
   by_cases hik : i = k
   · rw [hik]; exact hk'.2
   · exact hbe i h1 (by omega)
 · have e : cutT p c = k := cutT_at hk hk2 hbe fun h1 h2 => by simp at h; exact h (by omega) h2
   rw [← e] at hk hk2
   rw [← e]
   refine cw_exit (post_then_x (post_then_x (post_blk_eq (post_then (zr ?_)))))
   refine zS rfl (q_loadS rfl rfl (fun w hw => Stb.cl (by assumption) hw) rfl) ?_
   refine zm rfl (zm rfl ?_)
   refine zS rfl (q_slice2 rfl rfl rfl rfl (stA (by assumption)) (by intro hc; omega)) ?_
   refine za rfl (nP (cw_ret (post_ret1 rfl (resOk_tmp rfl) ?_)))
   exact fun w' hw => ⟨rfl, hw⟩
end Go.Proofs.YtkmbliojafefdaaGreatDoor

set_option autoImplicit false
set_option maxRecDepth 100000
namespace Go.Proofs.YtkmbliojafefdaaGreatDoor
open Go.Sx
open Enc (enc val)
def rowsTo (sc : SlV) (W T k : Nat) : List SlV := (List.range T).map fun j => if j < k then sc.row 1 (j * W) ((j + 1) * W) else ⟨none, 0, 0⟩
theorem rowsTo_len (sc : SlV) (W T k : Nat) : (rowsTo sc W T k).length = T := by simp [rowsTo]
theorem rowsTo_nth (sc : SlV) (W T k j : Nat) (hj : j < T) : nth (rowsTo sc W T k) j = if j < k then sc.row 1 (j * W) ((j + 1) * W) else ⟨none, 0, 0⟩ := by
 rw [nth_get (by rw [rowsTo_len]; exact hj)]; simp [rowsTo]
theorem rowsTo_succ (sc : SlV) (W T k : Nat) (hk : k < T) : (rowsTo sc W T k).set k (sc.row 1 (k * W) ((k + 1) * W)) = rowsTo sc W T (k + 1) := by
 apply List.ext_getElem (by simp [rowsTo])
 intro i h1 h2
 rw [List.getElem_set]
 have hi : i < T := by simpa [rowsTo] using h2
 split
 · rename_i e; subst e; simp [rowsTo]
 · rename_i e
   simp only [rowsTo, List.getElem_map, List.getElem_range]
   by_cases h3 : i < k
   · rw [if_pos h3, if_pos (by omega)]
   · rw [if_neg h3, if_neg (by omega)]
theorem rowsTo_zero (sc : SlV) (W T : Nat) : List.replicate T (⟨none, 0, 0⟩ : SlV) = rowsTo sc W T 0 := by
 apply List.ext_getElem (by simp [rowsTo])
 intro i h1 h2
 simp [rowsTo]
theorem rowsAll_nth (sc : SlV) (W T j : Nat) (hj : j < T) : nth (rowsTo sc W T T) j = sc.row 1 (j * W) ((j + 1) * W) := by rw [rowsTo_nth _ _ _ _ _ hj, if_pos hj]
theorem prod_bd {i T W : Nat} (hi : i < T) (hT : T ≤ 100) (hW : W ≤ 1000) : i * W + W ≤ T * W ∧ (i + 1) * W = i * W + W ∧ T * W ≤ 100000 ∧ i * W ≤ 100000 := by
 have h1 : (i + 1) * W ≤ T * W := Nat.mul_le_mul_right _ hi
 have h2 : T * W ≤ 100 * 1000 := Nat.mul_le_mul hT hW
 rw [Nat.succ_mul] at h1
 exact ⟨h1, Nat.succ_mul _ _, h2, by omega⟩
theorem pre_at {x l : List ByteArray} {j : Nat} (hj : j ≤ l.length) : pre x (l.drop j) = (decide (j + x.length ≤ l.length) && decide ((l.take (j + x.length)).drop j = x)) := by
 unfold pre
 rw [List.length_drop, List.take_drop]
 congr 1
 rw [Bool.eq_iff_iff]; simp; omega
theorem try_spec (b5 b13 : Nat) (sl so sc : SlV) (l : List ByteArray) (n W : Nat) (cells : List Int) (i j : Nat) (x : Pr) (rest : List ByteArray → Int) (hW : W = l.length + 1) (hn : n ≤ 90) (hl1 : l.length ≤ 900) (hi : i < n) (hj : j ≤ l.length) (hx : 0 ≤ x.cost ∧ x.cost ≤ 1000) (hxl : x.pl.length ≤ 1000)
   (hcl : cells.length = (n + 1) * W) (hg : ∀ k, k ≤ l.length → nth cells ((i + 1) * W + k) = rest (l.drop k)) (hrb : ∀ l, -1 ≤ rest l ∧ rest l ≤ 1000000) (w : World) (h5 : Stb w [] (BlkAt b5 [sl.v] 23)) (h13 : Stb w [] (BlkAt b13 [so.v] 115)) (hl : Stb w [] (RdL sl.v l)) (hr : Stb w [] (RdL so.v (rowsTo sc W (n + 1) (n + 1)))) (hc : Stb w [] (RdL sc.v cells)) (hxs : Stb w [] (RdL x.p.v x.pl)) :
   Calls Tryz.prog 111 #[.int .i64 i, .int .i64 j, val x, .pointer (some ⟨b5, 0, none⟩), .pointer (some ⟨b13, 0, none⟩)] w fun e w' => e = .returned (.int .i64 (tryC rest (l.drop j) x)) ∧ Cl w [] [] w' := by
 have hrl := rowsTo_len sc W (n + 1) (n + 1)
 have hrow : nth (rowsTo sc W (n + 1) (n + 1)) ((i : Int) + 1).toNat = sc.row 1 ((i + 1) * W) ((i + 1 + 1) * W) := rowsAll_nth sc W (n + 1) (i + 1) (by omega)
 obtain ⟨q1, q2, q3, q4⟩ := prod_bd (i := i + 1) (T := n + 1) (W := W) (by omega) (by omega) (by omega)
 have hcell : nth cells ((i + 1) * W + ((j : Int) + (x.pl.length : Int)).toNat) = nth cells ((i + 1) * W + (j + x.pl.length)) := rfl
 refine calls_cw (vs := [_, _, _, _, _]) Tryz.func111 rfl Tryz.ntmps111 rfl (Cl.start0 w) (zr ?_)
 refine sw_x rfl rfl rfl (e_box rfl rfl rfl) (fun b7 => ?_)
 refine za rfl (nP (zr (zm rfl (zS rfl (q_fieldAddr rfl rfl) ?_))))
 refine zS rfl (q_loadC rfl rfl (by exact .head _) rfl) ?_
 refine zS rfl (q_len rfl (.k rfl (.nil)) (stA (by assumption))) ?_
 refine zS rfl (q_add rfl rfl rfl (by intro hc; omega)) ?_
 refine za rfl (nP (cw_seq (cw_seq ?_)))
 refine cw_region_q mixed_Tryz (by kernel_rfl) ?_
 refine zw rfl ?_
 refine zq rfl (q_loadS rfl rfl (fun w hw => Stb.cl (by assumption) hw) rfl) ?_
 refine zq rfl (q_len rfl (.k rfl (.nil)) (stA (by assumption))) ?_
 refine zq rfl (q_gtr rfl rfl rfl) (zw rfl ?_)
 refine zq rfl (q_loadS rfl rfl (fun w hw => Stb.cl (by assumption) hw) rfl) ?_
 refine zw rfl ?_
 refine zq rfl (q_add rfl rfl rfl (by intro hc; omega)) ?_
 refine zq rfl (q_index rfl rfl rfl (stA (by assumption)) (by intro hc; omega)) ?_
 refine zq rfl (q_loadElY hrow rfl rfl rfl (stA (by assumption)) (by intro hc; omega)) ?_
 refine zw rfl ?_
 refine zq rfl (q_indexRow rfl rfl rfl (fun w' h => Stb.cl hc h) rfl (by intro hc; (simp only [AllT.iff, List.all_cons, List.all_nil, id, Bool.and_eq_true, Bool.not_eq_true', decide_eq_true_eq, decide_eq_false_iff_not, and_true] at hc; omega))) ?_
 refine zq rfl (q_loadElY hcell rfl rfl rfl (fun w' h => Stb.cl hc h) (by intro hc; (simp only [AllT.iff, List.all_cons, List.all_nil, id, Bool.and_eq_true, Bool.not_eq_true', decide_eq_true_eq, decide_eq_false_iff_not, and_true] at hc; omega))) ?_
 refine zq rfl (q_lss rfl rfl rfl) (zq rfl (q_or2 rfl rfl rfl) (zw rfl ?_))
 refine zq rfl (q_loadS rfl rfl (fun w hw => Stb.cl (by assumption) hw) rfl) ?_
 refine zw rfl (zw rfl ?_)
 refine zq rfl (q_slice2 rfl rfl rfl rfl (stA (by assumption)) (fun hcc => by simp [AllT] at hcc; omega)) ?_
 refine zq rfl (q_fieldAddr rfl rfl) ?_
 refine zq rfl (q_loadC rfl rfl (by exact .head _) rfl) ?_
 refine qw_step rfl rfl rfl (q_call (CanCall.mk Tryz.call100) rfl (.k rfl (.k rfl (.nil))) (fun hcc w1 hw => callq hw (equalL_spec _ _ ((l.take (j + x.pl.length)).drop j) x.pl w1 (stb_arg hw (stb_sub hl (by omega) (by simp [AllT] at hcc; omega))) (stb_arg hw hxs)))) ?_
 refine zq rfl (q_not rfl rfl) (zq rfl (q_or2 rfl rfl rfl) (qw_end (post_then ?_)))
 refine cw_cond rfl (fun h => ?_) (fun h => ?_)
 · have e : tryC rest (l.drop j) x = -1 := by
     unfold tryC
     rw [if_neg]
     rintro ⟨h1, h2⟩
     rw [pre_at hj] at h1
     simp only [Bool.and_eq_true, decide_eq_true_eq] at h1
     rw [List.drop_drop] at h2
     rw [hg _ h1.1] at h
     simp [h1.2] at h
     omega
   refine zr (za rfl (nP (cw_ret (post_then_r (post_ret1 rfl (resOk_tmp rfl) ?_)))))
   exact fun w' hw => ⟨by rw [e], (Cl.sel (by exact .nil _)) _ hw⟩
 · simp only [Bool.or_eq_false_iff, decide_eq_false_iff_not, Bool.not_eq_false', decide_eq_true_eq] at h
   obtain ⟨⟨g1, g2⟩, g3⟩ := h
   have g4 : j + x.pl.length ≤ l.length := by omega
   have g5 := hg _ g4
   have g6 := hrb (l.drop (j + x.pl.length))
   have e : tryC rest (l.drop j) x = x.cost + nth cells ((i + 1) * W + (j + x.pl.length)) := by
     unfold tryC
     rw [List.drop_drop, if_pos ⟨by rw [pre_at hj]; simp [g3, g4], by rw [← g5]; omega⟩, g5]
   rw [e]
   refine sP (cw_seq ?_)
   refine cw_region_q mixed_Tryz (by kernel_rfl) ?_
   refine zq rfl (q_fieldAddr rfl rfl) ?_
   refine zq rfl (q_loadC rfl rfl (by exact .head _) rfl) ?_
   refine zq rfl (q_loadS rfl rfl (fun w hw => Stb.cl (by assumption) hw) rfl) ?_
   refine zw rfl ?_
   refine zq rfl (q_add rfl rfl rfl (by intro hc; omega)) ?_
   refine zq rfl (q_index rfl rfl rfl (stA (by assumption)) (by intro hc; omega)) ?_
   refine zq rfl (q_loadElY hrow rfl rfl rfl (stA (by assumption)) (by intro hc; omega)) ?_
   refine zw rfl ?_
   refine zq rfl (q_indexRow rfl rfl rfl (fun w' h => Stb.cl hc h) rfl (by intro hc; omega)) ?_
   refine zq rfl (q_loadElY hcell rfl rfl rfl (fun w' h => Stb.cl hc h) (by intro hc; omega)) ?_
   refine zq rfl (q_add rfl rfl rfl (by intro hc; omega)) ?_
   refine zq rfl (q_assign rfl rfl) (qw_end (post_then (cw_ret (post_ret1 rfl (resOk_tmp rfl) ?_))))
   exact fun w' hw => ⟨rfl, (Cl.sel (by exact .nil _)) _ hw⟩
end Go.Proofs.YtkmbliojafefdaaGreatDoor

set_option autoImplicit false
set_option maxRecDepth 100000
namespace Go.Proofs.YtkmbliojafefdaaGreatDoor
open Go.Sx
open Enc (enc val)
def neg (m T : Nat) : List Int := List.replicate m (-1) ++ List.replicate (T - m) 0
theorem neg_len {m T : Nat} (h : m ≤ T) : (neg m T).length = T := by simp [neg]; omega
theorem neg_zero (T : Nat) : List.replicate T (0 : Int) = neg 0 T := by simp [neg]
theorem neg_set {m T : Nat} (h : m < T) : (neg m T).set m (-1) = neg (m + 1) T := by
 unfold neg
 rw [List.set_append_right _ _ (by simp), List.length_replicate, Nat.sub_self, show T - m = (T - (m + 1)) + 1 by omega, List.replicate_succ, List.set_cons_zero, List.replicate_succ']
 simp
theorem neg_nth {k T : Nat} (h : k < T) : nth (neg T T) k = -1 := by
 unfold neg
 rw [Nat.sub_self, List.replicate_zero, List.append_nil, nth_get (by simpa using h), List.getElem_replicate]
theorem nth_setP {α : Type} [Inhabited α] (l : List α) (a : Nat) (x : α) (b : Nat) (ha : a < l.length) : nth (l.set a x) b = if b = a then x else nth l b := by
 simp only [nth, List.getD, List.getElem?_set]
 by_cases h : a = b
 · subst h; simp [ha]
 · rw [if_neg h, if_neg (fun e => h e.symm)]
theorem idx_inj {W i k i' k' : Nat} (hk : k < W) (hk' : k' < W) (h : i * W + k = i' * W + k') : i = i' ∧ k = k' := by
 have key : ∀ {a b : Nat}, a < b → a * W + W ≤ b * W := fun {a b} hab => by
   have := Nat.mul_le_mul_right W hab
   rwa [Nat.succ_mul] at this
 rcases Nat.lt_trichotomy i i' with h1 | h1 | h1
 · have := key h1; omega
 · subst h1; exact ⟨rfl, by omega⟩
 · have := key h1; omega
def TabA (p : List Pr) (ws : List Rn) (l : List ByteArray) (cells : List Int) (N j : Nat) (v : Int) : Prop :=
 cells.length = (ws.length + 1) * (l.length + 1) ∧ ∀ i k, i ≤ ws.length → k ≤ l.length → nth cells (i * (l.length + 1) + k) = if N ≤ i ∨ (i + 1 = N ∧ k < j) then leastC p (ws.drop i) (l.drop k) else if i + 1 = N ∧ k = j then v else -1
variable {p : List Pr} {ws : List Rn} {l : List ByteArray} {cells : List Int}
theorem cell_lt {i k : Nat} (hi : i ≤ ws.length) (hk : k ≤ l.length) : i * (l.length + 1) + k < (ws.length + 1) * (l.length + 1) := by
 have := Nat.mul_le_mul_right (l.length + 1) (show i + 1 ≤ ws.length + 1 by omega)
 rw [Nat.succ_mul] at this; omega
theorem tab_init (p : List Pr) (ws : List Rn) (l : List ByteArray) : TabA p ws l ((neg ((ws.length + 1) * (l.length + 1)) ((ws.length + 1) * (l.length + 1))).set (ws.length * (l.length + 1) + l.length) 0) ws.length 0 (-1) := by
 have hl := neg_len (Nat.le_refl ((ws.length + 1) * (l.length + 1)))
 refine ⟨by rw [List.length_set, hl], fun i k hi hk => ?_⟩
 have h1 := cell_lt (ws := ws) (l := l) hi hk
 have h2 := cell_lt (ws := ws) (l := l) (Nat.le_refl ws.length) (Nat.le_refl l.length)
 rw [nth_setP _ _ _ _ (by rw [hl]; exact h2)]
 by_cases h3 : i * (l.length + 1) + k = ws.length * (l.length + 1) + l.length
 · obtain ⟨rfl, rfl⟩ := idx_inj (by omega) (by omega) h3
   rw [if_pos rfl, if_pos (.inl (Nat.le_refl _)), List.drop_length, List.drop_length]
   rfl
 · rw [if_neg h3, neg_nth h1]
   by_cases h4 : ws.length ≤ i
   · obtain rfl : i = ws.length := by omega
     rw [if_pos (.inl (Nat.le_refl _)), List.drop_length]
     unfold leastC
     rw [if_neg]
     intro h5
     have := congrArg List.length h5
     rw [List.length_drop] at this
     simp at this
     apply h3
     omega
   · rw [if_neg (by omega)]
     split <;> rfl
theorem tab_set {i j : Nat} {v v' : Int} (h : TabA p ws l cells (i + 1) j v) (hi : i < ws.length) (hj : j ≤ l.length) : TabA p ws l (cells.set (i * (l.length + 1) + j) v') (i + 1) j v' := by
 obtain ⟨h1, h2⟩ := h
 refine ⟨by rw [List.length_set, h1], fun i' k hi' hk => ?_⟩
 have h4 := cell_lt (ws := ws) (l := l) (Nat.le_of_lt hi) hj
 rw [nth_setP _ _ _ _ (by rw [h1]; exact h4), h2 i' k hi' hk]
 by_cases h3 : i' * (l.length + 1) + k = i * (l.length + 1) + j
 · obtain ⟨rfl, rfl⟩ := idx_inj (by omega) (by omega) h3
   rw [if_pos rfl, if_neg (by omega), if_pos ⟨rfl, rfl⟩]
 · have h5 : ¬ (i' + 1 = i + 1 ∧ k = j) := by
     rintro ⟨h5, rfl⟩
     obtain rfl : i' = i := by omega
     exact h3 rfl
   rw [if_neg h3, if_neg h5, if_neg h5]
theorem tab_at {i j : Nat} {v : Int} (h : TabA p ws l cells (i + 1) j v) (hi : i < ws.length) (hj : j ≤ l.length) : nth cells (i * (l.length + 1) + j) = v := by
 rw [h.2 i j (by omega) hj, if_neg (by omega), if_pos ⟨rfl, rfl⟩]
theorem tab_below {i j k : Nat} {v : Int} (h : TabA p ws l cells (i + 1) j v) (hi : i < ws.length) (hk : k ≤ l.length) : nth cells ((i + 1) * (l.length + 1) + k) = leastC p (ws.drop (i + 1)) (l.drop k) := by
 rw [h.2 (i + 1) k (by omega) hk, if_pos (.inl (by omega))]
theorem tab_next {i j : Nat} {v : Int} (h : TabA p ws l cells (i + 1) j v) (hv : v = leastC p (ws.drop i) (l.drop j)) : TabA p ws l cells (i + 1) (j + 1) (-1) := by
 refine ⟨h.1, fun i' k hi' hk => ?_⟩
 rw [h.2 i' k hi' hk]
 by_cases h1 : i + 1 ≤ i' ∨ (i' + 1 = i + 1 ∧ k < j)
 · rw [if_pos h1, if_pos (by omega)]
 · rw [if_neg h1]
   by_cases h2 : i' + 1 = i + 1 ∧ k = j
   · rw [if_pos h2, if_pos (by omega), hv]
     obtain ⟨h3, rfl⟩ := h2
     obtain rfl : i' = i := by omega
     rfl
   · rw [if_neg h2, if_neg (by omega)]
     split <;> rfl
theorem tab_row {i j : Nat} {v : Int} (h : TabA p ws l cells (i + 1) j v) (hj : j = l.length + 1) : TabA p ws l cells i 0 (-1) := by
 refine ⟨h.1, fun i' k hi' hk => ?_⟩
 rw [h.2 i' k hi' hk]
 by_cases h1 : i ≤ i'
 · rw [if_pos (by omega), if_pos (by omega)]
 · rw [if_neg (by omega), if_neg (by omega), if_neg (by omega)]
   split <;> rfl
theorem tab_all {i k : Nat} (h : TabA p ws l cells 0 0 (-1)) (hi : i ≤ ws.length) (hk : k ≤ l.length) : nth cells (i * (l.length + 1) + k) = leastC p (ws.drop i) (l.drop k) := by
 rw [h.2 i k hi hk, if_pos (.inl (Nat.zero_le _))]
theorem drop_at {i : Nat} (hi : i < ws.length) : ws.drop i = nth ws i :: ws.drop (i + 1) := by rw [List.drop_eq_getElem_cons hi, nth_get hi]
theorem least_at {i : Nat} (hi : i < ws.length) (l' : List ByteArray) : leastC p (ws.drop i) l' = (offers p (nth ws i).v).foldl (stepC (tryC (leastC p (ws.drop (i + 1))) l')) (-1) := by rw [drop_at hi]; rfl
def alOk (p : List Pr) (s : ByteArray) (l : List ByteArray) : Bool := decide (0 ≤ leastC p (runes s) l)
def alP (p : List Pr) (s : ByteArray) (l : List ByteArray) : List (List ByteArray) := if alOk p s l then pathC p (runes s) l else []
def alN (p : List Pr) (s : ByteArray) (l : List ByteArray) : Int := if alOk p s l then leastC p (runes s) l else 0
def RdRR {α : Type} [Enc α] (sv : Value) (ll : List (List α)) (w : World) : Prop := ∃ vs : List SlV, RdL sv vs w ∧ RdR vs ll w
theorem rdR_snoc {α : Type} [Enc α] {vs : List SlV} {ll : List (List α)} {w : World} (h : RdR vs ll w) {s : SlV} {x : List α} (hs : RdL s.v x w) : RdR (vs ++ [s]) (ll ++ [x]) w := by
 refine ⟨by simp [h.1], fun i hi => ?_⟩
 rw [List.length_append, List.length_cons, List.length_nil] at hi
 have hl := h.1
 by_cases h1 : i < ll.length
 · have := h.2 i h1
   rwa [nth_get (by simp; omega), nth_get (by simp; omega), List.getElem_append_left (by omega), List.getElem_append_left h1, ← nth_get, ← nth_get]
 · obtain rfl : i = ll.length := by omega
   rw [nth_get (by simp; omega), nth_get (by simp)]
   simp [← hl]
   exact hs
def SpotOk (s : SlV) : Prop := ∀ a, s.addr = some a → a.spot = none
theorem spot_own {α : Type} [Enc α] {e : TypeId} {s : SlV} {l : List α} {w : World} {bs : List Nat} (h : (ownL e s.v l).holds w bs) : SpotOk s := by
 obtain ⟨a, n, c⟩ := s
 rcases h with ⟨h1, _⟩ | ⟨b, n', c', cur, h1, _⟩
 · simp only [SlV.v, Value.slice.injEq] at h1
   intro x hx; simp only at hx; rw [h1.1] at hx; cases hx
 · simp only [SlV.v, Value.slice.injEq] at h1
   intro x hx; simp only at hx; rw [h1.1] at hx; cases hx; rfl
def RdRS {α : Type} [Enc α] (vs : List SlV) (ll : List (List α)) (w : World) : Prop := RdR vs ll w ∧ ∀ s ∈ vs, SpotOk s
def RdRQ {α : Type} [Enc α] (sv : Value) (ll : List (List α)) (w : World) : Prop := ∃ vs : List SlV, RdL sv vs w ∧ RdRS vs ll w
theorem rdrq_rr {α : Type} [Enc α] {sv : Value} {ll : List (List α)} {w : World} (h : RdRQ sv ll w) : RdRR sv ll w := by
 obtain ⟨vs, h1, h2, h4⟩ := h
 exact ⟨vs, h1, h2⟩
theorem rdRS_snoc {α : Type} [Enc α] {vs : List SlV} {ll : List (List α)} {w : World} (h : RdRS vs ll w) {s : SlV} {x : List α} (hs : RdL s.v x w) (hp : SpotOk s) : RdRS (vs ++ [s]) (ll ++ [x]) w :=
 ⟨rdR_snoc h.1 hs, fun s' h' => by rcases List.mem_append.1 h' with h' | h'
                                   · exact h.2 _ h'
                                   · simp at h'; subst h'; exact hp⟩
end Go.Proofs.YtkmbliojafefdaaGreatDoor

set_option autoImplicit false
set_option maxRecDepth 100000
namespace Go.Proofs.YtkmbliojafefdaaGreatDoor
open Go.Sx
open Enc (enc val)
theorem letters_spec2 (s : ByteArray) (ws : List Rn) (h : runes s = ws) (w : World) (hs : s.size ≤ 1000000) : Calls Tryz.prog 110 #[.string s] w fun e w' => ∃ r : SlV, e = .returned r.v ∧ True ∧ Cl w [] [ownL 21 r.v ws] w' := by
 subst h; exact letters_spec s w hs
theorem find_at {α : Type} [Inhabited α] {p : α → Bool} {l : List α} {k : Nat} (hk : k < l.length) (h : ∀ j, j < k → p (nth l j) = false) (hp : p (nth l k) = true) : l.find? p = some (nth l k) := by
 rw [List.find?_eq_some_iff_getElem]
 refine ⟨hp, k, hk, (nth_get hk).symm, fun j hj => ?_⟩
 have := h j hj
 rw [nth_get (by omega)] at this
 simp [this]
theorem aligned_spec2 (sp sl : SlV) (p : List Pr) (s : ByteArray) (l : List ByteArray) (hs : (runes s).length ≤ 80) (hs1 : s.size ≤ 1000000) (hl1 : l.length ≤ 800) (ha : Asc p) (hcost : CostOk p) (hpl : ∀ x ∈ p, x.pl.length ≤ 1000) (w : World) (hp : Stb w [] (RdL sp.v p)) (hpi : Stb w [] fun w' => ∀ u ∈ p, PrIn u w') (hl : Stb w [] (RdL sl.v l)) :
   Calls Tryz.prog 64 #[sp.v, .string s, sl.v] w fun e w' => ∃ r : SlV × List SlV, e = .returned (.tuple #[r.1.v, .int .i64 (alN p s l), .bool (alOk p s l)]) ∧ True ∧ Cl w [] [frz fun w => RdL r.1.v r.2 w ∧ RdRS r.2 (alP p s l) w] w' := by
 have hLp := rd_len hp.here
 obtain ⟨ws, hws⟩ : ∃ ws, runes s = ws := ⟨_, rfl⟩
 rw [hws] at hs
 obtain ⟨T, hT⟩ : ∃ T, (ws.length + 1) * (l.length + 1) = T := ⟨_, rfl⟩
 have hTb : T ≤ 100000 := by
   rw [← hT]
   exact Nat.le_trans (Nat.mul_le_mul (show ws.length + 1 ≤ 100 by omega) (show l.length + 1 ≤ 1000 by omega)) (by decide)
 have hTi : ((ws.length : Int) + 1) * ((l.length : Int) + 1) = (T : Int) := by rw [← hT]; push_cast; rfl
 refine calls_cw (vs := [_, _, _]) Tryz.func64 rfl Tryz.ntmps64 rfl (Cl.start0 w) (zr ?_)
 refine sw_x rfl rfl rfl (e_box rfl rfl rfl) (fun b3 => ?_)
 refine sw_x rfl rfl rfl (e_box rfl rfl rfl) (fun b5 => ?_)
 refine za rfl (za rfl (za rfl (nP (zr (zm rfl ?_)))))
 refine sw_x rfl rfl rfl (e_call (CanCall.mk Tryz.call110) rfl (.k rfl (.nil)) (fun w hw => letters_spec2 _ _ hws w (by omega))) (fun x29 => ?_)
 refine sw_imp (fun hx29 => ?_)
 refine za rfl (nP (cw_seq ?_))
 refine cw_region_q mixed_Tryz (by kernel_rfl) ?_
 refine zw rfl ?_
 refine zq rfl (q_len rfl (.k rfl (.nil)) (rdO (by exact .head _))) ?_
 refine zq rfl (q_loadC rfl rfl (by exact .tail _ (.head _)) rfl) ?_
 refine zq rfl (q_len rfl (.k rfl (.nil)) (stA (by assumption))) ?_
 refine zq rfl (q_add rfl rfl rfl (by intro hc; omega)) ?_
 refine zq rfl (q_assign rfl rfl) (zq rfl (q_assign rfl rfl) (qw_end (post_then (zr (zm rfl ?_)))))
 refine zS rfl (q_add rfl rfl rfl (by intro hc; omega)) ?_
 refine zm rfl ?_
 refine zS rfl (q_mul rfl rfl rfl (by intro hc; omega)) ?_
 rw [hTi]
 refine sw_x rfl rfl rfl (e_make (α := Int) (zero := 0) rfl rfl rfl rfl rfl (by omega) (by omega) (by decide)) (fun s39 => ?_)
 refine za rfl (nP (zr (zm rfl ?_)))
 refine zS rfl (q_add rfl rfl rfl (by intro hc; omega)) ?_
 refine sw_x rfl rfl rfl (e_make (α := SlV) (zero := ⟨none, 0, 0⟩) rfl rfl rfl rfl rfl (by omega) (by omega) (by decide)) (fun s42 => ?_)
 refine sw_x rfl rfl rfl (e_alloc rfl) (fun b13 => ?_)
 refine sw_eff0 rfl rfl (e_store (i := 0) rfl rfl rfl rfl rfl rfl rfl rfl) (nP (cw_seq (zr ?_)))
 refine zS rfl (q_loadC rfl rfl (by exact .head _) rfl) ?_
 refine zS rfl (q_len rfl (.k rfl (.nil)) (rdO (by exact .tail _ (.head _)))) ?_
 refine zm rfl (nP (cw_block ?_))
 have hrl := rowsTo_len s39 (l.length + 1) (ws.length + 1)
 refine cw_loop (S := Nat) (fun k => [(3, [], .pointer (some ⟨b3, 0, none⟩)), (5, [], .pointer (some ⟨b5, 0, none⟩)), (9, [], x29.v), (10, [], .int .i64 ws.length), (11, [], .int .i64 ((l.length : Int) + 1)), (12, [], s39.v), (13, [], .pointer (some ⟨b13, 0, none⟩)), (43, [], s42.v), (44, [], .int .i64 ((ws.length + 1 : Nat) : Int)), (45, [], .int .i64 k)]) (fun k => Cl w [] [blk b13 [s42.v] 115, ownL 116 s42.v (rowsTo s39 (l.length + 1) (ws.length + 1) k), ownL 3 s39.v (neg (k * (l.length + 1)) T), ownL 21 x29.v ws, blk b5 [sl.v] 23, blk b3 [sp.v] 22]) (fun k => k ≤ ws.length + 1) (fun k => ws.length + 1 - k) 0 (Nat.zero_le _) (by rw [List.length_replicate]; exact (by exact .cons rfl (.cons rfl (.cons rfl (.cons rfl (.cons rfl (.cons rfl (.cons rfl (.cons rfl (.cons rfl (.cons rfl .nil))))))))))) (fun w' h => ?_) ?_
 · rw [← rowsTo_zero, Nat.zero_mul, ← neg_zero]; exact h
 intro k hk
 refine zr (zS rfl (q_lss rfl rfl rfl) (nP (cw_seq ?_)))
 refine cw_cond rfl (fun h => ?_) (fun h => ?_)
 · have hk' : k < ws.length + 1 := by simp at h; omega
   obtain ⟨q1, q2, q3, q4⟩ := prod_bd (i := k) (T := ws.length + 1) (W := l.length + 1) hk' (by omega) (by omega)
   obtain ⟨a, ha2⟩ : ∃ a, k * (l.length + 1) = a := ⟨_, rfl⟩
   obtain ⟨b, hb2⟩ : ∃ b, (k + 1) * (l.length + 1) = b := ⟨_, rfl⟩
   have m1 : (k : Int) * ((l.length : Int) + 1) = (a : Int) := by rw [← ha2]; push_cast; rfl
   have m2 : ((k : Int) + 1) * ((l.length : Int) + 1) = (b : Int) := by rw [← hb2]; push_cast; rfl
   rw [ha2, hb2] at q2
   rw [ha2, hT] at q1
   have hng := neg_len (m := a) (T := T) (by omega)
   have hrk := hrl k
   rw [ha2]
   refine sP (cw_seq (cw_block (zr (zm rfl (za rfl (nP (cw_seq (cw_region_a (Cl w [] [blk b13 [s42.v] 115, ownL 116 s42.v (rowsTo s39 (l.length + 1) (ws.length + 1) k), ownL 3 s39.v (neg a T), ownL 21 x29.v ws, blk b5 [sl.v] 23, blk b3 [sp.v] 22]) [16] mixed_Tryz ?_))))))))
   refine zk 0 (Cl.sel (by exact .take 0 rfl (.take 0 rfl (.take 0 rfl (.take 0 rfl (.take 0 rfl (.take 0 rfl (.nil _)))))))) rfl (q_loadC rfl rfl (by exact .head _) rfl) ?_
   refine zp 1 rfl (q_move rfl rfl) ?_
   refine zp 2 rfl (q_move rfl rfl) ?_
   refine zp 3 rfl (q_move rfl rfl) ?_
   refine zp 4 rfl (q_move rfl rfl) ?_
   refine zp 5 rfl (q_mul rfl rfl rfl (by intro hc; omega)) ?_
   refine zp 6 rfl (q_move rfl rfl) ?_
   refine zp 7 rfl (q_add rfl rfl rfl (by intro hc; omega)) ?_
   refine zp 8 rfl (q_move rfl rfl) ?_
   refine zp 9 rfl (q_mul rfl rfl rfl (by intro hc; omega)) ?_
   refine zp 10 rfl (q_move rfl rfl) ?_
   refine zp 11 rfl (q_add rfl rfl rfl (by intro hc; omega)) ?_
   refine zp 12 rfl (q_move rfl rfl) ?_
   refine zp 13 rfl (q_mul rfl rfl rfl (by intro hc; omega)) ?_
   rw [m1, m2]
   refine zk 14 (Cl.sel (by exact .take 0 rfl (.take 0 rfl (.take 0 rfl (.take 0 rfl (.take 0 rfl (.take 0 rfl (.nil _)))))))) rfl (q_slice3 (l := neg a T) rfl rfl rfl rfl rfl (rdO (by exact .tail _ (.tail _ (.head _)))) (fun _ => ⟨by omega, by omega, by omega⟩)) ?_
   refine zk 15 (Cl.sel (by exact .take 0 rfl (.take 0 rfl (.take 0 rfl (.take 0 rfl (.take 0 rfl (.take 0 rfl (.nil _)))))))) rfl (q_indexN rfl rfl rfl (rdO (by exact .tail _ (.head _))) (by intro hc; omega)) ?_
   refine aw_one0 16 (by kernel_rfl) rfl rfl rfl (e_storeEl1 (i := 1) rfl rfl rfl rfl rfl (by omega)) (by intro hb; (exact absurd hb (by decide))) ?_
   refine aw_end (by kernel_rfl) ?_
   refine post_then (zr ?_)
   refine sw_le (C' := Cl w [] [blk b13 [s42.v] 115, ownL 116 s42.v (rowsTo s39 (l.length + 1) (ws.length + 1) (k + 1)), ownL 3 s39.v (neg a T), ownL 21 x29.v ws, blk b5 [sl.v] 23, blk b3 [sp.v] 22]) (fun w' h => by rw [← rowsTo_succ _ _ _ _ hk', ha2, hb2]; exact h) ?_
   have hrow : nth (rowsTo s39 (l.length + 1) (ws.length + 1) (k + 1)) k = s39.row 1 a b := by rw [rowsTo_nth _ _ _ _ _ hk', if_pos (by omega), ha2, hb2]
   have hrk2 := hrl (k + 1)
   have hlen : (s39.row 1 a b).len = l.length + 1 := by show b - a = _; omega
   refine zS rfl (q_loadC rfl rfl (by exact .head _) rfl) ?_
   refine zm rfl ?_
   refine zS rfl (q_indexN rfl rfl rfl (rdO (by exact .tail _ (.head _))) (by intro hc; omega)) ?_
   refine zS rfl (q_loadElY hrow rfl rfl rfl (rdO (by exact .tail _ (.head _))) (by intro hc; omega)) ?_
   refine zS rfl (q_lenV rfl (.k rfl (.nil))) (zm rfl (nP (cw_block ?_)))
   rw [hlen]
   refine cw_loop (S := Nat) (fun j => [(3, [], .pointer (some ⟨b3, 0, none⟩)), (5, [], .pointer (some ⟨b5, 0, none⟩)), (9, [], x29.v), (10, [], .int .i64 ws.length), (11, [], .int .i64 ((l.length : Int) + 1)), (12, [], s39.v), (13, [], .pointer (some ⟨b13, 0, none⟩)), (43, [], s42.v), (44, [], .int .i64 ((ws.length + 1 : Nat) : Int)), (45, [], .int .i64 k), (14, [], .int .i64 k), (68, [], .int .i64 ((l.length + 1 : Nat) : Int)), (69, [], .int .i64 j)]) (fun j => Cl w [] [blk b13 [s42.v] 115, ownL 116 s42.v (rowsTo s39 (l.length + 1) (ws.length + 1) (k + 1)), ownL 3 s39.v (neg (a + j) T), ownL 21 x29.v ws, blk b5 [sl.v] 23, blk b3 [sp.v] 22]) (fun j => j ≤ l.length + 1) (fun j => l.length + 1 - j) 0 (Nat.zero_le _) (by exact .cons rfl (.cons rfl (.cons rfl (.cons rfl (.cons rfl (.cons rfl (.cons rfl (.cons rfl (.cons rfl (.cons rfl (.cons rfl (.cons rfl (.cons rfl .nil))))))))))))) (fun _ h => h) ?_
   intro j hj
   refine zr (zS rfl (q_lss rfl rfl rfl) (nP (cw_seq ?_)))
   refine cw_cond rfl (fun h2 => ?_) (fun h2 => ?_)
   · have hj' : j < l.length + 1 := by simp at h2; omega
     have hng2 := neg_len (m := a + j) (T := T) (by omega)
     refine sP (cw_seq (cw_block (zr (zm rfl (za rfl (nP (cw_region ?_)))))))
     refine zS rfl (q_loadC rfl rfl (by exact .head _) rfl) ?_
     refine zm rfl ?_
     refine zS rfl (q_indexN rfl rfl rfl (rdO (by exact .tail _ (.head _))) (by intro hc; omega)) ?_
     refine zS rfl (q_loadElY hrow rfl rfl rfl (rdO (by exact .tail _ (.head _))) (by intro hc; omega)) ?_
     refine zm rfl ?_
     refine zS rfl (q_indexRow rfl rfl rfl (fun w' h => rd_own (e := 3) h (by exact .tail _ (.tail _ (.head _)))) rfl (by intro hc; omega)) ?_
     refine sw_eff0 rfl rfl (e_storeEl1 (i := 2) rfl rfl rfl rfl rfl (by omega)) ?_
     refine sw_nil (post_blk (post_then (cw_region ?_)))
     refine zS rfl (q_add rfl rfl rfl (by intro hc; omega)) ?_
     refine zm rfl (sw_nil ?_)
     refine post_next (j + 1) (by exact .cons rfl (.cons rfl (.cons rfl (.cons rfl (.cons rfl (.cons rfl (.cons rfl (.cons rfl (.cons rfl (.cons rfl (.cons rfl (.cons rfl (.cons rfl .nil))))))))))))) (fun w' h => ?_) (by omega) (by omega)
     rw [← Nat.add_assoc, ← neg_set (by omega)]
     exact h
   · have hj' : j = l.length + 1 := by simp at h2; omega
     refine cw_exit (post_then_x (post_then_x (post_blk_eq (post_blk (post_then (cw_region ?_))))))
     refine zS rfl (q_add rfl rfl rfl (by intro hc; omega)) ?_
     refine zm rfl (sw_nil ?_)
     refine post_next (k + 1) (by exact .cons rfl (.cons rfl (.cons rfl (.cons rfl (.cons rfl (.cons rfl (.cons rfl (.cons rfl (.cons rfl (.cons rfl .nil)))))))))) (fun w' h => ?_) (by omega) (by omega)
     subst hj'
     rw [hb2, q2]
     exact h
 · have hk' : k = ws.length + 1 := by simp at h; omega
   have hrowA : ∀ i, i ≤ ws.length → nth (rowsTo s39 (l.length + 1) (ws.length + 1) (ws.length + 1)) i = s39.row 1 (i * (l.length + 1)) ((i + 1) * (l.length + 1)) := fun i hi => rowsAll_nth _ _ _ _ (by omega)
   have hrk := hrl (ws.length + 1)
   have hrowN := hrowA ws.length (Nat.le_refl _)
   obtain ⟨q1, q2, q3, q4⟩ := prod_bd (i := ws.length) (T := ws.length + 1) (W := l.length + 1) (by omega) (by omega) (by omega)
   have hng := neg_len (m := T) (T := T) (Nat.le_refl _)
   have hti := tab_init p ws l
   rw [hT] at hti
   rw [hk', hT]
   refine cw_exit (post_then_x (post_then_x (post_blk_eq (post_then (cw_seq (cw_region_a (Cl w [] [blk b13 [s42.v] 115, ownL 116 s42.v (rowsTo s39 (l.length + 1) (ws.length + 1) (ws.length + 1)), ownL 3 s39.v (neg T T), ownL 21 x29.v ws, blk b5 [sl.v] 23, blk b3 [sp.v] 22]) [7] mixed_Tryz ?_))))))
   refine zk 0 (Cl.sel (by exact .take 0 rfl (.take 0 rfl (.take 0 rfl (.take 0 rfl (.take 0 rfl (.take 0 rfl (.nil _)))))))) rfl (q_loadC rfl rfl (by exact .head _) rfl) ?_
   refine zp 1 rfl (q_move rfl rfl) ?_
   refine zk 2 (Cl.sel (by exact .take 0 rfl (.take 0 rfl (.take 0 rfl (.take 0 rfl (.take 0 rfl (.take 0 rfl (.nil _)))))))) rfl (q_indexN rfl rfl rfl (rdO (by exact .tail _ (.head _))) (by intro hc; omega)) ?_
   refine zk 3 (Cl.sel (by exact .take 0 rfl (.take 0 rfl (.take 0 rfl (.take 0 rfl (.take 0 rfl (.take 0 rfl (.nil _)))))))) rfl (q_loadElY hrowN rfl rfl rfl (rdO (by exact .tail _ (.head _))) (by intro hc; omega)) ?_
   refine zk 4 (Cl.sel (by exact .take 0 rfl (.take 0 rfl (.take 0 rfl (.take 0 rfl (.take 0 rfl (.take 0 rfl (.nil _)))))))) rfl (q_loadC rfl rfl (by exact .tail _ (.tail _ (.tail _ (.tail _ (.head _))))) rfl) ?_
   refine zk 5 (Cl.sel (by exact .take 0 rfl (.take 0 rfl (.take 0 rfl (.take 0 rfl (.take 0 rfl (.take 0 rfl (.nil _)))))))) rfl (q_len rfl (by exact .cons rfl inferInstance .nil) (stA (by assumption))) ?_
   refine zk 6 (Cl.sel (by exact .take 0 rfl (.take 0 rfl (.take 0 rfl (.take 0 rfl (.take 0 rfl (.take 0 rfl (.nil _)))))))) rfl (q_indexRow rfl rfl rfl (fun w' h => rd_own (e := 3) h (by exact .tail _ (.tail _ (.head _)))) rfl (fun _ => by omega)) ?_
   refine aw_one0 7 (by kernel_rfl) rfl rfl rfl (e_storeEl1 (i := 2) rfl rfl rfl rfl rfl (by omega)) (by intro hb; (exact absurd hb (by decide))) ?_
   refine aw_end (by kernel_rfl) ?_
   refine post_then (zr (zS rfl (q_func_l rfl (.k rfl (.k rfl (.nil)))) (za rfl (nP (cw_seq (cw_region (zS rfl (q_func_l rfl (.k rfl (.nil))) (za rfl (sw_nil (post_then (cw_seq (cw_seq (cw_region (zm rfl ?_))))))))))))))
   refine zS rfl (q_sub rfl rfl rfl (by intro hc; omega)) ?_
   refine za rfl (nP (cw_block ?_))
   refine cw_loop (S := Nat × List Int) (fun y => [(9, [], x29.v), (10, [], .int .i64 ws.length), (11, [], .int .i64 ((l.length : Int) + 1)), (13, [], .pointer (some ⟨b13, 0, none⟩)), (16, [], .func (.func 111) #[] #[.pointer (some ⟨b5, 0, none⟩), .pointer (some ⟨b13, 0, none⟩)]), (17, [], .func (.func 112) #[] #[.pointer (some ⟨b3, 0, none⟩)]), (18, [], .int .i64 ((y.1 : Int) - 1))]) (fun y => Cl w [] [blk b13 [s42.v] 115, ownL 116 s42.v (rowsTo s39 (l.length + 1) (ws.length + 1) (ws.length + 1)), ownL 3 s39.v y.2, ownL 21 x29.v ws, blk b5 [sl.v] 23, blk b3 [sp.v] 22]) (fun y => y.1 ≤ ws.length ∧ TabA p ws l y.2 y.1 0 (-1)) (fun y => y.1) (ws.length, (neg T T).set (ws.length * (l.length + 1) + l.length) 0) ⟨Nat.le_refl _, hti⟩ (by exact .cons rfl (.cons rfl (.cons rfl (.cons rfl (.cons rfl (.cons rfl (.cons rfl .nil))))))) (fun _ h => h) ?_
   rintro ⟨N, cells⟩ ⟨hN, htab⟩
   dsimp only at hN htab ⊢
   refine cw_seq (zr (zm rfl (zS rfl (q_geq rfl rfl rfl) (nP ?_))))
   refine cw_cond rfl (fun h1 => ?_) (fun h1 => ?_)
   · obtain ⟨i, rfl⟩ : ∃ i, N = i + 1 := ⟨N - 1, by simp at h1; omega⟩
     have e0 : (((i + 1 : Nat) : Int) - 1) = (i : Int) := by omega
     rw [e0]
     have hi : i < ws.length := by omega
     have hrowi := hrowA i (by omega)
     obtain ⟨q5, q6, q7, q8⟩ := prod_bd (i := i) (T := ws.length + 1) (W := l.length + 1) (by omega) (by omega) (by omega)
     have hof : Stb w [] (RdL (sp.sub 3 (cutF p (nth ws i).v) (cutT p (nth ws i).v)).v (offers p (nth ws i).v)) := by rw [offers_is ha]; exact stb_sub hp (cut_le p (nth ws i).v).1 (cut_le p (nth ws i).v).2
     have hofl := rd_len hof.here
     refine sP (cw_seq (cw_block (zr (zm rfl (zm rfl (nP (cw_block ?_)))))))
     refine cw_loop (S := Nat × List Int) (fun y => [(9, [], x29.v), (10, [], .int .i64 ws.length), (11, [], .int .i64 ((l.length : Int) + 1)), (13, [], .pointer (some ⟨b13, 0, none⟩)), (16, [], .func (.func 111) #[] #[.pointer (some ⟨b5, 0, none⟩), .pointer (some ⟨b13, 0, none⟩)]), (17, [], .func (.func 112) #[] #[.pointer (some ⟨b3, 0, none⟩)]), (18, [], .int .i64 i), (95, [], .int .i64 ((l.length : Int) + 1)), (96, [], .int .i64 y.1)]) (fun y => Cl w [] [blk b13 [s42.v] 115, ownL 116 s42.v (rowsTo s39 (l.length + 1) (ws.length + 1) (ws.length + 1)), ownL 3 s39.v y.2, ownL 21 x29.v ws, blk b5 [sl.v] 23, blk b3 [sp.v] 22]) (fun y => y.1 ≤ l.length + 1 ∧ TabA p ws l y.2 (i + 1) y.1 (-1)) (fun y => l.length + 1 - y.1) (0, cells) ⟨Nat.zero_le _, htab⟩ (by exact .cons rfl (.cons rfl (.cons rfl (.cons rfl (.cons rfl (.cons rfl (.cons rfl (.cons rfl (.cons rfl .nil))))))))) (fun _ h => h) ?_
     rintro ⟨j, cells⟩ ⟨hj, htab⟩
     dsimp only at hj htab ⊢
     refine zr (zS rfl (q_lss rfl rfl rfl) (nP (cw_seq ?_)))
     refine cw_cond rfl (fun h2 => ?_) (fun h2 => ?_)
     · have hj' : j ≤ l.length := by simp at h2; omega
       refine sP (cw_seq (cw_block (zr (zm rfl (za rfl (nP (cw_seq (cw_region (zm rfl (zm rfl (zm rfl ?_)))))))))))
       refine zS rfl (q_indexN rfl rfl rfl (rdO (by exact .tail _ (.tail _ (.tail _ (.head _))))) (by intro hc; omega)) ?_
       refine zS rfl (q_loadF rfl rfl rfl (rdO (by exact .tail _ (.tail _ (.tail _ (.head _))))) (by intro hc; omega) rfl) ?_
       refine sw_step rfl rfl rfl (q_callv (CanCall.mk Tryz.call112) rfl rfl (.k rfl (.nil)) (fun _ w1 hw => callq hw (of_spec b3 sp p (nth ws i).v ha w1 (stb_blk hw (by exact .tail _ (.tail _ (.tail _ (.tail _ (.tail _ (.head _))))))) (stb_arg hw hp)))) ?_
       refine zS rfl (q_len rfl (.k rfl (.nil)) (stA (by assumption))) ?_
       refine zm rfl (nP (cw_block ?_))
       refine cw_loop (S := Nat × List Int) (fun y => [(9, [], x29.v), (10, [], .int .i64 ws.length), (11, [], .int .i64 ((l.length : Int) + 1)), (13, [], .pointer (some ⟨b13, 0, none⟩)), (16, [], .func (.func 111) #[] #[.pointer (some ⟨b5, 0, none⟩), .pointer (some ⟨b13, 0, none⟩)]), (17, [], .func (.func 112) #[] #[.pointer (some ⟨b3, 0, none⟩)]), (18, [], .int .i64 i), (95, [], .int .i64 ((l.length : Int) + 1)), (96, [], .int .i64 j), (19, [], .int .i64 j), (104, [], (sp.sub 3 (cutF p (nth ws i).v) (cutT p (nth ws i).v)).v), (105, [], .int .i64 (offers p (nth ws i).v).length), (106, [], .int .i64 y.1)]) (fun y => Cl w [] [blk b13 [s42.v] 115, ownL 116 s42.v (rowsTo s39 (l.length + 1) (ws.length + 1) (ws.length + 1)), ownL 3 s39.v y.2, ownL 21 x29.v ws, blk b5 [sl.v] 23, blk b3 [sp.v] 22]) (fun y => y.1 ≤ (offers p (nth ws i).v).length ∧ TabA p ws l y.2 (i + 1) j (((offers p (nth ws i).v).take y.1).foldl (stepC (tryC (leastC p (ws.drop (i + 1))) (l.drop j))) (-1))) (fun y => (offers p (nth ws i).v).length - y.1) (0, cells) ⟨Nat.zero_le _, htab⟩ (by exact .cons rfl (.cons rfl (.cons rfl (.cons rfl (.cons rfl (.cons rfl (.cons rfl (.cons rfl (.cons rfl (.cons rfl (.cons rfl (.cons rfl (.cons rfl .nil))))))))))))) (fun _ h => h) ?_
       rintro ⟨k, cells⟩ ⟨hk, htab⟩
       dsimp only at hk htab ⊢
       refine zr (zS rfl (q_lss rfl rfl rfl) (nP (cw_seq ?_)))
       refine cw_cond rfl (fun h3 => ?_) (fun h3 => ?_)
       · have hk' : k < (offers p (nth ws i).v).length := by simp at h3; omega
         have hfold := take_fold (stepC (tryC (leastC p (ws.drop (i + 1))) (l.drop j))) (-1) hk'
         obtain ⟨x, hx⟩ : ∃ x, nth (offers p (nth ws i).v) k = x := ⟨_, rfl⟩
         have hxm := (offers_mem.1 (show x ∈ offers p (nth ws i).v by rw [← hx]; exact nth_mem hk')).1
         have hxs : Stb w [] (RdL x.p.v x.pl) := stb_mem hpi hxm
         have hxc := hcost x hxm
         have hxl := hpl x hxm
         obtain ⟨v, hv⟩ : ∃ v, ((offers p (nth ws i).v).take k).foldl (stepC (tryC (leastC p (ws.drop (i + 1))) (l.drop j))) (-1) = v := ⟨_, rfl⟩
         rw [hv] at htab hfold
         rw [hx] at hfold
         have hcell : nth cells (i * (l.length + 1) + ((j : Nat) : Int).toNat) = v := tab_at htab hi hj'
         have hcln := htab.1
         have hbel := fun k hk => tab_below (k := k) htab hi hk
         obtain ⟨r, hr⟩ : ∃ r, tryC (leastC p (ws.drop (i + 1))) (l.drop j) x = r := ⟨_, rfl⟩
         refine sP (cw_seq (cw_block (zr ?_)))
         refine zS rfl (q_indexN rfl rfl rfl (stA (by assumption)) (by intro hc; omega)) ?_
         refine zS rfl (q_loadEl rfl rfl rfl (stA (by assumption)) (by intro hc; omega)) ?_
         refine sw_x rfl rfl rfl (e_alloc rfl) (fun b21 => ?_)
         refine sw_eff0 rfl rfl (e_store (i := 0) rfl rfl rfl rfl rfl rfl rfl rfl) (nP (zr (zm rfl (zm rfl (zm rfl ?_)))))
         refine zS rfl (q_loadA rfl rfl (by exact .head _) rfl) ?_
         rw [hx]
         refine sw_step rfl rfl rfl (q_callv (CanCall.mk Tryz.call111) rfl rfl (.k rfl (.k rfl (.k rfl (.nil)))) (fun _ w1 hw => callq hw (try_spec b5 b13 sl s42 s39 l ws.length (l.length + 1) cells i j x (leastC p (ws.drop (i + 1))) rfl (by omega) (by omega) hi hj' hxc hxl (by rw [hcln]) hbel (fun l' => by have := least_bd hcost (ws.drop (i + 1)) l'; rw [List.length_drop] at this; omega) w1 (stb_blk hw (by exact .tail _ (.tail _ (.tail _ (.tail _ (.tail _ (.head _))))))) (stb_blk hw (by exact .tail _ (.head _))) (stb_arg hw hl) (stb_own (e := 116) hw (by exact .tail _ (.tail _ (.head _)))) (stb_own (e := 3) hw (by exact .tail _ (.tail _ (.tail _ (.head _))))) (stb_arg hw hxs)))) ?_
         rw [hr]
         refine za rfl (nP (zr (zm rfl (zS rfl (q_geq rfl rfl rfl) (zm rfl ?_)))))
         refine zS rfl (q_loadC rfl rfl (by exact .tail _ (.head _)) rfl) ?_
         refine zm rfl ?_
         refine zS rfl (q_indexN rfl rfl rfl (rdO (by exact .tail _ (.tail _ (.head _)))) (by intro hc; omega)) ?_
         refine zS rfl (q_loadElY hrowi rfl rfl rfl (rdO (by exact .tail _ (.tail _ (.head _)))) (by intro hc; omega)) ?_
         refine zm rfl ?_
         refine zS rfl (q_indexRow rfl rfl rfl (fun w' h => rd_own (e := 3) h (by exact .tail _ (.tail _ (.tail _ (.head _))))) rfl (by intro hc; omega)) ?_
         refine zS rfl (q_loadElY hcell rfl rfl rfl (fun w' h => rd_own (e := 3) h (by exact .tail _ (.tail _ (.tail _ (.head _))))) (by intro hc; omega)) ?_
         refine zS rfl (q_lss rfl rfl rfl) (zm rfl (zm rfl ?_))
         refine zS rfl (q_loadC rfl rfl (by exact .tail _ (.head _)) rfl) ?_
         refine zm rfl ?_
         refine zS rfl (q_indexN rfl rfl rfl (rdO (by exact .tail _ (.tail _ (.head _)))) (by intro hc; omega)) ?_
         refine zS rfl (q_loadElY hrowi rfl rfl rfl (rdO (by exact .tail _ (.tail _ (.head _)))) (by intro hc; omega)) ?_
         refine zm rfl ?_
         refine zS rfl (q_indexRow rfl rfl rfl (fun w' h => rd_own (e := 3) h (by exact .tail _ (.tail _ (.tail _ (.head _))))) rfl (by intro hc; omega)) ?_
         refine zS rfl (q_loadElY hcell rfl rfl rfl (fun w' h => rd_own (e := 3) h (by exact .tail _ (.tail _ (.tail _ (.head _))))) (by intro hc; omega)) ?_
         refine zS rfl (q_lss rfl rfl rfl) (zS rfl (q_or2 rfl rfl rfl) (zS rfl (q_and2 rfl rfl rfl) (nP ?_)))
         refine cw_cond rfl (fun h4 => ?_) (fun h4 => ?_)
         · have hst : stepC (tryC (leastC p (ws.drop (i + 1))) (l.drop j)) v x = r := by
             unfold stepC
             rw [hr, if_pos (by simp at h4; omega)]
           refine cw_region ?_
           refine zS rfl (q_loadC rfl rfl (by exact .tail _ (.head _)) rfl) ?_
           refine zm rfl ?_
           refine zS rfl (q_indexN rfl rfl rfl (rdO (by exact .tail _ (.tail _ (.head _)))) (by intro hc; omega)) ?_
           refine zS rfl (q_loadElY hrowi rfl rfl rfl (rdO (by exact .tail _ (.tail _ (.head _)))) (by intro hc; omega)) ?_
           refine zm rfl (zm rfl ?_)
           refine zS rfl (q_indexRow rfl rfl rfl (fun w' h => rd_own (e := 3) h (by exact .tail _ (.tail _ (.tail _ (.head _))))) rfl (by intro hc; omega)) ?_
           refine sw_eff0 rfl rfl (e_storeEl1 (i := 3) rfl rfl rfl rfl rfl (by omega)) ?_
           refine sw_nil (post_blk (post_then (cw_region ?_)))
           refine zS rfl (q_add rfl rfl rfl (by intro hc; omega)) ?_
           refine zm rfl (sw_nil ?_)
           refine post_next (k + 1, cells.set (i * (l.length + 1) + j) r) (by exact .cons rfl (.cons rfl (.cons rfl (.cons rfl (.cons rfl (.cons rfl (.cons rfl (.cons rfl (.cons rfl (.cons rfl (.cons rfl (.cons rfl (.cons rfl .nil))))))))))))) (fun w' h => (Cl.sel (by exact .take 1 rfl (.take 1 rfl (.take 1 rfl (.take 1 rfl (.take 1 rfl (.take 1 rfl (.nil _)))))))) _ h) ⟨by simp only; omega, ?_⟩ (by simp only; omega)
           simp only
           rw [hfold, hst]
           exact tab_set htab hi hj'
         · have hst : stepC (tryC (leastC p (ws.drop (i + 1))) (l.drop j)) v x = v := by
             unfold stepC
             rw [hr, if_neg (by simp at h4; omega)]
           refine cw_skip (post_blk (post_then (cw_region ?_)))
           refine zS rfl (q_add rfl rfl rfl (by intro hc; omega)) ?_
           refine zm rfl (sw_nil ?_)
           refine post_next (k + 1, cells) (by exact .cons rfl (.cons rfl (.cons rfl (.cons rfl (.cons rfl (.cons rfl (.cons rfl (.cons rfl (.cons rfl (.cons rfl (.cons rfl (.cons rfl (.cons rfl .nil))))))))))))) (fun w' h => (Cl.sel (by exact .take 1 rfl (.take 1 rfl (.take 1 rfl (.take 1 rfl (.take 1 rfl (.take 1 rfl (.nil _)))))))) _ h) ⟨by simp only; omega, ?_⟩ (by simp only; omega)
           simp only
           rw [hfold, hst]
           exact htab
       · have hk' : k = (offers p (nth ws i).v).length := by simp at h3; omega
         rw [hk', List.take_length, ← least_at hi] at htab
         refine cw_exit (post_then_x (post_then_x (post_blk_eq (post_blk (post_then (cw_region ?_))))))
         refine zS rfl (q_add rfl rfl rfl (by intro hc; omega)) ?_
         refine zm rfl (sw_nil ?_)
         exact post_next (j + 1, cells) (by exact .cons rfl (.cons rfl (.cons rfl (.cons rfl (.cons rfl (.cons rfl (.cons rfl (.cons rfl (.cons rfl .nil))))))))) (fun _ h => h) ⟨by simp only; omega, tab_next htab rfl⟩ (by simp only; omega)
     · have hj' : j = l.length + 1 := by simp at h2; omega
       refine cw_exit (post_then_x (post_then_x (post_blk_eq (post_blk (post_then (cw_region (zm rfl ?_)))))))
       refine zS rfl (q_sub rfl rfl rfl (by intro hc; omega)) ?_
       refine za rfl (sw_nil ?_)
       exact post_next (i, cells) (by exact .cons rfl (.cons rfl (.cons rfl (.cons rfl (.cons rfl (.cons rfl (.cons rfl .nil))))))) (fun _ h => h) ⟨by simp only; omega, tab_row htab hj'⟩ (by simp only; omega)
   · have hN0 : N = 0 := by simp at h1; omega
     subst hN0
     have hrow0 : nth (rowsTo s39 (l.length + 1) (ws.length + 1) (ws.length + 1)) (0 : Int).toNat = s39.row 1 (0 * (l.length + 1)) ((0 + 1) * (l.length + 1)) := hrowA 0 (by omega)
     have hc00 : nth cells (0 * (l.length + 1) + (0 : Int).toNat) = leastC p ws l := tab_all (i := 0) (k := 0) htab (by omega) (by omega)
     have hcln := htab.1
     obtain ⟨q5, q6, q7, q8⟩ := prod_bd (i := 0) (T := ws.length + 1) (W := l.length + 1) (by omega) (by omega) (by omega)
     refine cw_exit (post_then_x (post_then_x (post_blk_eq (post_then (cw_seq (zr ?_))))))
     refine zS rfl (q_loadC rfl rfl (by exact .head _) rfl) ?_
     refine zS rfl (q_index rfl rfl rfl (rdO (by exact .tail _ (.head _))) (by intro hc; omega)) ?_
     refine zS rfl (q_loadElY hrow0 rfl rfl rfl (rdO (by exact .tail _ (.head _))) (by intro hc; omega)) ?_
     refine zS rfl (q_indexRow rfl rfl rfl (fun w' h => rd_own (e := 3) h (by exact .tail _ (.tail _ (.head _)))) rfl (by intro hc; omega)) ?_
     refine zS rfl (q_loadElY hc00 rfl rfl rfl (fun w' h => rd_own (e := 3) h (by exact .tail _ (.tail _ (.head _)))) (by intro hc; omega)) ?_
     refine zS rfl (q_lss rfl rfl rfl) (nP ?_)
     refine cw_cond rfl (fun h2 => ?_) (fun h2 => ?_)
     · have hok : alOk p s l = false := by simp at h2; simp [alOk, hws]; omega
       refine zr (za rfl (za rfl (za rfl (nP (cw_ret (post_then_r (post_ret3 rfl (resOk_tmp rfl) (resOk_tmp rfl) (resOk_tmp rfl) ?_)))))))
       exact fun w' hw => ⟨(⟨none, 0, 0⟩, []), by simp [alN, hok]; rfl, trivial, by rw [alP, hok]; exact Cl.frz (H := []) (F := []) ((Cl.sel (by exact .nil _)) _ hw) fun w' bs _ => ⟨ownL.rd (ownL.nil (e := 23) w'), ⟨rfl, fun i hi => by simp at hi⟩, fun s hs => by simp at hs⟩⟩
     · have hok : alOk p s l = true := by simp at h2; simp [alOk, hws]; omega
       have hok2 : 0 ≤ leastC p ws l := by simp at h2; omega
       refine sP (zr (za rfl (nP (cw_seq (cw_region (za rfl (sw_nil (post_then (cw_seq (cw_seq (cw_region (zm rfl (zm rfl (sw_nil (post_then (cw_block ?_))))))))))))))))
       refine cw_loop (S := Nat × Nat × SlV × List SlV × List (List ByteArray)) (fun y => [(9, [], x29.v), (13, [], .pointer (some ⟨b13, 0, none⟩)), (16, [], .func (.func 111) #[] #[.pointer (some ⟨b5, 0, none⟩), .pointer (some ⟨b13, 0, none⟩)]), (17, [], .func (.func 112) #[] #[.pointer (some ⟨b3, 0, none⟩)]), (23, [], y.2.2.1.v), (24, [], .int .i64 y.2.1), (153, [], .int .i64 ws.length), (154, [], .int .i64 y.1)]) (fun y => Cl w [] (frz (RdRS y.2.2.2.1 y.2.2.2.2) :: ownL 23 y.2.2.1.v y.2.2.2.1 :: [blk b13 [s42.v] 115, ownL 116 s42.v (rowsTo s39 (l.length + 1) (ws.length + 1) (ws.length + 1)), ownL 3 s39.v cells, ownL 21 x29.v ws, blk b5 [sl.v] 23, blk b3 [sp.v] 22])) (fun y => y.1 ≤ ws.length ∧ y.2.1 ≤ l.length ∧ 0 ≤ leastC p (ws.drop y.1) (l.drop y.2.1) ∧ pathC p ws l = y.2.2.2.2 ++ pathC p (ws.drop y.1) (l.drop y.2.1) ∧ y.2.2.2.1.length ≤ y.1) (fun y => ws.length - y.1) (0, 0, ⟨none, 0, 0⟩, [], []) ⟨by simp, by simp, hok2, by simp, by simp⟩ (by exact .cons rfl (.cons rfl (.cons rfl (.cons rfl (.cons rfl (.cons rfl (.cons rfl (.cons rfl .nil)))))))) (fun w' h => Cl.frz (H := []) (Cl.addNil 23 h) fun w' bs _ => ⟨⟨rfl, fun i hi => by simp at hi⟩, fun s hs => by simp at hs⟩) ?_
       rintro ⟨i, j, so2, vs, ll⟩ ⟨hi0, hj', hle, hpath, hvl⟩
       dsimp only at hi0 hj' hle hpath hvl ⊢
       refine zr (zS rfl (q_lss rfl rfl rfl) (nP (cw_seq ?_)))
       refine cw_cond rfl (fun h3 => ?_) (fun h3 => ?_)
       · have hi : i < ws.length := by simp at h3; omega
         have hrowi := hrowA i (by omega)
         obtain ⟨q9, q10, q11, q12⟩ := prod_bd (i := i) (T := ws.length + 1) (W := l.length + 1) (by omega) (by omega) (by omega)
         have hof : Stb w [] (RdL (sp.sub 3 (cutF p (nth ws i).v) (cutT p (nth ws i).v)).v (offers p (nth ws i).v)) := by rw [offers_is ha]; exact stb_sub hp (cut_le p (nth ws i).v).1 (cut_le p (nth ws i).v).2
         have hofl := rd_len hof.here
         rw [drop_at hi] at hle hpath
         obtain ⟨y, hy1, hy2, hy3, hy4, hy5⟩ := path_step hle
         rw [← drop_at hi] at hy1
         rw [hy5] at hpath
         refine sP (cw_seq (cw_block (zr (zm rfl (za rfl (nP (cw_seq (cw_region (zm rfl (zm rfl (zm rfl ?_)))))))))))
         refine zS rfl (q_indexN rfl rfl rfl (rdO (by exact .tail _ (.tail _ (.tail _ (.tail _ (.tail _ (.head _))))))) (by intro hc; omega)) ?_
         refine zS rfl (q_loadF rfl rfl rfl (rdO (by exact .tail _ (.tail _ (.tail _ (.tail _ (.tail _ (.head _))))))) (by intro hc; omega) rfl) ?_
         refine sw_step rfl rfl rfl (q_callv (CanCall.mk Tryz.call112) rfl rfl (.k rfl (.nil)) (fun _ w1 hw => callq hw (of_spec b3 sp p (nth ws i).v ha w1 (stb_blk hw (by exact .tail _ (.tail _ (.tail _ (.tail _ (.tail _ (.tail _ (.tail _ (.head _))))))))) (stb_arg hw hp)))) ?_
         refine zS rfl (q_len rfl (.k rfl (.nil)) (stA (by assumption))) ?_
         refine zm rfl (nP (cw_block ?_))
         refine cw_loop (S := Nat) (fun k => [(9, [], x29.v), (13, [], .pointer (some ⟨b13, 0, none⟩)), (16, [], .func (.func 111) #[] #[.pointer (some ⟨b5, 0, none⟩), .pointer (some ⟨b13, 0, none⟩)]), (17, [], .func (.func 112) #[] #[.pointer (some ⟨b3, 0, none⟩)]), (23, [], so2.v), (24, [], .int .i64 j), (153, [], .int .i64 ws.length), (154, [], .int .i64 i), (25, [], .int .i64 i), (162, [], (sp.sub 3 (cutF p (nth ws i).v) (cutT p (nth ws i).v)).v), (163, [], .int .i64 (offers p (nth ws i).v).length), (164, [], .int .i64 k)]) (fun _ => Cl w [] (frz (RdRS vs ll) :: ownL 23 so2.v vs :: [blk b13 [s42.v] 115, ownL 116 s42.v (rowsTo s39 (l.length + 1) (ws.length + 1) (ws.length + 1)), ownL 3 s39.v cells, ownL 21 x29.v ws, blk b5 [sl.v] 23, blk b3 [sp.v] 22])) (fun k => k ≤ (offers p (nth ws i).v).length ∧ ∀ k', k' < k → tryC (leastC p (ws.drop (i + 1))) (l.drop j) (nth (offers p (nth ws i).v) k') ≠ leastC p (ws.drop i) (l.drop j)) (fun k => (offers p (nth ws i).v).length - k) 0 ⟨Nat.zero_le _, fun k hk => by omega⟩ (by exact .cons rfl (.cons rfl (.cons rfl (.cons rfl (.cons rfl (.cons rfl (.cons rfl (.cons rfl (.cons rfl (.cons rfl (.cons rfl (.cons rfl .nil)))))))))))) (fun _ h => h) ?_
         rintro k ⟨hk, hno⟩
         refine zr (zS rfl (q_lss rfl rfl rfl) (nP (cw_seq ?_)))
         refine cw_cond rfl (fun h4 => ?_) (fun h4 => ?_)
         · have hk' : k < (offers p (nth ws i).v).length := by simp at h4; omega
           obtain ⟨x, hx⟩ : ∃ x, nth (offers p (nth ws i).v) k = x := ⟨_, rfl⟩
           have hxm := (offers_mem.1 (show x ∈ offers p (nth ws i).v by rw [← hx]; exact nth_mem hk')).1
           have hxs : Stb w [] (RdL x.p.v x.pl) := stb_mem hpi hxm
           have hxc := hcost x hxm
           have hxl := hpl x hxm
           have hcell : nth cells (i * (l.length + 1) + ((j : Nat) : Int).toNat) = leastC p (ws.drop i) (l.drop j) := tab_all htab (by omega) hj'
           have hbel : ∀ k, k ≤ l.length → nth cells ((i + 1) * (l.length + 1) + k) = leastC p (ws.drop (i + 1)) (l.drop k) := fun k hk => tab_all htab (by omega) hk
           refine sP (cw_seq (cw_block (zr ?_)))
           refine zS rfl (q_indexN rfl rfl rfl (stA (by assumption)) (by intro hc; omega)) ?_
           refine zS rfl (q_loadEl rfl rfl rfl (stA (by assumption)) (by intro hc; omega)) ?_
           refine sw_x rfl rfl rfl (e_alloc rfl) (fun b27 => ?_)
           refine sw_eff0 rfl rfl (e_store (i := 0) rfl rfl rfl rfl rfl rfl rfl rfl) (nP (cw_seq ?_))
           rw [hx]
           refine cw_region_q mixed_Tryz (by kernel_rfl) ?_
           refine zw rfl (zw rfl (zw rfl ?_))
           refine zq rfl (q_loadA rfl rfl (by exact .head _) rfl) ?_
           refine qw_step rfl rfl rfl (q_callv (CanCall.mk Tryz.call111) rfl rfl (.k rfl (.k rfl (.k rfl (.nil)))) (fun _ w1 hw => callq hw (try_spec b5 b13 sl s42 s39 l ws.length (l.length + 1) cells i j x (leastC p (ws.drop (i + 1))) rfl (by omega) (by omega) hi hj' hxc hxl (by rw [hcln]) hbel (fun l' => by have := least_bd hcost (ws.drop (i + 1)) l'; rw [List.length_drop] at this; omega) w1 (stb_blk hw (by exact .tail _ (.tail _ (.tail _ (.tail _ (.tail _ (.tail _ (.tail _ (.head _))))))))) (stb_blk hw (by exact .tail _ (.tail _ (.tail _ (.head _))))) (stb_arg hw hl) (stb_own (e := 116) hw (by exact .tail _ (.tail _ (.tail _ (.tail _ (.head _)))))) (stb_own (e := 3) hw (by exact .tail _ (.tail _ (.tail _ (.tail _ (.tail _ (.head _))))))) (stb_arg hw hxs)))) ?_
           refine zq rfl (q_loadC rfl rfl (by exact .tail _ (.tail _ (.tail _ (.head _)))) rfl) ?_
           refine zw rfl ?_
           refine zq rfl (q_indexN rfl rfl rfl (rdO (by exact .tail _ (.tail _ (.tail _ (.tail _ (.head _)))))) (by intro hc; omega)) ?_
           refine zq rfl (q_loadElY hrowi rfl rfl rfl (rdO (by exact .tail _ (.tail _ (.tail _ (.tail _ (.head _)))))) (by intro hc; omega)) ?_
           refine zw rfl ?_
           refine zq rfl (q_indexRow rfl rfl rfl (fun w' h => rd_own (e := 3) h (by exact .tail _ (.tail _ (.tail _ (.tail _ (.tail _ (.head _))))))) rfl (by intro hc; omega)) ?_
           refine zq rfl (q_loadElY hcell rfl rfl rfl (fun w' h => rd_own (e := 3) h (by exact .tail _ (.tail _ (.tail _ (.tail _ (.tail _ (.head _))))))) (by intro hc; omega)) ?_
           refine zq rfl (q_eql rfl rfl rfl) (qw_end (post_then ?_))
           refine cw_cond rfl (fun h5 => ?_) (fun h5 => ?_)
           · have hxy : x = y := by
               have e1 : (offers p (nth ws i).v).find? (fun x => decide (tryC (leastC p (ws.drop (i + 1))) (l.drop j) x = leastC p (ws.drop i) (l.drop j))) = some x := by
                 rw [← hx]; exact find_at hk' (fun k' hk2 => by simpa using hno k' hk2) (by rw [hx]; simpa using h5)
               rw [e1] at hy1; exact Option.some.inj hy1
             subst hxy
             have hpre : j + x.pl.length ≤ l.length := by rw [pre_at hj'] at hy3; simp at hy3; omega
             rw [List.drop_drop] at hy4 hpath
             refine zr (zm rfl (zS rfl (q_fieldAddr rfl rfl) ?_))
             refine zS rfl (q_loadC rfl rfl (by exact .head _) rfl) ?_
             refine sw_x rfl rfl rfl (e_call (CanCall.mk Tryz.call87) rfl (.k rfl (.nil)) (fun w1 hw => cloneL_spec _ _ (by omega) w1 (stb_arg hw hxs))) (fun s184 => ?_)
             refine sw_imp fun _ => ?_
             refine sw_x rfl rfl rfl (e_build1 (α := SlV) rfl rfl rfl rfl) (fun s185 => ?_)
             refine sw_x rfl rfl rfl (e_append (i := 4) rfl (.k rfl (.k rfl (.nil))) rfl rfl (rdO (by exact .head _)) (by first | omega | (simp only [List.length_set, List.length_append, List.length_cons, List.length_nil, List.length_replicate, List.length_take, List.length_drop, List.length_map]; omega)) rfl) (fun s186 => ?_)
             refine za rfl (nP (zr (zm rfl (zS rfl (q_fieldAddr rfl rfl) ?_))))
             refine zS rfl (q_loadC rfl rfl (by exact .tail _ (.tail _ (.head _))) rfl) ?_
             refine zS rfl (q_len rfl (.k rfl (.nil)) (stA (by assumption))) ?_
             refine zS rfl (q_add rfl rfl rfl (by intro hc; omega)) ?_
             refine za rfl (nP (cw_exit (post_blk_ne rfl (post_then_x (post_then_x (post_blk_eq (post_blk (post_then (cw_region ?_)))))))))
             refine zS rfl (q_add rfl rfl rfl (by intro hc; omega)) ?_
             refine zm rfl (sw_nil ?_)
             refine post_next (i + 1, j + x.pl.length, s186, vs ++ [s184], ll ++ [x.pl]) (by exact .cons rfl (.cons rfl (.cons rfl (.cons rfl (.cons rfl (.cons rfl (.cons rfl (.cons rfl .nil)))))))) (fun w' h => ?_) ⟨by simp only; omega, hpre, hy4, by simp only; rw [hpath]; simp, by simp; omega⟩ (by simp only; omega)
             have h7 : Cl w [] (ownL 9 s184.v x.pl :: frz (RdRS vs ll) :: (ownL 23 s186.v (vs ++ [s184]) :: [blk b13 [s42.v] 115, ownL 116 s42.v (rowsTo s39 (l.length + 1) (ws.length + 1) (ws.length + 1)), ownL 3 s39.v cells, ownL 21 x29.v ws, blk b5 [sl.v] 23, blk b3 [sp.v] 22])) w' := (Cl.sel (by exact .take 1 rfl (.take 2 rfl (.take 2 rfl (.take 2 rfl (.take 2 rfl (.take 2 rfl (.take 2 rfl (.take 2 rfl (.take 2 rfl (.nil _))))))))))) _ h
             exact Cl.frz (H := [ownL 9 s184.v x.pl, frz (RdRS vs ll)]) h7 fun w' bs ⟨b1, _, _, k1, b2, _, _, k2, _⟩ => rdRS_snoc (frz_here k2) (ownL.rd k1) (spot_own k1)
           · refine cw_skip (post_blk (post_then (cw_region ?_)))
             refine zS rfl (q_add rfl rfl rfl (by intro hc; omega)) ?_
             refine zm rfl (sw_nil ?_)
             refine post_next (k + 1) (by exact .cons rfl (.cons rfl (.cons rfl (.cons rfl (.cons rfl (.cons rfl (.cons rfl (.cons rfl (.cons rfl (.cons rfl (.cons rfl (.cons rfl .nil)))))))))))) (fun w' h => (Cl.sel (by exact .take 1 rfl (.take 1 rfl (.take 1 rfl (.take 1 rfl (.take 1 rfl (.take 1 rfl (.take 1 rfl (.take 1 rfl (.nil _)))))))))) _ h) ⟨by omega, fun k' hk2 => ?_⟩ (by omega)
             by_cases h6 : k' = k
             · rw [h6, hx]; simpa using h5
             · exact hno k' (by omega)
         · exfalso
           have hk' : k = (offers p (nth ws i).v).length := by simp at h4; omega
           have h6 := List.find?_some hy1
           obtain ⟨k', hk2, hk3⟩ := List.getElem_of_mem hy2
           refine hno k' (by omega) ?_
           rw [nth_get hk2, hk3]
           simpa using h6
       · have hi : i = ws.length := by simp at h3; omega
         have he : alP p s l = ll := by
           rw [alP, if_pos hok, hws, hpath, hi, List.drop_length]; simp [pathC]
         refine cw_exit (post_then_x (post_then_x (post_blk_eq (post_then (cw_seq ?_)))))
         refine cw_region_q mixed_Tryz (by kernel_rfl) ?_
         refine zw rfl ?_
         refine zq rfl (q_loadC rfl rfl (by exact .tail _ (.tail _ (.head _))) rfl) ?_
         refine zq rfl (q_index rfl rfl rfl (rdO (by exact .tail _ (.tail _ (.tail _ (.head _))))) (by intro hc; omega)) ?_
         refine zq rfl (q_loadElY hrow0 rfl rfl rfl (rdO (by exact .tail _ (.tail _ (.tail _ (.head _))))) (by intro hc; omega)) ?_
         refine zq rfl (q_indexRow rfl rfl rfl (fun w' h => rd_own (e := 3) h (by exact .tail _ (.tail _ (.tail _ (.tail _ (.head _)))))) rfl (by intro hc; omega)) ?_
         refine zq rfl (q_loadElY hc00 rfl rfl rfl (fun w' h => rd_own (e := 3) h (by exact .tail _ (.tail _ (.tail _ (.tail _ (.head _)))))) (by intro hc; omega)) ?_
         refine zq rfl (q_assign rfl rfl) (zq rfl (q_assign rfl rfl) (zq rfl (q_assign rfl rfl) (qw_end (post_then (cw_ret (post_ret3 rfl (resOk_tmp rfl) (resOk_tmp rfl) (resOk_tmp rfl) ?_))))))
         refine fun w' hw => ⟨(so2, vs), by rw [alN, if_pos hok, hws, hok]; rfl, trivial, ?_⟩
         rw [he]
         have h7 : Cl w [] (frz (RdRS vs ll) :: ownL 23 so2.v vs :: []) w' := (Cl.sel (by exact .take 0 rfl (.take 0 rfl (.nil _)))) _ hw
         exact Cl.frz (H := [frz (RdRS vs ll), ownL 23 so2.v vs]) (F := []) h7 fun w' bs ⟨b1, _, _, k1, b2, _, _, k2, _⟩ => ⟨ownL.rd k2, frz_here k1⟩
theorem aligned_spec (sp sl : SlV) (p : List Pr) (s : ByteArray) (l : List ByteArray) (hs : (runes s).length ≤ 80) (hs1 : s.size ≤ 1000000) (hl1 : l.length ≤ 800) (ha : Asc p) (hcost : CostOk p) (hpl : ∀ x ∈ p, x.pl.length ≤ 1000) (w : World) (hp : Stb w [] (RdL sp.v p)) (hpi : Stb w [] fun w' => ∀ u ∈ p, PrIn u w') (hl : Stb w [] (RdL sl.v l)) :
   Calls Tryz.prog 64 #[sp.v, .string s, sl.v] w fun e w' => ∃ r : SlV, e = .returned (.tuple #[r.v, .int .i64 (alN p s l), .bool (alOk p s l)]) ∧ True ∧ Cl w [] [frz (RdRQ r.v (alP p s l))] w' :=
 (aligned_spec2 sp sl p s l hs hs1 hl1 ha hcost hpl w hp hpi hl).mono fun e w' ⟨r, he, _, hc⟩ => ⟨r.1, he, trivial, Cl.frzM hc fun w h => ⟨r.2, h.1, h.2⟩⟩
end Go.Proofs.YtkmbliojafefdaaGreatDoor

set_option autoImplicit false
set_option maxRecDepth 100000
namespace Go.Proofs.YtkmbliojafefdaaGreatDoor
open Go.Sx
open Enc (enc val)
theorem prsE_zero {p : List Pr} (h : prsE p = 0) : Asc p ∧ CostOk p ∧ (∀ x ∈ p, x.pl.length ≤ 3) ∧ p.length ≤ 1000 ∧ ∀ x ∈ p, prOk x = true := by
 unfold prsE at h
 split at h
 · cases h
 · rename_i hn
   split at h
   · rename_i h2
     simp only [Bool.and_eq_true, List.all_eq_true] at h2
     refine ⟨asc_of h2.1, fun x hx => ?_, fun x hx => ?_, by omega, h2.2⟩
     · have := h2.2 x hx
       simp [prOk] at this; omega
     · have := h2.2 x hx
       simp [prOk, phonesOk] at this; omega
   · cases h
theorem rd_nil0 {α : Type} [Enc α] (w : World) : RdL (⟨none, 0, 0⟩ : SlV).v ([] : List α) w := ⟨none, 0, 0, rfl, rfl, Nat.le_refl _, Nat.zero_le _, fun i x j v h => by simp at h⟩
theorem frz_nil {w0 w : World} {fp : List Nat} {H : List Asn} (h : Cl w0 fp H w) : Cl w0 fp [frz (RdRR (⟨none, 0, 0⟩ : SlV).v ([] : List (List ByteArray)))] w :=
 Cl.left (F := H) (Cl.frz (H := []) h fun w' bs _ => ⟨[], rd_nil0 w', rfl, fun i hi => by simp at hi⟩)
def alignE (p : List Pr) (s : ByteArray) (l : List ByteArray) : Int := if prsE p = 0 then (if wordOk s && phonesOk l 120 then (if alOk p s l then 0 else 5) else 2) else prsE p
def alignN (p : List Pr) (s : ByteArray) (l : List ByteArray) : Int := if alignE p s l = 0 then alN p s l else 0
def alignP (p : List Pr) (s : ByteArray) (l : List ByteArray) : List (List ByteArray) := if alignE p s l = 0 then alP p s l else []
theorem align_spec (sp sl : SlV) (p : List Pr) (s : ByteArray) (l : List ByteArray) (hs1 : s.size ≤ 1000000) (w : World) (hT : Stb w [] Tab) (hp : Stb w [] (RdL sp.v p)) (hpi : Stb w [] fun w' => ∀ u ∈ p, PrIn u w') (hl : Stb w [] (RdL sl.v l)) :
   Calls Tryz.prog 20 #[sp.v, .string s, sl.v] w fun e w' => ∃ r : SlV, e = .returned (.tuple #[r.v, .int .i64 (alignN p s l), .int .i64 (alignE p s l)]) ∧ True ∧ Cl w [] [frz (RdRR r.v (alignP p s l))] w' := by
 have hs2 : s.size ≤ 9223372036854775806 := by omega
 refine calls_cw (vs := [_, _, _]) Tryz.func20 rfl Tryz.ntmps20 rfl (Cl.start0 w) (zr (za rfl (za rfl (za rfl (nP (cw_seq (cw_seq (cw_region (zm rfl ?_)))))))))
 refine sw_step rfl rfl rfl (q_call (CanCall.mk Tryz.call61) rfl (.k rfl (.nil)) (fun _ w hw => callq hw (pairs_spec _ _ w (by exact stb_arg hw (by assumption)) (stb_arg hw (by assumption))))) ?_
 refine za rfl (nP (zr (zm rfl (zS rfl (q_neq rfl rfl rfl) (sw_nil (post_then ?_))))))
 refine cw_cond rfl (fun h => ?_) (fun h => ?_)
 · have h1 : prsE p ≠ 0 := by simpa using h
   have e1 : alignE p s l = prsE p := by unfold alignE; rw [if_neg h1]
   have e2 : alignN p s l = 0 := by unfold alignN; rw [if_neg (by rw [e1]; exact h1)]
   have e3 : alignP p s l = [] := by unfold alignP; rw [if_neg (by rw [e1]; exact h1)]
   refine zr (zm rfl (za rfl (za rfl (za rfl (nP (cw_ret (post_then_r (post_ret3 rfl (resOk_tmp rfl) (resOk_tmp rfl) (resOk_tmp rfl) ?_))))))))
   exact fun w' hw => ⟨⟨none, 0, 0⟩, by rw [e1, e2]; rfl, trivial, by rw [e3]; exact frz_nil hw⟩
 · have h1 : prsE p = 0 := by simpa using h
   obtain ⟨z1, z2, z3, z4, z5⟩ := prsE_zero h1
   refine sP (cw_seq (zr (zm rfl ?_)))
   refine sw_step rfl rfl rfl (q_call (CanCall.mk Tryz.call62) rfl (.k rfl (.nil)) (fun _ w hw => callq hw (isWord_spec _ w (by assumption) (stb_arg hw (by assumption))))) ?_
   refine zS rfl (q_not rfl rfl) (zm rfl (zm rfl ?_))
   refine sw_step rfl rfl rfl (q_call (CanCall.mk Tryz.call63) rfl (.k rfl (.k rfl (.nil))) (fun _ w hw => callq hw (phones_spec _ _ _ w (by exact stb_arg hw (by assumption))))) ?_
   refine zS rfl (q_not rfl rfl) (zS rfl (q_or2 rfl rfl rfl) (nP ?_))
   refine cw_cond rfl (fun h2 => ?_) (fun h2 => ?_)
   · have e1 : alignE p s l = 2 := by
       unfold alignE; rw [if_pos h1, if_neg]
       cases hw : wordOk s <;> cases hp : phonesOk l 120 <;> simp [hw, hp] at h2 ⊢
     have e2 : alignN p s l = 0 := by unfold alignN; rw [if_neg (by rw [e1]; decide)]
     have e3 : alignP p s l = [] := by unfold alignP; rw [if_neg (by rw [e1]; decide)]
     refine zr (za rfl (za rfl (za rfl (nP (cw_ret (post_then_r (post_ret3 rfl (resOk_tmp rfl) (resOk_tmp rfl) (resOk_tmp rfl) ?_)))))))
     exact fun w' hw => ⟨⟨none, 0, 0⟩, by rw [e1, e2]; rfl, trivial, by rw [e3]; exact frz_nil hw⟩
   · have h3 : wordOk s = true ∧ phonesOk l 120 = true := by
       cases hw : wordOk s <;> cases hp : phonesOk l 120 <;> simp [hw, hp] at h2 ⊢
     have h4 : alignE p s l = if alOk p s l then 0 else 5 := by unfold alignE; rw [if_pos h1, if_pos (by rw [h3.1, h3.2]; rfl)]
     have hrl : (runes s).length ≤ 40 := by have := h3.1; simp [wordOk] at this; omega
     have hll : l.length ≤ 120 := by have := h3.2; simp [phonesOk] at this; omega
     refine sP (zr (zm rfl (zm rfl (zm rfl ?_))))
     refine sw_x rfl rfl rfl (e_call (CanCall.mk Tryz.call64) rfl (.k rfl (.k rfl (.k rfl (.nil)))) (fun w1 hw => aligned_spec sp sl p s l (by omega) hs1 (by omega) z1 z2 (fun x hx => by have := z3 x hx; omega) w1 (stb_arg hw hp) (stb_arg hw hpi) (stb_arg hw hl))) (fun x30 => ?_)
     refine sw_imp fun _ => (zm rfl (zS rfl (q_extract rfl rfl rfl) (zS rfl (q_extract rfl rfl rfl) (zS rfl (q_extract rfl rfl rfl) (za rfl (za rfl (za rfl (nP (cw_seq (zr (zm rfl (zS rfl (q_not rfl rfl) (sw_nil (post_then ?_))))))))))))))
     refine cw_cond rfl (fun h5 => ?_) (fun h5 => ?_)
     · have h6 : alOk p s l = false := by simpa using h5
       have e1 : alignE p s l = 5 := by rw [h4, h6]; rfl
       have e2 : alignN p s l = 0 := by unfold alignN; rw [if_neg (by rw [e1]; decide)]
       have e3 : alignP p s l = [] := by unfold alignP; rw [if_neg (by rw [e1]; decide)]
       refine zr (za rfl (za rfl (za rfl (nP (cw_ret (post_then_r (post_ret3 rfl (resOk_tmp rfl) (resOk_tmp rfl) (resOk_tmp rfl) ?_)))))))
       exact fun w' hw => ⟨⟨none, 0, 0⟩, by rw [e1, e2]; rfl, trivial, by rw [e3]; exact frz_nil hw⟩
     · have h6 : alOk p s l = true := by simpa using h5
       have e1 : alignE p s l = 0 := by rw [h4, h6]; rfl
       have e2 : alignN p s l = alN p s l := by unfold alignN; rw [if_pos e1]
       have e3 : alignP p s l = alP p s l := by unfold alignP; rw [if_pos e1]
       refine sP (zr (zm rfl (zm rfl (za rfl (za rfl (za rfl (nP (cw_ret (post_ret3 rfl (resOk_tmp rfl) (resOk_tmp rfl) (resOk_tmp rfl) ?_)))))))))
       exact fun w' hw => ⟨x30, by rw [e1, e2]; rfl, trivial, by rw [e3]; exact Cl.frzM ((Cl.sel (by exact .take 0 rfl (.nil _))) _ hw) fun w' h => rdrq_rr h⟩
end Go.Proofs.YtkmbliojafefdaaGreatDoor

set_option autoImplicit false
set_option maxRecDepth 100000
namespace Go.Proofs.YtkmbliojafefdaaGreatDoor
open Go.Sx
open Enc (enc val)
theorem stb_map {w : World} {bs : List Nat} {R S : World → Prop} (h : Stb w bs R) (f : ∀ w', R w' → S w') : Stb w bs S := ⟨fun w' k => f w' (h.stb w' k)⟩
def condOk (c : Cond) : Bool := decide (c.at_ ≠ 0) && decide (-3 ≤ c.at_) && decide (c.at_ ≤ 3) && (decide (c.c = 0) || possC c.c)
def testsOk (l : List Cond) : Bool := l.all condOk && riseB (fun a b => a.at_ - b.at_) l
theorem tests_wrap (l : List Cond) : (riseB (fun a b : Cond => IntKind.i64.wrap (a.at_ - b.at_)) l && l.all condOk) = testsOk l := by
 unfold testsOk
 cases h : l.all condOk with
 | false => simp
 | true =>
   rw [Bool.and_true, Bool.true_and]
   rw [List.all_eq_true] at h
   rw [Bool.eq_iff_iff, riseB_yes, riseB_yes]
   have key : ∀ k, 1 ≤ k → k < l.length → IntKind.i64.wrap ((nth l (k - 1)).at_ - (nth l k).at_) = (nth l (k - 1)).at_ - (nth l k).at_ := fun k h0 hk => by
     have h1 := h _ (nth_mem (l := l) (i := k - 1) (by omega))
     have h2 := h _ (nth_mem hk)
     simp [condOk] at h1 h2
     rw [IntKind.wrap_i64]; omega
   constructor
   · intro h1 k h0 hk
     have := h1 k h0 hk
     rwa [key k h0 hk] at this
   · intro h1 k h0 hk
     rw [key k h0 hk]; exact h1 k h0 hk
theorem condCmp_spec (l : List Cond) : CmpL Tryz.prog 123 #[] (fun a b : Cond => IntKind.i64.wrap (a.at_ - b.at_)) (fun _ => True) l := by
 intro x _ y _ w _
 refine calls_cw (vs := [_, _]) Tryz.func123 rfl Tryz.ntmps123 rfl (Cl.start0 w) (zr ?_)
 refine sw_x rfl rfl rfl (e_box rfl rfl rfl) (fun b2 => ?_)
 refine sw_x rfl rfl rfl (e_box rfl rfl rfl) (fun b3 => ?_)
 refine za rfl (nP (zr (zS rfl (q_fieldAddr rfl rfl) ?_)))
 refine zS rfl (q_loadC rfl rfl (by exact .tail _ (.head _)) rfl) ?_
 refine zS rfl (q_fieldAddr rfl rfl) ?_
 refine zS rfl (q_loadC rfl rfl (by exact .head _) rfl) ?_
 refine zS rfl (q_sub_w rfl rfl rfl) (za rfl (nP (cw_ret (post_ret1 rfl (resOk_tmp rfl) ?_))))
 exact fun w' hw => ⟨rfl, (Cl.sel (by exact .nil _)) _ hw⟩
theorem condOk_spec (l : List Cond) : PredL Tryz.prog 125 #[] (fun c => !condOk c) (fun _ => True) l := by
 intro c _ w _
 refine calls_cw (vs := [_]) Tryz.func125 rfl Tryz.ntmps125 rfl (Cl.start0 w) (zr ?_)
 refine sw_x rfl rfl rfl (e_box rfl rfl rfl) (fun b1 => ?_)
 refine za rfl (nP (zr (zS rfl (q_fieldAddr rfl rfl) ?_)))
 refine zS rfl (q_loadC rfl rfl (by exact .head _) rfl) ?_
 refine zS rfl (q_eql rfl rfl rfl) (zm rfl (zS rfl (q_fieldAddr rfl rfl) ?_))
 refine zS rfl (q_loadC rfl rfl (by exact .head _) rfl) ?_
 refine zS rfl (q_lss rfl rfl rfl) (zS rfl (q_or2 rfl rfl rfl) (zm rfl (zS rfl (q_fieldAddr rfl rfl) ?_)))
 refine zS rfl (q_loadC rfl rfl (by exact .head _) rfl) ?_
 refine zS rfl (q_gtr rfl rfl rfl) (zS rfl (q_or2 rfl rfl rfl) (zm rfl (zS rfl (q_fieldAddr rfl rfl) ?_)))
 refine zS rfl (q_loadC rfl rfl (by exact .head _) rfl) ?_
 refine zS rfl (q_neq rfl rfl rfl) (zm rfl (zS rfl (q_fieldAddr rfl rfl) ?_))
 refine zS rfl (q_loadC rfl rfl (by exact .head _) rfl) ?_
 refine sw_step rfl rfl rfl (q_call (CanCall.mk Tryz.call76) rfl (.k rfl (.nil)) (fun _ w hw => callq hw (possible_spec _ w))) (zS rfl (q_not rfl rfl) (zS rfl (q_and2 rfl rfl rfl) (zS rfl (q_or2 rfl rfl rfl) (za rfl (nP (cw_ret (post_ret1 rfl (resOk_tmp rfl) ?_)))))))
 refine fun w' hw => ⟨?_, (Cl.sel (by exact .nil _)) _ hw⟩
 congr 2
 have e1 : decide (c.at_ < -3) = !decide (-3 ≤ c.at_) := by rw [Bool.eq_iff_iff]; simp
 have e2 : decide (3 < c.at_) = !decide (c.at_ ≤ 3) := by rw [Bool.eq_iff_iff]; simp
 have e3 : decide (c.at_ ≠ 0) = !decide (c.at_ = 0) := by simp
 simp only [condOk, e1, e2, e3]
 cases possC c.c <;> cases decide (c.at_ = 0) <;> cases decide (-3 ≤ c.at_) <;> cases decide (c.at_ ≤ 3) <;> cases decide (c.c = 0) <;> rfl
theorem testsOk_spec (sv : Value) (l : List Cond) (w : World) (hs : Stb w [] (RdL sv l)) : Calls Tryz.prog 77 #[sv] w fun e w' => e = .returned (.bool (testsOk l)) ∧ Cl w [] [] w' := by
 refine calls_cw (vs := [_]) Tryz.func77 rfl Tryz.ntmps77 rfl (Cl.start0 w) (zr (za rfl (nP (cw_seq (cw_region (zm rfl ?_))))))
 refine sw_step rfl rfl rfl (q_call (CanCall.mk Tryz.call122) rfl (.k rfl (.k rfl (.nil))) (fun _ w hw => callq hw (riseCond_spec _ _ _ _ _ _ w (by exact stb_arg hw (by assumption)) (stb_true w []) (CanCall.mk Tryz.call123) (condCmp_spec l)))) ?_
 refine zm rfl (zm rfl ?_)
 refine sw_step rfl rfl rfl (q_call (CanCall.mk Tryz.call124) rfl (.k rfl (.k rfl (.nil))) (fun _ w hw => callq hw (hasCond_spec _ _ _ _ _ _ w (by exact stb_arg hw (by assumption)) (stb_true w []) (CanCall.mk Tryz.call125) (condOk_spec l)))) ?_
 refine zS rfl (q_not rfl rfl) (zS rfl (q_and2 rfl rfl rfl) (za rfl (nP (cw_ret (post_ret1 rfl (resOk_tmp rfl) ?_)))))
 refine fun w' hw => ⟨?_, hw⟩
 rw [all_not_any, ← tests_wrap]
 simp
def ChcIn (r : Chc) (w : World) : Prop := RdL r.t.v r.tl w ∧ RdL r.p.v r.pl w
def LetIn (L : Let) (w : World) : Prop := RdL L.r.v L.rl w ∧ ∀ r ∈ L.rl, ChcIn r w
def BkIn (b : Bk) (w : World) : Prop := RdL b.b.v b.bl w ∧ ∀ L ∈ b.bl, LetIn L w
def chcOk (last : Bool) (r : Chc) : Bool := (decide (r.tl.length = 0) == last) && decide (r.tl.length ≤ 2) && testsOk r.tl && phonesOk r.pl 3
def letOk (L : Let) : Bool := possC L.c && decide (1 ≤ L.rl.length) && decide (L.rl.length ≤ 1000) && (List.range L.rl.length).all fun i => chcOk (decide (i + 1 = L.rl.length)) (nth L.rl i)
def bookOk (bl : List Let) : Bool := riseB (fun x y : Let => sgn (x.c - y.c)) bl && bl.all letOk
theorem letCmp_spec (l : List Let) : CmpL Tryz.prog 74 #[] (fun x y : Let => sgn (x.c - y.c)) (fun _ => True) l := by
 intro x _ y _ w _
 refine calls_cw (vs := [_, _]) Tryz.func74 rfl Tryz.ntmps74 rfl (Cl.start0 w) (zr ?_)
 refine sw_x rfl rfl rfl (e_box rfl rfl rfl) (fun b2 => ?_)
 refine sw_x rfl rfl rfl (e_box rfl rfl rfl) (fun b3 => ?_)
 refine za rfl (nP (zr (zS rfl (q_fieldAddr rfl rfl) ?_)))
 refine zS rfl (q_loadC rfl rfl (by exact .tail _ (.head _)) rfl) ?_
 refine zS rfl (q_fieldAddr rfl rfl) ?_
 refine zS rfl (q_loadC rfl rfl (by exact .head _) rfl) ?_
 refine sw_step rfl rfl rfl (q_call (CanCall.mk Tryz.call75) rfl (.k rfl (.k rfl (.nil))) (fun _ w hw => callq hw (compareR_spec _ _ w))) (za rfl (nP (cw_ret (post_ret1 rfl (resOk_tmp rfl) ?_))))
 exact fun w' hw => ⟨rfl, (Cl.sel (by exact .nil _)) _ hw⟩
theorem bookOk_no {bl : List Let} {k : Nat} (hk : k < bl.length) (h : letOk (nth bl k) = false) : bookOk bl = false := by
 have : bl.all letOk = false := by
   rw [List.all_eq_false]
   exact ⟨_, nth_mem hk, by simp [h]⟩
 simp [bookOk, this]
theorem validBook_spec (b : Bk) (w : World) (hb : Stb w [] (BkIn b)) : Calls Tryz.prog 33 #[val b] w fun e w' => e = .returned (.bool (bookOk b.bl)) ∧ Cl w [] [] w' := by
 have h1 : Stb w [] (RdL b.b.v b.bl) := stb_map hb fun _ h => h.1
 have hL := rd_len h1.here
 refine calls_cw (vs := [_]) Tryz.func33 rfl Tryz.ntmps33 rfl (Cl.start0 w) (zr ?_)
 refine sw_x rfl rfl rfl (e_box rfl rfl rfl) (fun b1 => ?_)
 refine za rfl (nP (cw_seq (zr (zS rfl (q_fieldAddr rfl rfl) ?_))))
 refine zS rfl (q_loadC rfl rfl (by exact .head _) rfl) ?_
 refine sw_step rfl rfl rfl (q_call (CanCall.mk Tryz.call73) rfl (.k rfl (.k rfl (.nil))) (fun _ w hw => callq hw (riseLet_spec _ _ _ _ _ _ w (by exact stb_arg hw (by assumption)) (stb_true w []) (CanCall.mk Tryz.call74) (letCmp_spec b.bl)))) ?_
 refine zS rfl (q_not rfl rfl) (nP ?_)
 refine cw_cond rfl (fun h => ?_) (fun h => ?_)
 · have e : bookOk b.bl = false := by simp at h; simp [bookOk, h]
   refine zr (za rfl (nP (cw_ret (post_then_r (post_ret1 rfl (resOk_tmp rfl) ?_)))))
   exact fun w' hw => ⟨by rw [e], (Cl.sel (by exact .nil _)) _ hw⟩
 · have hr : riseB (fun x y : Let => sgn (x.c - y.c)) b.bl = true := by simpa using h
   refine sP (cw_seq (zr (zS rfl (q_fieldAddr rfl rfl) ?_)))
   refine zS rfl (q_loadC rfl rfl (by exact .head _) rfl) ?_
   refine zS rfl (q_len rfl (.k rfl (.nil)) (stA (by assumption))) ?_
   refine zm rfl (nP (cw_block ?_))
   refine cw_loop (S := Nat) (fun k => [(13, [], b.b.v), (14, [], .int .i64 b.bl.length), (15, [], .int .i64 k)]) (fun _ => Cl w [] []) (fun k => k ≤ b.bl.length ∧ ∀ j, j < k → letOk (nth b.bl j) = true) (fun k => b.bl.length - k) 0 ⟨Nat.zero_le _, fun j hj => by omega⟩ (by exact .cons rfl (.cons rfl (.cons rfl .nil))) (fun _ h => (Cl.sel (by exact .nil _)) _ h) ?_
   rintro k ⟨hk, hbe⟩
   refine zr (zS rfl (q_lss rfl rfl rfl) (nP (cw_seq ?_)))
   refine cw_cond rfl (fun h2 => ?_) (fun h2 => ?_)
   · have hk' : k < b.bl.length := by simp at h2; omega
     obtain ⟨L, hLe⟩ : ∃ L, nth b.bl k = L := ⟨_, rfl⟩
     have hLm : L ∈ b.bl := by rw [← hLe]; exact nth_mem hk'
     have h3 : Stb w [] (RdL L.r.v L.rl) := stb_map hb fun _ h => (h.2 L hLm).1
     have hLl := rd_len h3.here
     have hLn : L.r.len = L.rl.length := (rd_lens h3.here).1
     have hno := fun hf => bookOk_no (bl := b.bl) hk' (by rw [hLe]; exact hf)
     refine sP (cw_seq (cw_block (zr ?_)))
     refine zS rfl (q_indexN rfl rfl rfl (stA (by assumption)) (by intro hc; omega)) ?_
     refine zS rfl (q_loadEl rfl rfl rfl (stA (by assumption)) (by intro hc; omega)) ?_
     rw [hLe]
     refine sw_x rfl rfl rfl (e_alloc rfl) (fun b4 => ?_)
     refine sw_eff0 rfl rfl (e_store (i := 0) rfl rfl rfl rfl rfl rfl rfl rfl) (nP (zr (zS rfl (q_fieldAddr rfl rfl) ?_)))
     refine zS rfl (q_loadC rfl rfl (by exact .head _) rfl) ?_
     refine zS rfl (q_len rfl (.k rfl (.nil)) (stA (by assumption))) ?_
     refine za rfl (nP (cw_seq (zr (zS rfl (q_fieldAddr rfl rfl) ?_))))
     refine zS rfl (q_loadC rfl rfl (by exact .head _) rfl) ?_
     refine sw_step rfl rfl rfl (q_call (CanCall.mk Tryz.call76) rfl (.k rfl (.nil)) (fun _ w hw => callq hw (possible_spec _ w))) (zS rfl (q_not rfl rfl) (zm rfl (zm rfl (zS rfl (q_lss rfl rfl rfl) (zS rfl (q_or2 rfl rfl rfl) (zm rfl (zm rfl (zS rfl (q_gtr rfl rfl rfl) (zS rfl (q_or2 rfl rfl rfl) (nP ?_))))))))))
     refine cw_cond rfl (fun h4 => ?_) (fun h4 => ?_)
     · have e : bookOk b.bl = false := hno (by
         simp only [Bool.or_eq_true, Bool.not_eq_true', decide_eq_true_eq] at h4
         unfold letOk
         rcases h4 with (h4 | h4) | h4
         · simp [h4]
         · rw [decide_eq_false (show ¬ 1 ≤ L.rl.length by omega)]; simp
         · rw [decide_eq_false (show ¬ L.rl.length ≤ 1000 by omega)]; simp)
       refine zr (za rfl (nP (cw_ret (post_then_r (post_blk_r (post_then_r (post_then_r (post_blk_r (post_then_r (post_ret1 rfl (resOk_tmp rfl) ?_))))))))))
       exact fun w' hw => ⟨by rw [e], (Cl.sel (by exact .nil _)) _ hw⟩
     · simp only [Bool.or_eq_false_iff, Bool.not_eq_false', decide_eq_false_iff_not] at h4
       refine sP (zr (zS rfl (q_fieldAddr rfl rfl) ?_))
       refine zS rfl (q_loadC rfl rfl (by exact .head _) rfl) ?_
       refine zS rfl (q_len rfl (.k rfl (.nil)) (stA (by assumption))) ?_
       refine zm rfl (nP (cw_block ?_))
       refine cw_loop (S := Nat) (fun i => [(13, [], b.b.v), (14, [], .int .i64 b.bl.length), (15, [], .int .i64 k), (5, [], .int .i64 L.rl.length), (35, [], L.r.v), (36, [], .int .i64 L.rl.length), (37, [], .int .i64 i)]) (fun _ => Cl w [] []) (fun i => i ≤ L.rl.length ∧ ∀ j, j < i → chcOk (decide (j + 1 = L.rl.length)) (nth L.rl j) = true) (fun i => L.rl.length - i) 0 ⟨Nat.zero_le _, fun j hj => by omega⟩ (by exact .cons rfl (.cons rfl (.cons rfl (.cons rfl (.cons rfl (.cons rfl (.cons rfl .nil))))))) (fun _ h => (Cl.sel (by exact .nil _)) _ h) ?_
       rintro i ⟨hi, hbi⟩
       refine zr (zS rfl (q_lss rfl rfl rfl) (nP (cw_seq ?_)))
       refine cw_cond rfl (fun h5 => ?_) (fun h5 => ?_)
       · have hi' : i < L.rl.length := by simp at h5; omega
         obtain ⟨r, hre⟩ : ∃ r, nth L.rl i = r := ⟨_, rfl⟩
         have hrm : r ∈ L.rl := by rw [← hre]; exact nth_mem hi'
         have h6 : Stb w [] (RdL r.t.v r.tl) := stb_map hb fun _ h => ((h.2 L hLm).2 r hrm).1
         have h7 : Stb w [] (RdL r.p.v r.pl) := stb_map hb fun _ h => ((h.2 L hLm).2 r hrm).2
         have hrl := rd_len h6.here
         have hrn : r.t.len = r.tl.length := (rd_lens h6.here).1
         have ei : decide ((i : Int) = (L.rl.length : Int) - 1) = decide (i + 1 = L.rl.length) := by rw [Bool.eq_iff_iff]; simp; omega
         refine sP (cw_seq (cw_block (zr (zm rfl ?_))))
         refine zS rfl (q_indexN rfl rfl rfl (stA (by assumption)) (by intro hc; omega)) ?_
         refine zS rfl (q_loadEl rfl rfl rfl (stA (by assumption)) (by intro hc; omega)) ?_
         rw [hre]
         refine sw_x rfl rfl rfl (e_alloc rfl) (fun b7 => ?_)
         refine za rfl (sw_eff0 rfl rfl (e_store (i := 0) rfl rfl rfl rfl rfl rfl rfl rfl) (nP (zr (zS rfl (q_fieldAddr rfl rfl) ?_))))
         refine zS rfl (q_loadC rfl rfl (by exact .head _) rfl) ?_
         refine zS rfl (q_len rfl (.k rfl (.nil)) (stA (by assumption))) ?_
         refine zS rfl (q_eql rfl rfl rfl) (zm rfl (zm rfl ?_))
         refine zS rfl (q_sub rfl rfl rfl (by intro hc; omega)) ?_
         refine zS rfl (q_eql rfl rfl rfl) (zS rfl (q_neq_b rfl rfl rfl Tryz.underlying4) (zm rfl (zS rfl (q_fieldAddr rfl rfl) ?_)))
         refine zS rfl (q_loadC rfl rfl (by exact .head _) rfl) ?_
         refine zS rfl (q_len rfl (.k rfl (.nil)) (stA (by assumption))) ?_
         refine zS rfl (q_gtr rfl rfl rfl) (zS rfl (q_or2 rfl rfl rfl) (zm rfl (zS rfl (q_fieldAddr rfl rfl) ?_)))
         refine zS rfl (q_loadC rfl rfl (by exact .head _) rfl) ?_
         refine sw_step rfl rfl rfl (q_call (CanCall.mk Tryz.call77) rfl (.k rfl (.nil)) (fun _ w hw => callq hw (testsOk_spec _ _ w (by exact stb_arg hw (by assumption))))) ?_
         refine zS rfl (q_not rfl rfl) (zS rfl (q_or2 rfl rfl rfl) (zm rfl (zS rfl (q_fieldAddr rfl rfl) ?_)))
         refine zS rfl (q_loadC rfl rfl (by exact .head _) rfl) ?_
         refine sw_step rfl rfl rfl (q_call (CanCall.mk Tryz.call63) rfl (.k rfl (.k rfl (.nil))) (fun _ w hw => callq hw (phones_spec _ _ _ w (by exact stb_arg hw (by assumption))))) ?_
         refine zS rfl (q_not rfl rfl) (zS rfl (q_or2 rfl rfl rfl) (nP ?_))
         rw [ei]
         have e5 : decide ((r.tl.length : Int) = 0) = decide (r.tl.length = 0) := by rw [Bool.eq_iff_iff]; simp
         refine cw_cond rfl (fun h8 => ?_) (fun h8 => ?_)
         · have e : bookOk b.bl = false := hno (by
             have h9 : chcOk (decide (i + 1 = L.rl.length)) r = false := by
               cases hc : chcOk (decide (i + 1 = L.rl.length)) r with
               | false => rfl
               | true =>
                 exfalso
                 simp only [chcOk, Bool.and_eq_true, decide_eq_true_eq, beq_iff_eq] at hc
                 obtain ⟨⟨⟨c1, c2⟩, c3⟩, c4⟩ := hc
                 rw [c3, c4] at h8
                 try rw [hrn] at h8
                 rw [e5, c1] at h8
                 simp at h8
                 omega
             have h10 : ((List.range L.rl.length).all fun i => chcOk (decide (i + 1 = L.rl.length)) (nth L.rl i)) = false := by
               rw [List.all_eq_false]
               exact ⟨i, List.mem_range.2 hi', by rw [hre, h9]; decide⟩
             unfold letOk
             rw [h10, Bool.and_false])
           refine zr (za rfl (nP (cw_ret (post_blk_r (post_then_r (post_then_r (post_blk_r (post_blk_r (post_then_r (post_then_r (post_blk_r (post_then_r (post_ret1 rfl (resOk_tmp rfl) ?_)))))))))))))
           exact fun w' hw => ⟨by rw [e], (Cl.sel (by exact .nil _)) _ hw⟩
         · have h9 : chcOk (decide (i + 1 = L.rl.length)) r = true := by
             try rw [hrn] at h8
             rw [e5] at h8
             simp only [Bool.or_eq_false_iff, Bool.not_eq_false', decide_eq_false_iff_not] at h8
             obtain ⟨⟨⟨c1, c2⟩, c3⟩, c4⟩ := h8
             simp only [chcOk, c3, c4, Bool.and_true, Bool.and_eq_true, decide_eq_true_eq]
             exact ⟨by simpa using c1, by omega⟩
           refine cw_skip (post_blk (post_then (cw_region ?_)))
           refine zS rfl (q_add rfl rfl rfl (by intro hc; omega)) ?_
           refine zm rfl (sw_nil ?_)
           refine post_next (i + 1) (by exact .cons rfl (.cons rfl (.cons rfl (.cons rfl (.cons rfl (.cons rfl (.cons rfl .nil))))))) (fun _ h => (Cl.sel (by exact .nil _)) _ h) ⟨by omega, fun j hj => ?_⟩ (by omega)
           by_cases hji : j = i
           · rw [hji, hre]; exact h9
           · exact hbi j (by omega)
       · have hi' : i = L.rl.length := by simp at h5; omega
         have h9 : letOk L = true := by
           have h10 : ((List.range L.rl.length).all fun i => chcOk (decide (i + 1 = L.rl.length)) (nth L.rl i)) = true := by
             rw [List.all_eq_true]
             intro j hj
             rw [List.mem_range] at hj
             exact hbi j (by omega)
           unfold letOk
           rw [h10, h4.1.1]
           simp; omega
         refine cw_exit (post_then_x (post_then_x (post_blk_eq (post_blk (post_then (cw_region ?_))))))
         refine zS rfl (q_add rfl rfl rfl (by intro hc; omega)) ?_
         refine zm rfl (sw_nil ?_)
         refine post_next (k + 1) (by exact .cons rfl (.cons rfl (.cons rfl .nil))) (fun _ h => (Cl.sel (by exact .nil _)) _ h) ⟨by omega, fun j hj => ?_⟩ (by omega)
         by_cases hjk : j = k
         · rw [hjk, hLe]; exact h9
         · exact hbe j (by omega)
   · have hk' : k = b.bl.length := by simp at h2; omega
     have e : bookOk b.bl = true := by
       have : b.bl.all letOk = true := by
         rw [List.all_eq_true]
         intro x hx
         obtain ⟨i, hi, rfl⟩ := List.getElem_of_mem hx
         rw [← nth_get hi]; exact hbe i (by omega)
       simp [bookOk, hr, this]
     refine cw_exit (post_then_x (post_then_x (post_blk_eq (post_then (zr (za rfl (nP (cw_ret (post_ret1 rfl (resOk_tmp rfl) ?_)))))))))
     exact fun w' hw => ⟨by rw [e], (Cl.sel (by exact .nil _)) _ hw⟩
end Go.Proofs.YtkmbliojafefdaaGreatDoor

set_option autoImplicit false
set_option maxRecDepth 100000
namespace Go.Proofs.YtkmbliojafefdaaGreatDoor
open Go.Sx
open Enc (enc val)
def lookC (ws : List Rn) (i : Int) : Int := if i < 0 ∨ (ws.length : Int) ≤ i then 0 else (nth ws i.toNat).v
theorem look_spec (sv : Value) (ws : List Rn) (i : Int) (w : World) (hs : Stb w [] (RdL sv ws)) : Calls Tryz.prog 170 #[sv, .int .i64 i] w fun e w' => e = .returned (.int .i32 (lookC ws i)) ∧ Cl w [] [] w' := by
 have hL := rd_len hs.here
 refine calls_cw (vs := [_, _]) Tryz.func170 rfl Tryz.ntmps170 rfl (Cl.start0 w) (zr (za rfl (nP (cw_seq (cw_seq (cw_region (zm rfl (zS rfl (q_lss rfl rfl rfl) (zm rfl (zm rfl (zm rfl ?_)))))))))))
 refine zS rfl (q_len rfl (.k rfl (.nil)) (stA (by assumption))) ?_
 refine zS rfl (q_geq rfl rfl rfl) (zS rfl (q_or2 rfl rfl rfl) (nP ?_))
 refine cw_cond rfl (fun h => ?_) (fun h => ?_)
 · have e : lookC ws i = 0 := by unfold lookC; rw [if_pos (by simp at h; omega)]
   refine zr (za rfl (nP (cw_ret (post_then_r (post_ret1 rfl (resOk_tmp rfl) ?_)))))
   exact fun w' hw => ⟨by rw [e], hw⟩
 · have h1 : 0 ≤ i ∧ i < ws.length := by simp at h; omega
   have e : lookC ws i = (nth ws i.toNat).v := by unfold lookC; rw [if_neg (by omega)]
   refine sP (zr (zm rfl (zm rfl ?_)))
   refine zS rfl (q_index rfl rfl rfl (stA (by assumption)) (by intro hc; omega)) ?_
   refine zS rfl (q_loadF rfl rfl rfl (stA (by assumption)) (by intro hc; omega) rfl) ?_
   refine za rfl (nP (cw_ret (post_ret1 rfl (resOk_tmp rfl) ?_)))
   exact fun w' hw => ⟨by rw [e], hw⟩
def holdsC (ws : List Rn) (i : Int) (t : List Cond) : Bool := t.all fun c => decide (lookC ws (i + c.at_) = c.c)
def InR (t : List Cond) : Prop := ∀ c ∈ t, -3 ≤ c.at_ ∧ c.at_ ≤ 3
theorem fails_spec (b4 b5 : Nat) (ls : SlV) (ws : List Rn) (i : Int) (hi : 0 ≤ i ∧ i ≤ 1000000) (t : List Cond) (ht : InR t) : PredL Tryz.prog 169 #[.pointer (some ⟨b4, 0, none⟩), .pointer (some ⟨b5, 0, none⟩)] (fun c : Cond => !decide (lookC ws (i + c.at_) = c.c)) (fun w => BlkAt b4 [ls.v] 31 w ∧ BlkAt b5 [.int .i64 i] 3 w ∧ RdL ls.v ws w) t := by
 intro c hc w ⟨hR1, hR2, hR3⟩
 have h1 := blk_stb hR1
 have h2 := blk_stb hR2
 have h3 := rd_stb hR3
 have hcr := ht c hc
 refine calls_cw (vs := [_, _, _]) Tryz.func169 rfl Tryz.ntmps169 rfl (Cl.start0 w) (zr ?_)
 refine sw_x rfl rfl rfl (e_box rfl rfl rfl) (fun b3 => ?_)
 refine za rfl (nP (cw_seq ?_))
 refine cw_region_q mixed_Tryz (by kernel_rfl) ?_
 refine zq rfl (q_loadS rfl rfl (fun w hw => Stb.cl (by assumption) hw) rfl) ?_
 refine zq rfl (q_loadS rfl rfl (fun w hw => Stb.cl (by assumption) hw) rfl) ?_
 refine zq rfl (q_fieldAddr rfl rfl) ?_
 refine zq rfl (q_loadC rfl rfl (by exact .head _) rfl) ?_
 refine zq rfl (q_add rfl rfl rfl (by intro hc; omega)) ?_
 refine qw_step rfl rfl rfl (q_call (CanCall.mk Tryz.call170) rfl (.k rfl (.k rfl (.nil))) (fun _ w hw => callq hw (look_spec _ _ _ w (by exact stb_arg hw (by assumption))))) ?_
 refine zq rfl (q_fieldAddr rfl rfl) ?_
 refine zq rfl (q_loadC rfl rfl (by exact .head _) rfl) ?_
 refine zq rfl (q_neq rfl rfl rfl) (zq rfl (q_assign rfl rfl) (qw_end (post_then (cw_ret (post_ret1 rfl (resOk_tmp rfl) ?_)))))
 exact fun w' hw => ⟨rfl, (Cl.sel (by exact .nil _)) _ hw⟩
theorem holds_spec (b4 b5 : Nat) (ls : SlV) (ws : List Rn) (i : Int) (hi : 0 ≤ i ∧ i ≤ 1000000) (rl : List Chc) (ht : ∀ r ∈ rl, InR r.tl) : PredL Tryz.prog 168 #[.pointer (some ⟨b4, 0, none⟩), .pointer (some ⟨b5, 0, none⟩)] (fun r : Chc => holdsC ws i r.tl) (fun w => (BlkAt b4 [ls.v] 31 w ∧ BlkAt b5 [.int .i64 i] 3 w ∧ RdL ls.v ws w) ∧ ∀ r ∈ rl, ChcIn r w) rl := by
 intro r hr w ⟨hR, hR2⟩
 have h1 := blk_stb hR.1
 have h2 := blk_stb hR.2.1
 have h3 := rd_stb hR.2.2
 have h4 : Stb w [] (RdL r.t.v r.tl) := rd_stb (hR2 r hr).1
 have h5 : Stb w [] (fun w => BlkAt b4 [ls.v] 31 w ∧ BlkAt b5 [.int .i64 i] 3 w ∧ RdL ls.v ws w) := ⟨fun w' k => ⟨h1.stb w' k, h2.stb w' k, h3.stb w' k⟩⟩
 refine calls_cw (vs := [_, _, _]) Tryz.func168 rfl Tryz.ntmps168 rfl (Cl.start0 w) (zr ?_)
 refine sw_x rfl rfl rfl (e_box rfl rfl rfl) (fun b3 => ?_)
 refine za rfl (nP (zr (zS rfl (q_fieldAddr rfl rfl) ?_)))
 refine zS rfl (q_loadC rfl rfl (by exact .head _) rfl) ?_
 refine zS rfl (q_func_l rfl (.k rfl (.k rfl (.nil)))) ?_
 refine sw_step rfl rfl rfl (q_call (CanCall.mk Tryz.call124) rfl (.k rfl (.k rfl (.nil))) (fun _ w hw => callq hw (hasCond_spec _ _ _ _ _ _ w (by exact stb_arg hw (by assumption)) (stb_arg hw h5) (CanCall.mk Tryz.call169) (fails_spec b4 b5 ls ws i hi r.tl (ht r hr))))) ?_
 refine zS rfl (q_not rfl rfl) (za rfl (nP (cw_ret (post_ret1 rfl (resOk_tmp rfl) ?_))))
 refine fun w' hw => ⟨?_, (Cl.sel (by exact .nil _)) _ hw⟩
 rw [all_not_any, Bool.not_not]; rfl
structure BGood (bl : List Let) : Prop where
 rise : riseB (fun x y : Let => sgn (x.c - y.c)) bl = true
 inr : ∀ L ∈ bl, ∀ r ∈ L.rl, InR r.tl
 last : ∀ L ∈ bl, ∃ r ∈ L.rl, r.tl = []
 small : ∀ L ∈ bl, ∀ r ∈ L.rl, r.pl.length ≤ 1000
def mtK (bl : List Let) (c : Int) : Nat := lowB (fun x : Let => sgn (x.c - c)) bl
def mtB (bl : List Let) (c : Int) : Bool := decide (mtK bl c < bl.length ∧ sgn ((nth bl (mtK bl c)).c - c) = 0)
def mtL (bl : List Let) (c : Int) : Let := if mtB bl c then nth bl (mtK bl c) else default
def mtI (bl : List Let) (ws : List Rn) (i : Nat) : Int := if mtB bl (nth ws i).v then idxP (fun r : Chc => holdsC ws i r.tl) (mtL bl (nth ws i).v).rl else 0
theorem let_asc {bl : List Let} (h : riseB (fun x y : Let => sgn (x.c - y.c)) bl = true) : ∀ i j, i < j → j < bl.length → (nth bl i).c < (nth bl j).c := by
 have h1 : ∀ k, 1 ≤ k → k < bl.length → (nth bl (k - 1)).c < (nth bl k).c := fun k h0 hk => by
   have := riseB_yes.1 h k h0 hk
   rw [sgn_neg] at this; omega
 intro i j hij hj
 induction j with
 | zero => omega
 | succ j ih =>
   have h2 := h1 (j + 1) (by omega) hj
   rw [Nat.add_sub_cancel] at h2
   by_cases h3 : i = j
   · rw [h3]; exact h2
   · have := ih (by omega) (by omega); omega
theorem halves_let {bl : List Let} (h : riseB (fun x y : Let => sgn (x.c - y.c)) bl = true) (c : Int) : Halves (fun x : Let => sgn (x.c - c)) bl := fun i j hij hj hc => by
 have := let_asc h i j hij hj
 simp only [sgn_neg] at hc ⊢; omega
theorem holdL_spec (p : List Let) (c : Int) : CmpT Tryz.prog 166 #[] (.int .i32 c) (fun x : Let => sgn (x.c - c)) (fun _ => True) p := by
 intro u hu w _
 refine calls_cw (vs := [_, _]) Tryz.func166 rfl Tryz.ntmps166 rfl (Cl.start0 w) (zr ?_)
 refine sw_x rfl rfl rfl (e_box rfl rfl rfl) (fun b2 => ?_)
 refine za rfl (nP (zr (zS rfl (q_fieldAddr rfl rfl) ?_)))
 refine zS rfl (q_loadC rfl rfl (by exact .head _) rfl) ?_
 refine zm rfl (sw_step rfl rfl rfl (q_call (CanCall.mk Tryz.call75) rfl (.k rfl (.k rfl (.nil))) (fun _ w hw => callq hw (compareR_spec _ _ w))) (za rfl (nP (cw_ret (post_ret1 rfl (resOk_tmp rfl) ?_)))))
 exact fun w' hw => ⟨rfl, (Cl.sel (by exact .nil _)) _ hw⟩
theorem matching_spec (b : Bk) (ls : SlV) (ws : List Rn) (i : Nat) (hi : i < ws.length) (hi2 : i ≤ 1000000) (hg : BGood b.bl) (w : World) (hb : Stb w [] (BkIn b)) (hls : Stb w [] (RdL ls.v ws)) :
   Calls Tryz.prog 138 #[val b, ls.v, .int .i64 i] w fun e w' => e = .returned (.tuple #[val (mtL b.bl (nth ws i).v), .int .i64 (mtI b.bl ws i), .bool (mtB b.bl (nth ws i).v)]) ∧ Cl w [] [] w' := by
 have h1 : Stb w [] (RdL b.b.v b.bl) := stb_map hb fun _ h => h.1
 have hL := rd_len h1.here
 refine calls_cw (vs := [_, _, _]) Tryz.func138 rfl Tryz.ntmps138 rfl (Cl.start0 w) (zr ?_)
 refine sw_x rfl rfl rfl (e_box rfl rfl rfl) (fun b3 => ?_)
 refine sw_x rfl rfl rfl (e_box rfl rfl rfl) (fun b4 => ?_)
 refine sw_x rfl rfl rfl (e_box rfl rfl rfl) (fun b5 => ?_)
 refine sw_x rfl rfl rfl (e_alloc rfl) (fun b6 => ?_)
 refine za rfl (za rfl (nP (cw_seq ?_)))
 refine cw_region_q mixed_Tryz (by kernel_rfl) ?_
 refine zq rfl (q_fieldAddr rfl rfl) ?_
 refine zq rfl (q_loadC rfl rfl (by exact .tail _ (.tail _ (.tail _ (.head _)))) rfl) ?_
 refine zq rfl (q_loadC rfl rfl (by exact .tail _ (.tail _ (.head _))) rfl) ?_
 refine zq rfl (q_loadC rfl rfl (by exact .tail _ (.head _)) rfl) ?_
 refine zq rfl (q_indexN rfl rfl rfl (stA (by assumption)) (by intro hc; omega)) ?_
 refine zq rfl (q_loadF rfl rfl rfl (stA (by assumption)) (by intro hc; omega) rfl) ?_
 refine qw_step rfl rfl rfl (q_call (CanCall.mk Tryz.call165) rfl (.k rfl (.k rfl (.k rfl (.nil)))) (fun _ w1 hw => callq hw (searchLet_spec _ b.bl (nth ws i).v _ _ (fun x : Let => sgn (x.c - (nth ws i).v)) _ w1 (stb_arg hw h1) (stb_true w1 []) (CanCall.mk Tryz.call166) (holdL_spec b.bl (nth ws i).v) (halves_let hg.rise _)))) (zw rfl (zq rfl (q_extract rfl rfl rfl) (zq rfl (q_extract rfl rfl rfl) (zq rfl (q_assign rfl rfl) (zq rfl (q_assign rfl rfl) (qw_end (post_then (cw_seq (zr (zm rfl (zS rfl (q_not rfl rfl) (nP ?_))))))))))))
 refine cw_cond rfl (fun h => ?_) (fun h => ?_)
 · have e : mtB b.bl (nth ws i).v = false := by simp only [Bool.not_eq_true'] at h; exact h
   have e2 : mtL b.bl (nth ws i).v = default := by unfold mtL; rw [e]; rfl
   have e3 : mtI b.bl ws i = 0 := by unfold mtI; rw [e]; rfl
   refine zr (zS rfl (q_build rfl (.nil) rfl) (sw_eff0 rfl rfl (e_store (i := 0) rfl rfl rfl rfl rfl rfl rfl rfl) (za rfl (za rfl (nP (cw_ret (post_then_r ?_)))))))
   refine post_ret3 rfl (resOk_blk (x := (default : Let)) rfl (by exact .head _) (by rfl)) (resOk_tmp rfl) (resOk_tmp rfl) ?_
   exact fun w' hw => ⟨by rw [e, e2, e3], (Cl.sel (by exact .nil _)) _ hw⟩
 · have e : mtB b.bl (nth ws i).v = true := by simp only [Bool.not_eq_false'] at h; exact h
   have hk : mtK b.bl (nth ws i).v < b.bl.length := by unfold mtB at e; simp only [decide_eq_true_eq] at e; exact e.1
   obtain ⟨k, hk2⟩ : ∃ k, lowB (fun x : Let => sgn (x.c - (nth ws i).v)) b.bl = k := ⟨_, rfl⟩
   have hk3 : mtK b.bl (nth ws i).v = k := hk2
   rw [hk3] at hk
   rw [hk2]
   obtain ⟨L, hLe⟩ : ∃ L, nth b.bl k = L := ⟨_, rfl⟩
   have hLm : L ∈ b.bl := by rw [← hLe]; exact nth_mem hk
   have e2 : mtL b.bl (nth ws i).v = L := by unfold mtL; rw [e, hk3, hLe]; rfl
   have e3 : mtI b.bl ws i = idxP (fun r : Chc => holdsC ws i r.tl) L.rl := by unfold mtI; rw [e, e2]; rfl
   have h2 : Stb w [] (RdL L.r.v L.rl) := stb_map hb fun _ h => (h.2 L hLm).1
   have h3 : Stb w [] (fun w => ∀ r ∈ L.rl, ChcIn r w) := stb_map hb fun _ h => (h.2 L hLm).2
   refine sP (zr (zS rfl (q_fieldAddr rfl rfl) ?_))
   refine zS rfl (q_loadC rfl rfl (by exact .tail _ (.tail _ (.tail _ (.head _)))) rfl) ?_
   refine zm rfl ?_
   refine zS rfl (q_indexN rfl rfl rfl (stA (by assumption)) (by intro hc; omega)) ?_
   refine zS rfl (q_loadEl rfl rfl rfl (stA (by assumption)) (by intro hc; omega)) ?_
   rw [hLe]
   refine sw_x rfl rfl rfl (e_alloc rfl) (fun b11 => ?_)
   refine sw_eff0 rfl rfl (e_store (i := 0) rfl rfl rfl rfl rfl rfl rfl rfl) (nP (cw_seq (cw_region_a (Cl w [] [blk b11 (enc L) 61, blk b5 [.int .i64 i] 3, blk b4 [ls.v] 31]) [] mixed_Tryz ?_)))
   refine zk 0 (Cl.sel (by exact .take 0 rfl (.take 1 rfl (.take 1 rfl (.nil _))))) rfl (q_loadA rfl rfl (by exact .head _) rfl) ?_
   refine zk 1 (Cl.sel (by exact .take 0 rfl (.take 1 rfl (.take 1 rfl (.nil _))))) rfl (q_fieldAddr rfl rfl) ?_
   refine zk 2 (Cl.sel (by exact .take 0 rfl (.take 1 rfl (.take 1 rfl (.nil _))))) rfl (q_loadC rfl rfl (by exact .head _) rfl) ?_
   refine zp 3 rfl (q_func_l rfl (.k rfl (.k rfl (.nil)))) ?_
   refine aw_q 4 (by kernel_rfl) rfl rfl rfl rfl (q_call (CanCall.mk Tryz.call167) rfl (.k rfl (.k rfl (.nil))) (fun _ w hw => callq hw (chc_index _ L.rl _ _ _ _ w (stb_arg hw h2) ⟨fun w' k => ⟨⟨(stb_blk (t := 31) hw (by exact .tail _ (.tail _ (.tail _ (.head _))))).stb w' k, (stb_blk (t := 3) hw (by exact .tail _ (.tail _ (.head _)))).stb w' k, (stb_arg hw hls).stb w' k⟩, (stb_arg hw h3).stb w' k⟩⟩ (CanCall.mk Tryz.call168) (holds_spec b4 b5 ls ws i (by omega) L.rl (hg.inr L hLm))))) (by intro hb; exact (Cl.sel (by exact .take 0 rfl (.take 1 rfl (.take 1 rfl (.nil _)))))) ?_
   refine aw_one0 5 (by kernel_rfl) rfl rfl rfl (e_store (i := 1) rfl rfl rfl rfl rfl rfl rfl rfl) (by intro hb; exact (Cl.sel (by exact .take 0 rfl (.take 1 rfl (.take 1 rfl (.nil _)))))) ?_
   refine zp 6 rfl (q_assign rfl rfl) ?_
   refine zp 7 rfl (q_assign rfl rfl) ?_
   refine aw_end (by kernel_rfl) ?_
   refine post_then (cw_ret ?_)
   refine post_ret3 rfl (resOk_blk (x := L) rfl (by exact .tail _ (.head _)) (by rfl)) (resOk_tmp rfl) (resOk_tmp rfl) ?_
   exact fun w' hw => ⟨by rw [e, e2, e3], (Cl.sel (by exact .nil _)) _ hw⟩
end Go.Proofs.YtkmbliojafefdaaGreatDoor

set_option autoImplicit false
set_option maxRecDepth 100000
namespace Go.Proofs.YtkmbliojafefdaaGreatDoor
open Go.Sx
open Enc (enc val)
def tabT {α : Type} (g : Nat → α) (d : α) (k n : Nat) : List α := (List.range n).map fun i => if i < k then g i else d
theorem tabT_len {α : Type} (g : Nat → α) (d : α) (k n : Nat) : (tabT g d k n).length = n := by simp [tabT]
theorem tabT_set {α : Type} (g : Nat → α) (d : α) {k n : Nat} (hk : k < n) : (tabT g d k n).set k (g k) = tabT g d (k + 1) n := by
 apply List.ext_getElem (by simp [tabT])
 intro i h1 h2
 rw [List.getElem_set]
 have hi : i < n := by simpa [tabT] using h2
 split
 · rename_i e; subst e; simp [tabT]
 · rename_i e
   simp only [tabT, List.getElem_map, List.getElem_range]
   by_cases h3 : i < k
   · rw [if_pos h3, if_pos (by omega)]
   · rw [if_neg h3, if_neg (by omega)]
theorem tabT_zero {α : Type} (g : Nat → α) (d : α) (n : Nat) : List.replicate n d = tabT g d 0 n := by
 apply List.ext_getElem (by simp [tabT])
 intro i h1 h2
 simp [tabT]
theorem tabT_all {α : Type} (g : Nat → α) (d : α) (n : Nat) : tabT g d n n = (List.range n).map g := by
 apply List.ext_getElem (by simp [tabT])
 intro i h1 h2
 have hi : i < n := by simpa [tabT] using h1
 simp [tabT, hi]
theorem tabT_skip {α : Type} {g : Nat → α} {d : α} {k n : Nat} (h : g k = d) : tabT g d (k + 1) n = tabT g d k n := by
 unfold tabT
 apply List.map_congr_left
 intro i hi
 by_cases h1 : i < k
 · rw [if_pos h1, if_pos (by omega)]
 · rw [if_neg h1]
   by_cases h2 : i = k
   · rw [h2, if_pos (by omega), h]
   · rw [if_neg (by omega)]
def ruleN (bl : List Let) (ws : List Rn) (i : Nat) : Int := if mtB bl (nth ws i).v then mtI bl ws i else -1
def ruleX (bl : List Let) (ws : List Rn) (i : Nat) : Chc := if mtB bl (nth ws i).v then nth (mtL bl (nth ws i).v).rl (mtI bl ws i).toNat else default
theorem mt_mem {bl : List Let} {c : Int} (h : mtB bl c = true) : mtL bl c ∈ bl := by
 unfold mtL; rw [h]
 unfold mtB at h
 simp only [decide_eq_true_eq] at h
 exact nth_mem h.1
theorem mt_idx {bl : List Let} (hg : BGood bl) {ws : List Rn} {i : Nat} (h : mtB bl (nth ws i).v = true) : 0 ≤ mtI bl ws i ∧ mtI bl ws i < (mtL bl (nth ws i).v).rl.length := by
 obtain ⟨r, hr, ht⟩ := hg.last _ (mt_mem h)
 have h1 : (mtL bl (nth ws i).v).rl.any (fun r : Chc => holdsC ws i r.tl) = true := List.any_eq_true.2 ⟨r, hr, by rw [ht]; rfl⟩
 have h2 : mtI bl ws i = idxP (fun r : Chc => holdsC ws i r.tl) (mtL bl (nth ws i).v).rl := by unfold mtI; rw [h]; rfl
 rw [← idxP_any] at h1
 rw [h2]
 refine ⟨by simpa using h1, ?_⟩
 unfold idxP
 split
 · rename_i k hk
   have := (List.findIdx?_eq_some_iff_getElem.1 hk).1
   omega
 · omega
theorem rule_in {b : Bk} (hg : BGood b.bl) {ws : List Rn} {i : Nat} {w : World} (hb : BkIn b w) : RdL (ruleX b.bl ws i).p.v (ruleX b.bl ws i).pl w := by
 unfold ruleX
 split
 · rename_i h
   have h2 := mt_idx hg h
   exact ((hb.2 _ (mt_mem h)).2 _ (nth_mem (by omega))).2
 · exact rd_nil0 w
theorem rule_small {bl : List Let} (hg : BGood bl) {ws : List Rn} {i : Nat} : (ruleX bl ws i).pl.length ≤ 1000 := by
 unfold ruleX
 split
 · rename_i h
   have h2 := mt_idx hg h
   exact hg.small _ (mt_mem h) _ (nth_mem (by omega))
 · exact Nat.zero_le _
theorem said_spec (b : Bk) (s : ByteArray) (hs : s.size ≤ 1000000) (hn : (runes s).length ≤ 1000) (hg : BGood b.bl) (w : World) (hb : Stb w [] (BkIn b)) :
   Calls Tryz.prog 99 #[val b, .string s] w fun e w' => ∃ y : SlV × SlV, e = .returned (.tuple #[y.1.v, y.2.v]) ∧ True ∧ Cl w [] [ownL 23 y.1.v ((List.range (runes s).length).map fun i => (ruleX b.bl (runes s) i).p), ownL 3 y.2.v ((List.range (runes s).length).map fun i => ruleN b.bl (runes s) i)] w' := by
 obtain ⟨ws, hws⟩ : ∃ ws, runes s = ws := ⟨_, rfl⟩
 rw [hws] at hn
 rw [hws]
 refine calls_cw (vs := [_, _]) Tryz.func99 rfl Tryz.ntmps99 rfl (Cl.start0 w) (zr ?_)
 refine sw_x rfl rfl rfl (e_box rfl rfl rfl) (fun b2 => ?_)
 refine za rfl (za rfl (nP (zr (zm rfl ?_))))
 refine sw_x rfl rfl rfl (e_call (CanCall.mk Tryz.call110) rfl (.k rfl (.nil)) (fun w hw => letters_spec2 _ _ hws w (by omega))) (fun x14 => ?_)
 refine sw_imp (fun hx14 => ?_)
 refine za rfl (nP (cw_seq ?_))
 refine cw_cut (S := SlV × SlV) (fun y => [(2, [], .pointer (some ⟨b2, 0, none⟩)), (6, [], x14.v), (7, [], y.1.v), (8, [], y.2.v)]) (fun y => Cl w [] [ownL 23 y.1.v (List.replicate ws.length (⟨none, 0, 0⟩ : SlV)), ownL 3 y.2.v (List.replicate ws.length (0 : Int)), ownL 21 x14.v ws, blk b2 [b.b.v] 45]) (fun _ => True) ?_ ?_
 · refine cw_region_a (Cl w [] [ownL 21 x14.v ws, blk b2 [b.b.v] 45]) [] mixed_Tryz ?_
   refine zp 0 rfl (q_move rfl rfl) ?_
   refine zk 1 (Cl.sel (by exact .take 0 rfl (.take 0 rfl (.nil _)))) rfl (q_len rfl (.k rfl (.nil)) (rdO (by exact .head _))) ?_
   refine zp 3 rfl (q_move rfl rfl) ?_
   refine zk 4 (Cl.sel (by exact .take 0 rfl (.take 0 rfl (.nil _)))) rfl (q_len rfl (.k rfl (.nil)) (rdO (by exact .head _))) ?_
   refine aw_two 2 5 (by kernel_rfl) ?_ ?_
   · refine at_x 2 rfl rfl rfl rfl (e_make (α := SlV) (zero := ⟨none, 0, 0⟩) rfl rfl rfl rfl rfl (by omega) (by omega) (by decide)) (by intro hb; exact fun _ => (Cl.sel (by exact .take 1 rfl (.take 1 rfl (.nil _))))) (fun s17 => ?_)
     refine zp 6 rfl (q_assign rfl rfl) ?_
     refine aw_x 5 (by kernel_rfl) rfl rfl rfl rfl (e_make (α := Int) (zero := 0) rfl rfl rfl rfl rfl (by omega) (by omega) (by decide)) (by intro hb; exact fun _ => (Cl.sel (by exact .take 2 rfl (.take 2 rfl (.nil _))))) (fun s20 => ?_)
     refine zp 7 rfl (q_assign rfl rfl) ?_
     refine aw_end (by kernel_rfl) ?_
     exact post_meet (s17, s20) (by exact .cons rfl (.cons rfl (.cons rfl (.cons rfl .nil)))) (fun w' h => (Cl.sel (by exact .take 1 rfl (.take 0 rfl (.take 0 rfl (.take 0 rfl (.nil _)))))) _ h) trivial
   · refine at_x 5 rfl rfl rfl rfl (e_make (α := Int) (zero := 0) rfl rfl rfl rfl rfl (by omega) (by omega) (by decide)) (by intro hb; exact fun _ => (Cl.sel (by exact .take 1 rfl (.take 1 rfl (.nil _))))) (fun s20 => ?_)
     refine aw_x 2 (by kernel_rfl) rfl rfl rfl rfl (e_make (α := SlV) (zero := ⟨none, 0, 0⟩) rfl rfl rfl rfl rfl (by omega) (by omega) (by decide)) (by intro hb; exact fun _ => (Cl.sel (by exact .take 2 rfl (.take 2 rfl (.nil _))))) (fun s17 => ?_)
     refine zp 6 rfl (q_assign rfl rfl) ?_
     refine zp 7 rfl (q_assign rfl rfl) ?_
     refine aw_end (by kernel_rfl) ?_
     exact post_meet (s17, s20) (by exact .cons rfl (.cons rfl (.cons rfl (.cons rfl .nil)))) (fun w' h => (Cl.sel (by exact .take 0 rfl (.take 0 rfl (.take 0 rfl (.take 0 rfl (.nil _)))))) _ h) trivial
 rintro y _
 refine post_then (cw_seq (zr (zm rfl ?_)))
 refine zS rfl (q_len rfl (.k rfl (.nil)) (rdO (by exact .tail _ (.tail _ (.head _))))) ?_
 refine zm rfl (nP (cw_block ?_))
 refine cw_loop (S := Nat) (fun k => [(2, [], .pointer (some ⟨b2, 0, none⟩)), (6, [], x14.v), (7, [], y.1.v), (8, [], y.2.v), (22, [], .int .i64 ws.length), (23, [], .int .i64 k)]) (fun k => Cl w [] [ownL 23 y.1.v (tabT (fun i => (ruleX b.bl ws i).p) ⟨none, 0, 0⟩ k ws.length), ownL 3 y.2.v (tabT (fun i => ruleN b.bl ws i) 0 k ws.length), ownL 21 x14.v ws, blk b2 [b.b.v] 45]) (fun k => k ≤ ws.length) (fun k => ws.length - k) 0 (Nat.zero_le _) (by exact .cons rfl (.cons rfl (.cons rfl (.cons rfl (.cons rfl (.cons rfl .nil)))))) (fun w' h => by rw [← tabT_zero, ← tabT_zero]; exact h) ?_
 intro k hk
 refine zr (zS rfl (q_lss rfl rfl rfl) (nP (cw_seq ?_)))
 refine cw_cond rfl (fun h => ?_) (fun h => ?_)
 · have hk' : k < ws.length := by simp at h; omega
   have hl1 := tabT_len (fun i => (ruleX b.bl ws i).p) (⟨none, 0, 0⟩ : SlV) k ws.length
   have hl2 := tabT_len (fun i => ruleN b.bl ws i) 0 k ws.length
   have hkb : k ≤ 1000000 := by omega
   refine sP (cw_seq (cw_block (zr (zm rfl (za rfl (nP (cw_seq (cw_region ?_))))))))
   refine zS rfl (q_loadA rfl rfl (by exact .tail _ (.tail _ (.tail _ (.head _)))) rfl) ?_
   refine zm rfl (zm rfl ?_)
   refine sw_step rfl rfl rfl (q_call (CanCall.mk Tryz.call138) rfl (.k rfl (.k rfl (.k rfl (.nil)))) (fun _ w hw => callq hw (matching_spec _ _ _ _ (by assumption) (by omega) (by assumption) w (stb_arg hw (by assumption)) (by exact stb_own hw (by exact .tail _ (.tail _ (.head _))))))) ?_
   refine zm rfl (zS rfl (q_extract rfl rfl rfl) (zS rfl (q_extract rfl rfl rfl) (zS rfl (q_extract rfl rfl rfl) ?_)))
   refine sw_x rfl rfl rfl (e_alloc rfl) (fun b10 => ?_)
   refine sw_eff0 rfl rfl (e_store (i := 0) rfl rfl rfl rfl rfl rfl rfl rfl) (za rfl (za rfl (nP (zr (zm rfl (zm rfl ?_))))))
   refine zS rfl (q_indexN rfl rfl rfl (rdO (by exact .tail _ (.tail _ (.head _)))) (by intro hc; omega)) ?_
   refine sw_eff0 rfl rfl (e_storeEl1 (i := 2) rfl rfl rfl rfl rfl (by omega)) ?_
   refine nP (zr (zm rfl (sw_nil (post_then ?_))))
   refine cw_cond rfl (fun h2 => ?_) (fun h2 => ?_)
   · have hLr : Stb w [] (RdL (mtL b.bl (nth ws k).v).r.v (mtL b.bl (nth ws k).v).rl) := stb_map hb fun _ h => (h.2 _ (mt_mem h2)).1
     have hix := mt_idx hg h2
     have e1 : (ruleX b.bl ws k).p = (nth (mtL b.bl (nth ws k).v).rl (mtI b.bl ws k).toNat).p := by simp [ruleX, h2]
     have e2 : ruleN b.bl ws k = mtI b.bl ws k := by simp [ruleN, h2]
     have e3 := tabT_set (fun i => (ruleX b.bl ws i).p) (⟨none, 0, 0⟩ : SlV) hk'
     have e4 := tabT_set (fun i => ruleN b.bl ws i) 0 hk'
     refine cw_region (zm rfl (zm rfl (zm rfl (zm rfl (zS rfl (q_fieldAddr rfl rfl) ?_)))))
     refine zS rfl (q_loadC rfl rfl (by exact .head _) rfl) ?_
     refine zm rfl ?_
     refine zS rfl (q_index rfl rfl rfl (stA (by assumption)) (by intro hc; omega)) ?_
     refine zS rfl (q_fieldEl rfl rfl (stA (by assumption)) (by intro hc; omega)) ?_
     refine zS rfl (q_loadF rfl rfl rfl (stA (by assumption)) (by intro hc; omega) rfl) ?_
     refine zm rfl ?_
     refine zS rfl (q_indexN rfl rfl rfl (rdO (by exact .tail _ (.head _))) (by intro hc; omega)) ?_
     refine sw_eff0 rfl rfl (e_storeEl1 (i := 1) rfl rfl rfl rfl rfl (by omega)) ?_
     refine zS rfl (q_indexN rfl rfl rfl (rdO (by exact .tail _ (.tail _ (.head _)))) (by intro hc; (simp only [List.length_set, List.length_append, List.length_cons, List.length_nil, List.length_replicate, List.length_take, List.length_drop, List.length_map]; omega))) ?_
     refine sw_eff0 rfl rfl (e_storeEl1 (i := 2) rfl rfl rfl rfl rfl (by (simp only [List.length_set, List.length_append, List.length_cons, List.length_nil, List.length_replicate, List.length_take, List.length_drop, List.length_map]; omega))) ?_
     refine sw_nil (post_blk (post_then (cw_region ?_)))
     refine zS rfl (q_add rfl rfl rfl (by intro hc; omega)) ?_
     refine zm rfl (sw_nil ?_)
     refine post_next (k + 1) (by exact .cons rfl (.cons rfl (.cons rfl (.cons rfl (.cons rfl (.cons rfl .nil)))))) (fun w' h => ?_) (by omega) (by omega)
     rw [← e3, ← e4]
     rw [e1, e2]
     have h7 : Cl w [] [ownL 23 y.1.v ((tabT (fun i => (ruleX b.bl ws i).p) ⟨none, 0, 0⟩ k ws.length).set k (nth (mtL b.bl (nth ws k).v).rl (mtI b.bl ws k).toNat).p), ownL 3 y.2.v (((tabT (fun i => ruleN b.bl ws i) 0 k ws.length).set k (-1)).set k (mtI b.bl ws k)), ownL 21 x14.v ws, blk b2 [b.b.v] 45] w' := (Cl.sel (by exact .take 1 rfl (.take 1 rfl (.take 1 rfl (.take 1 rfl (.nil _)))))) _ h
     rw [List.set_set] at h7
     exact h7
   · have e1 : (ruleX b.bl ws k).p = ⟨none, 0, 0⟩ := by simp [ruleX, h2]; rfl
     have e2 : ruleN b.bl ws k = -1 := by simp [ruleN, h2]
     have e3 := tabT_skip (g := fun i => (ruleX b.bl ws i).p) (d := (⟨none, 0, 0⟩ : SlV)) (k := k) (n := ws.length) e1
     have e4 := tabT_set (fun i => ruleN b.bl ws i) 0 hk'
     refine cw_skip (post_blk (post_then (cw_region ?_)))
     refine zS rfl (q_add rfl rfl rfl (by intro hc; omega)) ?_
     refine zm rfl (sw_nil ?_)
     refine post_next (k + 1) (by exact .cons rfl (.cons rfl (.cons rfl (.cons rfl (.cons rfl (.cons rfl .nil)))))) (fun w' h => ?_) (by omega) (by omega)
     rw [e3, ← e4]
     rw [e2]
     exact (Cl.sel (by exact .take 1 rfl (.take 1 rfl (.take 1 rfl (.take 1 rfl (.nil _)))))) _ h
 · have hk' : k = ws.length := by simp at h; omega
   subst hk'
   refine cw_exit (post_then_x (post_then_x (post_blk_eq (post_then (zr (zm rfl (zm rfl (za rfl (za rfl (nP (cw_ret (post_ret2 rfl (resOk_tmp rfl) (resOk_tmp rfl) ?_))))))))))))
   exact fun w' hw => ⟨y, rfl, trivial, by rw [← tabT_all (d := (⟨none, 0, 0⟩ : SlV)), ← tabT_all (d := (0 : Int))]; exact (Cl.sel (by exact .take 0 rfl (.take 0 rfl (.nil _)))) _ hw⟩
theorem nth_range {α : Type} [Inhabited α] (f : Nat → α) {n k : Nat} (hk : k < n) : nth ((List.range n).map f) k = f k := by
 rw [nth_get (by simpa using hk)]; simp
def soundF (bl : List Let) (ws : List Rn) (i : Nat) : List Snd := (ruleX bl ws i).pl.map fun ph => ⟨ph, i, 3, ruleN bl ws i⟩
def sayC (bl : List Let) (ws : List Rn) : List Snd := (List.range ws.length).flatMap (soundF bl ws)
theorem range_flat {α : Type} (f : Nat → List α) (k : Nat) : (List.range (k + 1)).flatMap f = (List.range k).flatMap f ++ f k := by
 rw [List.range_succ, List.flatMap_append]; simp
theorem flat_bd {α : Type} (f : Nat → List α) {B : Nat} (h : ∀ i, (f i).length ≤ B) : ∀ k, ((List.range k).flatMap f).length ≤ k * B
 | 0 => by simp
 | k + 1 => by
   rw [range_flat, List.length_append, Nat.succ_mul]
   have := flat_bd f h k
   have := h k
   omega
theorem blkIs_stb {α : Type} [Enc α] {b k : Nat} {y : α} {w : World} {fp : List Nat} {cells : List Value} {t : TypeId} (h : Stb w fp (BlkAt b cells t)) (hc : ∀ j v, (enc y)[j]? = some v → cells[k + j]? = some v) : Stb w fp (BlkIs b k y) := ⟨fun w' h' => blkIs_of (h.stb w' h') hc⟩
theorem rules_spec (bs : Nat) (lx : SlV) (b : Bk) (s : ByteArray) (hs : s.size ≤ 1000000) (hn : (runes s).length ≤ 80) (hg : BGood b.bl) (w : World) (hsp : Stb w [] (BlkAt bs [lx.v, b.b.v] 131)) (hb : Stb w [] (BkIn b)) :
   Calls Tryz.prog 79 #[.pointer (some ⟨bs, 0, none⟩), .string s] w fun e w' => ∃ r : SlV, e = .returned (.tuple #[r.v, .bool true]) ∧ True ∧ Cl w [] [ownL 136 r.v (sayC b.bl (runes s))] w' := by
 have hbi : Stb w [] (BlkIs bs 1 b) := blkIs_stb hsp fun j v hj => by
   match j, hj with
   | 0, hj => simpa [Enc.enc] using hj
   | j + 1, hj => simp [Enc.enc] at hj
 refine calls_cw (vs := [_, _]) Tryz.func79 rfl Tryz.ntmps79 rfl (Cl.start0 w) (zr (za rfl (za rfl (nP (cw_seq (cw_region (zm rfl (zS rfl (q_nilCheck rfl rfl) (zS rfl (q_fieldAddr rfl rfl) ?_)))))))))
 refine zS rfl (q_loadI rfl rfl (fun w hw => Stb.cl (by assumption) hw)) ?_
 refine zm rfl ?_
 refine sw_x rfl rfl rfl (e_call (CanCall.mk Tryz.call99) rfl (.k rfl (.k rfl (.nil))) (fun w1 hw => said_spec b s hs (by omega) hg w1 (stb_arg hw hb))) (fun y19 => ?_)
 refine sw_imp fun _ => (zm rfl (zS rfl (q_extract rfl rfl rfl) (zS rfl (q_extract rfl rfl rfl) (za rfl (za rfl (nP (zr (za rfl (sw_nil (post_then (cw_seq (cw_seq (cw_region (zm rfl ?_))))))))))))))
 refine zS rfl (q_len rfl (.k rfl (.nil)) (rdO (by exact .head _))) ?_
 refine zm rfl (nP (cw_block ?_))
 have hl1 : ((List.range (runes s).length).map fun i => (ruleX b.bl (runes s) i).p).length = (runes s).length := by simp
 have hl2 : ((List.range (runes s).length).map fun i => ruleN b.bl (runes s) i).length = (runes s).length := by simp
 obtain ⟨ws, hws⟩ : ∃ ws, runes s = ws := ⟨_, rfl⟩
 rw [hws] at hn hl1 hl2 ⊢
 rw [hl1]
 have hfb : ∀ i, (soundF b.bl ws i).length ≤ 1000 := fun i => by simp [soundF]; exact rule_small hg
 refine cw_loop (S := Nat × SlV × List Snd) (fun z => [(7, [], y19.2.v), (8, [], z.2.1.v), (22, [], y19.1.v), (23, [], .int .i64 ws.length), (24, [], .int .i64 z.1)]) (fun z => Cl w [] [ownL 136 z.2.1.v z.2.2, ownL 23 y19.1.v ((List.range ws.length).map fun i => (ruleX b.bl ws i).p), ownL 3 y19.2.v ((List.range ws.length).map fun i => ruleN b.bl ws i)]) (fun z => z.1 ≤ ws.length ∧ z.2.2 = (List.range z.1).flatMap (soundF b.bl ws)) (fun z => ws.length - z.1) (0, ⟨none, 0, 0⟩, []) ⟨Nat.zero_le _, rfl⟩ (by exact .cons rfl (.cons rfl (.cons rfl (.cons rfl (.cons rfl .nil))))) (fun w' h => Cl.addNil 136 h) ?_
 rintro ⟨k, so, out⟩ ⟨hk, hout⟩
 dsimp only at hk hout ⊢
 refine zr (zS rfl (q_lss rfl rfl rfl) (nP (cw_seq ?_)))
 refine cw_cond rfl (fun h => ?_) (fun h => ?_)
 · have hk' : k < ws.length := by simp at h; omega
   have hx1 : nth ((List.range ws.length).map fun i => (ruleX b.bl ws i).p) k = (ruleX b.bl ws k).p := nth_range _ hk'
   have hx2 : nth ((List.range ws.length).map fun i => ruleN b.bl ws i) k = ruleN b.bl ws k := nth_range _ hk'
   have hX : Stb w [] (RdL (ruleX b.bl ws k).p.v (ruleX b.bl ws k).pl) := ⟨fun w' h => rule_in hg (hb.stb w' h)⟩
   have hXl : (ruleX b.bl ws k).pl.length ≤ 1000 := rule_small hg
   have hfl : (soundF b.bl ws k).length = (ruleX b.bl ws k).pl.length := by simp [soundF]
   have hob := flat_bd (soundF b.bl ws) hfb k
   have hob2 : k * 1000 ≤ 80000 := by omega
   refine sP (cw_seq (cw_block (zr (zm rfl ?_))))
   refine zS rfl (q_indexN rfl rfl rfl (rdO (by exact .tail _ (.head _))) (by intro hc; omega)) ?_
   refine zS rfl (q_loadElY hx1 rfl rfl rfl (rdO (by exact .tail _ (.head _))) (by intro hc; omega)) ?_
   refine za rfl (za rfl (nP (zr (zm rfl ?_))))
   refine zS rfl (q_len rfl (.k rfl (.nil)) (stA (by assumption))) ?_
   refine zm rfl (nP (cw_block ?_))
   refine cw_loop (S := Nat × SlV × List Snd) (fun z => [(7, [], y19.2.v), (8, [], z.2.1.v), (22, [], y19.1.v), (23, [], .int .i64 ws.length), (24, [], .int .i64 k), (9, [], .int .i64 k), (29, [], (ruleX b.bl ws k).p.v), (30, [], .int .i64 (ruleX b.bl ws k).pl.length), (31, [], .int .i64 z.1)]) (fun z => Cl w [] [ownL 136 z.2.1.v z.2.2, ownL 23 y19.1.v ((List.range ws.length).map fun i => (ruleX b.bl ws i).p), ownL 3 y19.2.v ((List.range ws.length).map fun i => ruleN b.bl ws i)]) (fun z => z.1 ≤ (ruleX b.bl ws k).pl.length ∧ z.2.2 = (List.range k).flatMap (soundF b.bl ws) ++ (soundF b.bl ws k).take z.1) (fun z => (ruleX b.bl ws k).pl.length - z.1) (0, so, out) ⟨Nat.zero_le _, by rw [hout]; simp⟩ (by exact .cons rfl (.cons rfl (.cons rfl (.cons rfl (.cons rfl (.cons rfl (.cons rfl (.cons rfl (.cons rfl .nil))))))))) (fun w' h => h) ?_
   rintro ⟨j, so, out⟩ ⟨hj, hout⟩
   dsimp only at hj hout ⊢
   refine zr (zS rfl (q_lss rfl rfl rfl) (nP (cw_seq ?_)))
   refine cw_cond rfl (fun h2 => ?_) (fun h2 => ?_)
   · have hj' : j < (ruleX b.bl ws k).pl.length := by simp at h2; omega
     have hol : out.length ≤ 81000 := by rw [hout, List.length_append, List.length_take]; omega
     refine sP (cw_seq (cw_block (zr ?_)))
     refine zS rfl (q_indexN rfl rfl rfl (stA (by assumption)) (by intro hc; omega)) ?_
     refine zS rfl (q_loadEl rfl rfl rfl (stA (by assumption)) (by intro hc; omega)) ?_
     refine za rfl (nP (cw_region (zm rfl (zm rfl (zm rfl (zm rfl (zm rfl ?_)))))))
     refine zS rfl (q_indexN rfl rfl rfl (rdO (by exact .tail _ (.tail _ (.head _)))) (by intro hc; omega)) ?_
     refine zS rfl (q_loadElY hx2 rfl rfl rfl (rdO (by exact .tail _ (.tail _ (.head _)))) (by intro hc; omega)) ?_
     refine zS rfl (q_build rfl (.k rfl (.k rfl (.k rfl (.k rfl (.nil))))) rfl) ?_
     refine sw_x rfl rfl rfl (e_build1 (α := Snd) (x := (⟨nth (ruleX b.bl ws k).pl j, k, 3, ruleN b.bl ws k⟩ : Snd)) rfl rfl rfl rfl) (fun s43 => ?_)
     refine sw_x rfl rfl rfl (e_append (i := 1) rfl (.k rfl (.k rfl (.nil))) rfl rfl (rdO (by exact .head _)) (by first | omega | (simp only [List.length_set, List.length_append, List.length_cons, List.length_nil, List.length_replicate, List.length_take, List.length_drop, List.length_map]; omega)) rfl) (fun s44 => ?_)
     refine za rfl (sw_nil (post_blk (post_then (cw_region ?_))))
     refine zS rfl (q_add rfl rfl rfl (by intro hc; omega)) ?_
     refine zm rfl (sw_nil ?_)
     refine post_next (j + 1, s44, out ++ [(⟨nth (ruleX b.bl ws k).pl j, k, 3, ruleN b.bl ws k⟩ : Snd)]) (by exact .cons rfl (.cons rfl (.cons rfl (.cons rfl (.cons rfl (.cons rfl (.cons rfl (.cons rfl (.cons rfl .nil))))))))) (fun w' h => (Cl.sel (by exact .take 1 rfl (.take 1 rfl (.take 1 rfl (.nil _))))) _ h) ⟨by simp only; omega, ?_⟩ (by simp only; omega)
     simp only
     rw [hout, List.append_assoc, List.take_succ_eq_append_getElem (by omega : j < (soundF b.bl ws k).length)]
     congr 2
     simp [soundF, nth_get hj']
   · have hj' : j = (ruleX b.bl ws k).pl.length := by simp at h2; omega
     refine cw_exit (post_then_x (post_then_x (post_blk_eq (post_blk (post_then (cw_region ?_))))))
     refine zS rfl (q_add rfl rfl rfl (by intro hc; omega)) ?_
     refine zm rfl (sw_nil ?_)
     refine post_next (k + 1, so, out) (by exact .cons rfl (.cons rfl (.cons rfl (.cons rfl (.cons rfl .nil))))) (fun w' h => h) ⟨by simp only; omega, ?_⟩ (by simp only; omega)
     simp only
     rw [hout, range_flat, hj', ← hfl, List.take_length]
 · have hk' : k = ws.length := by simp at h; omega
   refine cw_exit (post_then_x (post_then_x (post_blk_eq (post_then (zr (zm rfl (za rfl (za rfl (nP (cw_ret (post_ret2 rfl (resOk_tmp rfl) (resOk_tmp rfl) ?_)))))))))))
   exact fun w' hw => ⟨so, rfl, trivial, by rw [hk'] at hout; rw [sayC, ← hout]; exact (Cl.sel (by exact .take 0 rfl (.nil _))) _ hw⟩
theorem good_of {bl : List Let} (h : bookOk bl = true) : BGood bl := by
 unfold bookOk at h
 simp only [Bool.and_eq_true, List.all_eq_true] at h
 have key : ∀ L ∈ bl, 1 ≤ L.rl.length ∧ ∀ i, i < L.rl.length → chcOk (decide (i + 1 = L.rl.length)) (nth L.rl i) = true := fun L hL => by
   have := h.2 L hL
   unfold letOk at this
   simp only [Bool.and_eq_true, decide_eq_true_eq, List.all_eq_true, List.mem_range] at this
   exact ⟨this.1.1.2, this.2⟩
 refine ⟨h.1, fun L hL r hr => ?_, fun L hL => ?_, fun L hL r hr => ?_⟩
 · obtain ⟨i, hi, rfl⟩ := List.getElem_of_mem hr
   have := (key L hL).2 i hi
   rw [nth_get hi] at this
   simp only [chcOk, Bool.and_eq_true, testsOk, List.all_eq_true] at this
   intro c hc
   have := this.1.2.1 c hc
   simp [condOk] at this; omega
 · have h1 := (key L hL).1
   refine ⟨nth L.rl (L.rl.length - 1), nth_mem (by omega), ?_⟩
   have := (key L hL).2 (L.rl.length - 1) (by omega)
   simp only [chcOk, Bool.and_eq_true, beq_iff_eq] at this
   have h2 := this.1.1.1
   rw [decide_eq_true (show L.rl.length - 1 + 1 = L.rl.length by omega)] at h2
   simpa using h2
 · obtain ⟨i, hi, rfl⟩ := List.getElem_of_mem hr
   have := (key L hL).2 i hi
   rw [nth_get hi] at this
   simp [chcOk, phonesOk] at this; omega
theorem good_small {bl : List Let} (h : bookOk bl = true) (ws : List Rn) (i : Nat) : (ruleX bl ws i).pl.length ≤ 3 := by
 have hg := good_of h
 unfold ruleX
 split
 · rename_i h2
   have h3 := mt_idx hg h2
   have h4 := mt_mem h2
   unfold bookOk at h
   simp only [Bool.and_eq_true, List.all_eq_true] at h
   have := h.2 _ h4
   unfold letOk at this
   simp only [Bool.and_eq_true, decide_eq_true_eq, List.all_eq_true, List.mem_range] at this
   have := this.2 (mtI bl ws i).toNat (by omega)
   simp [chcOk, phonesOk] at this; omega
 · exact Nat.zero_le _
def sayR (bl : List Let) (s : ByteArray) : List Snd := if bookOk bl && wordOk s then sayC bl (runes s) else []
def sayE (bl : List Let) (s : ByteArray) : Int := if bookOk bl && wordOk s then 0 else 2
theorem say_spec (b : Bk) (s : ByteArray) (hs : s.size ≤ 1000000) (w : World) (hT : Stb w [] Tab) (hb : Stb w [] (BkIn b)) :
   Calls Tryz.prog 37 #[val b, .string s] w fun e w' => ∃ r : SlV, e = .returned (.tuple #[r.v, .int .i64 (sayE b.bl s)]) ∧ True ∧ Cl w [] [ownL 136 r.v (sayR b.bl s)] w' := by
 have hs2 : s.size ≤ 9223372036854775806 := by omega
 refine calls_cw (vs := [_, _]) Tryz.func37 rfl Tryz.ntmps37 rfl (Cl.start0 w) (zr ?_)
 refine sw_x rfl rfl rfl (e_box rfl rfl rfl) (fun b2 => ?_)
 refine za rfl (za rfl (nP (cw_seq (zr ?_))))
 refine zS rfl (q_loadA rfl rfl (by exact .head _) rfl) ?_
 refine sw_step rfl rfl rfl (q_call (CanCall.mk Tryz.call33) rfl (.k rfl (.nil)) (fun _ w hw => callq hw (validBook_spec _ w (stb_arg hw (by assumption))))) ?_
 refine zS rfl (q_not rfl rfl) (zm rfl (zm rfl ?_))
 refine sw_step rfl rfl rfl (q_call (CanCall.mk Tryz.call62) rfl (.k rfl (.nil)) (fun _ w hw => callq hw (isWord_spec _ w (by assumption) (stb_arg hw (by assumption))))) ?_
 refine zS rfl (q_not rfl rfl) (zS rfl (q_or2 rfl rfl rfl) (nP ?_))
 refine cw_cond rfl (fun h => ?_) (fun h => ?_)
 · have h1 : (bookOk b.bl && wordOk s) = false := by
     cases h2 : bookOk b.bl <;> cases h3 : wordOk s <;> simp [h2, h3] at h ⊢
   have e1 : sayE b.bl s = 2 := by unfold sayE; rw [h1]; rfl
   have e2 : sayR b.bl s = [] := by unfold sayR; rw [h1]; rfl
   refine zr (za rfl (za rfl (nP (cw_ret (post_then_r (post_ret2 rfl (resOk_tmp rfl) (resOk_tmp rfl) ?_))))))
   exact fun w' hw => ⟨⟨none, 0, 0⟩, by rw [e1]; rfl, trivial, by rw [e2]; exact Cl.addNil 136 ((Cl.sel (by exact .nil _)) _ hw)⟩
 · have h1 : bookOk b.bl = true ∧ wordOk s = true := by
     cases h2 : bookOk b.bl <;> cases h3 : wordOk s <;> simp [h2, h3] at h ⊢
   have e1 : sayE b.bl s = 0 := by unfold sayE; rw [h1.1, h1.2]; rfl
   have e2 : sayR b.bl s = sayC b.bl (runes s) := by unfold sayR; rw [h1.1, h1.2]; rfl
   have hg := good_of h1.1
   have hrl : (runes s).length ≤ 40 := by have := h1.2; simp [wordOk] at this; omega
   have hlen : (sayC b.bl (runes s)).length ≤ 120 := by
     have := flat_bd (soundF b.bl (runes s)) (B := 3) (fun i => by simp [soundF]; exact good_small h1.1 _ _) (runes s).length
     unfold sayC; omega
   refine sP (zr ?_)
   refine zS rfl (q_loadA rfl rfl (by exact .head _) rfl) ?_
   refine zS rfl (q_build rfl (.k rfl (.nil)) rfl) ?_
   refine sw_x rfl rfl rfl (e_box rfl rfl rfl) (fun b19 => ?_)
   refine zm rfl ?_
   refine sw_x rfl rfl rfl (e_call (CanCall.mk Tryz.call79) rfl (.k rfl (.k rfl (.nil))) (fun w1 hw => rules_spec b19 ⟨none, 0, 0⟩ b s hs (by omega) hg w1 (stb_blk hw (by exact .head _)) (stb_arg hw hb))) (fun s21 => ?_)
   refine sw_imp fun _ => (zm rfl (zS rfl (q_extract rfl rfl rfl) (zS rfl (q_extract rfl rfl rfl) (za rfl (za rfl (nP (cw_seq (zr (zm rfl ?_)))))))))
   refine zS rfl (q_len rfl (.k rfl (.nil)) (rdO (by exact .head _))) ?_
   refine zS rfl (q_gtr rfl rfl rfl) (nP ?_)
   refine cw_cond rfl (fun h2 => ?_) (fun h2 => ?_)
   · exfalso
     simp at h2; omega
   · refine sP (zr (zm rfl (za rfl (za rfl (nP (cw_ret (post_ret2 rfl (resOk_tmp rfl) (resOk_tmp rfl) ?_)))))))
     exact fun w' hw => ⟨s21, by rw [e1]; rfl, trivial, by rw [e2]; exact (Cl.sel (by exact .take 0 rfl (.nil _))) _ hw⟩
end Go.Proofs.YtkmbliojafefdaaGreatDoor

set_option autoImplicit false
set_option maxRecDepth 100000
namespace Go.Proofs.YtkmbliojafefdaaGreatDoor
open Go.Sx
open Enc (enc val)
def PredN (P : Program) {α : Type} [Enc α] [Inhabited α] (g : FuncId) (cap : Array Value) (p : Nat → Bool) (R : World → Prop) (xs : List α) : Prop := ∀ i, i < xs.length → ∀ w, R w → Calls P g ([val (nth xs i)].toArray ++ cap) w fun e w' => e = .returned (.bool (p i)) ∧ Cl w [] [] w'
theorem nth_rangeN {n i : Nat} (h : i < n) : nth (List.range n) i = i := by rw [nth_get (by simpa using h)]; simp
theorem hasN_index (sv : Value) (xs : List SlV) (g : FuncId) (cap : Array Value) (p : Nat → Bool) (R : World → Prop) (w : World) (hs : Stb w [] (RdL sv xs)) (hR : Stb w [] R) (hgc : CanCall Tryz.prog g) (hg : PredN Tryz.prog g cap p R xs) :
   Calls Tryz.prog 126 #[sv, .func (.func g) #[] cap] w fun e w' => e = .returned (.int .i64 (idxP p (List.range xs.length))) ∧ Cl w [] [] w' := by
 have hL := rd_len hs.here
 have hrl : (List.range xs.length).length = xs.length := List.length_range
 refine calls_cw (vs := [_, _]) Tryz.func126 rfl Tryz.ntmps126 rfl (Cl.start0 w) (zr (za rfl (nP (cw_seq (cw_seq (cw_region (zm rfl ?_)))))))
 refine zS rfl (q_len rfl (.k rfl (.nil)) (stA (by assumption))) ?_
 refine zm rfl (nP (cw_block ?_))
 refine cw_loop (S := Nat) (fun k => [(0, [], sv), (1, [], .func (.func g) #[] cap), (7, [], .int .i64 xs.length), (8, [], .int .i64 k)]) (fun _ => Cl w [] []) (fun k => k ≤ xs.length ∧ ∀ j, j < k → p j = false) (fun k => xs.length - k) 0 ⟨by omega, fun j hj => by omega⟩ (by exact .cons rfl (.cons rfl (.cons rfl (.cons rfl .nil)))) (fun _ h => h) ?_
 rintro k ⟨hk, hbe⟩
 refine zr (zS rfl (q_lss rfl rfl rfl) (nP (cw_seq ?_)))
 refine cw_cond rfl (fun h => ?_) (fun h => ?_)
 · have hk' : k < xs.length := by simp only [decide_eq_true_eq] at h; omega
   refine sP (cw_seq (cw_block (zr (zm rfl (za rfl (nP (cw_seq (cw_region (zm rfl (zm rfl (zm rfl ?_)))))))))))
   refine zS rfl (q_indexN rfl rfl rfl (stA (by assumption)) (by intro hc; omega)) ?_
   refine zS rfl (q_loadEl rfl rfl rfl (stA (by assumption)) (by intro hc; omega)) ?_
   refine sw_step rfl rfl rfl (q_callv hgc rfl rfl (.k rfl (.nil)) (fun _ w' hw => callq hw (hg k hk' w' (hR.cl hw)))) (nP ?_)
   refine cw_cond rfl (fun h2 => ?_) (fun h2 => ?_)
   · refine zr (zm rfl (za rfl (nP (cw_ret (post_blk_r (post_then_r (post_then_r (post_blk_r (post_then_r (post_ret1 rfl (resOk_tmp rfl) ?_))))))))))
     exact fun w' hw => ⟨by rw [idxP_at (k := k) (by omega) (fun j hj => by rw [nth_rangeN (by omega)]; exact hbe j hj) (by rw [nth_rangeN hk']; exact h2)], hw⟩
   · refine cw_skip (post_blk (post_then (cw_region ?_)))
     refine zS rfl (q_add rfl rfl rfl (by intro hc; omega)) ?_
     refine zm rfl (sw_nil ?_)
     refine post_next (k + 1) (by exact .cons rfl (.cons rfl (.cons rfl (.cons rfl .nil)))) (fun _ h => h) ⟨by omega, fun j hj => ?_⟩ (by omega)
     by_cases hjk : j = k
     · rw [hjk]; exact h2
     · exact hbe j (by omega)
 · have hk' : k = xs.length := by simp only [decide_eq_false_iff_not] at h; omega
   subst hk'
   refine cw_exit (post_then_x (post_then_x (post_blk_eq (post_then (zr (za rfl (nP (cw_ret (post_ret1 rfl (resOk_tmp rfl) ?_)))))))))
   exact fun w' hw => ⟨by rw [idxP_none (fun j hj => by rw [hrl] at hj; rw [nth_rangeN hj]; exact hbe j hj)], hw⟩
theorem hasN_spec (sv : Value) (xs : List SlV) (g : FuncId) (cap : Array Value) (p : Nat → Bool) (R : World → Prop) (w : World) (hs : Stb w [] (RdL sv xs)) (hR : Stb w [] R) (hgc : CanCall Tryz.prog g) (hg : PredN Tryz.prog g cap p R xs) :
   Calls Tryz.prog 85 #[sv, .func (.func g) #[] cap] w fun e w' => e = .returned (.bool ((List.range xs.length).any p)) ∧ Cl w [] [] w' := by
 refine calls_cw (vs := [_, _]) Tryz.func85 rfl Tryz.ntmps85 rfl (Cl.start0 w) (zr (za rfl (nP (cw_seq (cw_region (zm rfl (zm rfl ?_)))))))
 refine sw_step rfl rfl rfl (q_call (CanCall.mk Tryz.call126) rfl (.k rfl (.k rfl (.nil))) (fun _ w hw => callq hw (hasN_index _ _ _ _ _ _ w (by exact stb_arg hw (by assumption)) (stb_arg hw hR) hgc hg))) ?_
 refine zS rfl (q_geq rfl rfl rfl) (za rfl (nP (cw_ret (post_ret1 rfl (resOk_tmp rfl) ?_))))
 exact fun w' hw => ⟨by rw [idxP_any], hw⟩
theorem any_range {α : Type} [Inhabited α] (p : α → Bool) (l : List α) : ((List.range l.length).any fun i => !p (nth l i)) = !l.all p := by
 rw [Bool.eq_iff_iff, List.any_eq_true]
 simp only [Bool.not_eq_true', List.all_eq_false, List.mem_range]
 constructor
 · rintro ⟨i, hi, h⟩; exact ⟨_, nth_mem hi, by simp [h]⟩
 · rintro ⟨x, hx, h⟩
   obtain ⟨i, hi, rfl⟩ := List.getElem_of_mem hx
   exact ⟨i, hi, by rw [nth_get hi]; simpa using h⟩
theorem dnot {a b : Prop} [Decidable a] [Decidable b] (h : a → ¬ b) (h' : ¬ a → b) : decide a = !decide b := by
 by_cases ha : a
 · have := h ha; simp [ha, this]
 · have := h' ha; simp [ha, this]
def accOk (x : Fgn) : Bool := phonesOk [x.phone] 1 && decide (1 ≤ x.sl.length) && decide (x.sl.length ≤ 5) && x.sl.all fun p => phonesOk p 3
def foreignOk (a : List Fgn) : Bool := decide (a.length ≤ 200) && riseB (fun x y : Fgn => cmpS x.phone y.phone) a && a.all accOk
def FgnIn (x : Fgn) (w : World) : Prop := RdRR x.s.v x.sl w
theorem step_spec (vs : List SlV) (ll : List (List ByteArray)) (hl : vs.length = ll.length) : PredN Tryz.prog 131 #[] (fun i => !phonesOk (nth ll i) 3) (fun w => RdR vs ll w) vs := by
 intro i hi w hR
 have h1 : Stb w [] (RdL (nth vs i).v (nth ll i)) := rd_stb (hR.2 i (by omega))
 refine calls_cw (vs := [_]) Tryz.func131 rfl Tryz.ntmps131 rfl (Cl.start0 w) (zr (za rfl (nP (cw_seq (cw_region (zm rfl ?_))))))
 refine sw_step rfl rfl rfl (q_call (CanCall.mk Tryz.call63) rfl (.k rfl (.k rfl (.nil))) (fun _ w hw => callq hw (phones_spec _ _ _ w (by exact stb_arg hw (by assumption))))) ?_
 refine zS rfl (q_not rfl rfl) (za rfl (nP (cw_ret (post_ret1 rfl (resOk_tmp rfl) ?_))))
 exact fun w' hw => ⟨rfl, hw⟩
theorem rdR_stb {α : Type} [Enc α] {vs : List SlV} {ll : List (List α)} {w : World} (h : RdR vs ll w) : Stb w [] (RdR vs ll) := ⟨fun w' k => ⟨h.1, fun i hi => (rd_stb (h.2 i hi)).stb w' k⟩⟩
theorem acc_spec (l : List Fgn) : PredL Tryz.prog 130 #[] (fun x => !accOk x) (fun w => ∀ u ∈ l, FgnIn u w) l := by
 intro x hx w hR
 obtain ⟨vs, h1, h2⟩ := hR x hx
 have h1 := rd_stb h1
 have h2 := rdR_stb h2
 have hl := h2.here.1
 have hL := rd_len h1.here
 refine calls_cw (vs := [_]) Tryz.func130 rfl Tryz.ntmps130 rfl (Cl.start0 w) (zr ?_)
 refine sw_x rfl rfl rfl (e_box rfl rfl rfl) (fun b1 => ?_)
 refine za rfl (nP (zr (zS rfl (q_fieldAddr rfl rfl) ?_)))
 refine zS rfl (q_loadC rfl rfl (by exact .head _) rfl) ?_
 refine sw_x rfl rfl rfl (e_build1 (α := ByteArray) rfl rfl rfl rfl) (fun s5 => ?_)
 refine sw_step rfl rfl rfl (q_call (CanCall.mk Tryz.call63) rfl (.k rfl (.k rfl (.nil))) (fun _ w hw => callq hw (phones_spec _ _ _ w (by exact stb_own hw (by exact .head _))))) ?_
 refine zS rfl (q_not rfl rfl) (zm rfl (zS rfl (q_fieldAddr rfl rfl) ?_))
 refine zS rfl (q_loadC rfl rfl (by exact .tail _ (.head _)) rfl) ?_
 refine zS rfl (q_len rfl (.k rfl (.nil)) (stA (by assumption))) ?_
 refine zS rfl (q_lss rfl rfl rfl) (zS rfl (q_or2 rfl rfl rfl) (zm rfl (zS rfl (q_fieldAddr rfl rfl) ?_)))
 refine zS rfl (q_loadC rfl rfl (by exact .tail _ (.head _)) rfl) ?_
 refine zS rfl (q_len rfl (.k rfl (.nil)) (stA (by assumption))) ?_
 refine zS rfl (q_gtr rfl rfl rfl) (zS rfl (q_or2 rfl rfl rfl) (zm rfl (zS rfl (q_fieldAddr rfl rfl) ?_)))
 refine zS rfl (q_loadC rfl rfl (by exact .tail _ (.head _)) rfl) ?_
 refine sw_step rfl rfl rfl (q_call (CanCall.mk Tryz.call85) rfl (.k rfl (.k rfl (.nil))) (fun _ w hw => callq hw (hasN_spec _ vs _ _ _ _ w (stb_arg hw h1) (stb_arg hw h2) (CanCall.mk Tryz.call131) (step_spec vs x.sl hl)))) (zS rfl (q_or2 rfl rfl rfl) (za rfl (nP (cw_ret (post_ret1 rfl (resOk_tmp rfl) ?_)))))
 refine fun w' hw => ⟨?_, (Cl.sel (by exact .nil _)) _ hw⟩
 congr 2
 rw [hl, any_range (fun p => phonesOk p 3)]
 unfold accOk
 have e1 : decide ((x.sl.length : Int) < 1) = !decide (1 ≤ x.sl.length) := dnot (fun h => by omega) (fun h => by omega)
 have e2 : decide (5 < (x.sl.length : Int)) = !decide (x.sl.length ≤ 5) := dnot (fun h => by omega) (fun h => by omega)
 rw [e1, e2]
 dsimp only
 cases phonesOk [x.phone] 1 <;> cases decide (1 ≤ x.sl.length) <;> cases decide (x.sl.length ≤ 5) <;> simp
theorem accCmp_spec (l : List Fgn) : CmpL Tryz.prog 128 #[] (fun x y : Fgn => cmpS x.phone y.phone) (fun _ => True) l := by
 intro x _ y _ w _
 refine calls_cw (vs := [_, _]) Tryz.func128 rfl Tryz.ntmps128 rfl (Cl.start0 w) (zr ?_)
 refine sw_x rfl rfl rfl (e_box rfl rfl rfl) (fun b2 => ?_)
 refine sw_x rfl rfl rfl (e_box rfl rfl rfl) (fun b3 => ?_)
 refine za rfl (nP (zr (zS rfl (q_fieldAddr rfl rfl) ?_)))
 refine zS rfl (q_loadC rfl rfl (by exact .tail _ (.head _)) rfl) ?_
 refine zS rfl (q_fieldAddr rfl rfl) ?_
 refine zS rfl (q_loadC rfl rfl (by exact .head _) rfl) ?_
 refine sw_step rfl rfl rfl (q_call (CanCall.mk Tryz.call94) rfl (.k rfl (.k rfl (.nil))) (fun _ w hw => callq hw (strCmp_spec _ _ w))) (za rfl (nP (cw_ret (post_ret1 rfl (resOk_tmp rfl) ?_))))
 exact fun w' hw => ⟨rfl, (Cl.sel (by exact .nil _)) _ hw⟩
theorem foreign_spec (sv : Value) (l : List Fgn) (w : World) (hs : Stb w [] (RdL sv l)) (hp : Stb w [] fun w' => ∀ u ∈ l, FgnIn u w') : Calls Tryz.prog 91 #[sv] w fun e w' => e = .returned (.bool (foreignOk l)) ∧ Cl w [] [] w' := by
 have hL := rd_len hs.here
 refine calls_cw (vs := [_]) Tryz.func91 rfl Tryz.ntmps91 rfl (Cl.start0 w) (zr (za rfl (nP (cw_seq (cw_region (zm rfl ?_))))))
 refine zS rfl (q_len rfl (.k rfl (.nil)) (stA (by assumption))) ?_
 refine zS rfl (q_leq rfl rfl rfl) (zm rfl (zm rfl ?_))
 refine sw_step rfl rfl rfl (q_call (CanCall.mk Tryz.call127) rfl (.k rfl (.k rfl (.nil))) (fun _ w hw => callq hw (riseFgn_spec _ _ _ _ _ _ w (by exact stb_arg hw (by assumption)) (stb_true w []) (CanCall.mk Tryz.call128) (accCmp_spec l)))) ?_
 refine zS rfl (q_and2 rfl rfl rfl) (zm rfl (zm rfl ?_))
 refine sw_step rfl rfl rfl (q_call (CanCall.mk Tryz.call129) rfl (.k rfl (.k rfl (.nil))) (fun _ w hw => callq hw (hasFgn_spec _ _ _ _ _ _ w (by exact stb_arg hw (by assumption)) (stb_arg hw hp) (CanCall.mk Tryz.call130) (acc_spec l)))) ?_
 refine zS rfl (q_not rfl rfl) (zS rfl (q_and2 rfl rfl rfl) (za rfl (nP (cw_ret (post_ret1 rfl (resOk_tmp rfl) ?_)))))
 refine fun w' hw => ⟨?_, hw⟩
 rw [all_not_any, Bool.not_not]
 unfold foreignOk
 rw [show decide ((l.length : Int) ≤ 200) = decide (l.length ≤ 200) from decide_eq_decide.2 ⟨fun h => by omega, fun h => by omega⟩]
end Go.Proofs.YtkmbliojafefdaaGreatDoor

set_option autoImplicit false
set_option maxRecDepth 100000
namespace Go.Proofs.YtkmbliojafefdaaGreatDoor
open Go.Sx
open Enc (enc val)
theorem cmpS_neg {x y : ByteArray} : cmpS x y < 0 ↔ sLt x y = true := by
 unfold cmpS
 by_cases h : x = y
 · subst h; simp [sLt_irr]
 · rw [if_neg h]; split
   · rename_i h2; simp [h2]
   · rename_i h2; simp [h2]
theorem acc_asc {a : List Fgn} (h : riseB (fun x y : Fgn => cmpS x.phone y.phone) a = true) : ∀ i j, i < j → j < a.length → sLt (nth a i).phone (nth a j).phone = true := by
 have h1 : ∀ k, 1 ≤ k → k < a.length → sLt (nth a (k - 1)).phone (nth a k).phone = true := fun k h0 hk => cmpS_neg.1 (riseB_yes.1 h k h0 hk)
 intro i j hij hj
 induction j with
 | zero => omega
 | succ j ih =>
   have h2 := h1 (j + 1) (by omega) hj
   rw [Nat.add_sub_cancel] at h2
   by_cases h3 : i = j
   · rw [h3]; exact h2
   · exact sLt_trans (ih (by omega) (by omega)) h2
theorem halves_acc {a : List Fgn} (h : riseB (fun x y : Fgn => cmpS x.phone y.phone) a = true) (p : ByteArray) : Halves (fun x : Fgn => cmpS x.phone p) a := fun i j hij hj hc => by
 rw [cmpS_neg] at hc ⊢
 exact sLt_trans (acc_asc h i j hij hj) hc
theorem holdA_spec (l : List Fgn) (p : ByteArray) : CmpT Tryz.prog 93 #[] (.string p) (fun x : Fgn => cmpS x.phone p) (fun _ => True) l := by
 intro u hu w _
 refine calls_cw (vs := [_, _]) Tryz.func93 rfl Tryz.ntmps93 rfl (Cl.start0 w) (zr ?_)
 refine sw_x rfl rfl rfl (e_box rfl rfl rfl) (fun b2 => ?_)
 refine za rfl (nP (zr (zS rfl (q_fieldAddr rfl rfl) ?_)))
 refine zS rfl (q_loadC rfl rfl (by exact .head _) rfl) ?_
 refine zm rfl (sw_step rfl rfl rfl (q_call (CanCall.mk Tryz.call94) rfl (.k rfl (.k rfl (.nil))) (fun _ w hw => callq hw (strCmp_spec _ _ w))) (za rfl (nP (cw_ret (post_ret1 rfl (resOk_tmp rfl) ?_)))))
 exact fun w' hw => ⟨rfl, (Cl.sel (by exact .nil _)) _ hw⟩
def acK (a : List Fgn) (p : ByteArray) : Nat := lowB (fun x : Fgn => cmpS x.phone p) a
def acB (a : List Fgn) (p : ByteArray) : Bool := decide (acK a p < a.length ∧ cmpS (nth a (acK a p)).phone p = 0)
def acF (a : List Fgn) (d : Int) (p : ByteArray) : List ByteArray := if acB a p = true ∧ d ≠ 0 then nth (nth a (acK a p)).sl (min d ((nth a (acK a p)).sl.length : Int) - 1).toNat else [p]
def accentC (a : List Fgn) (l : List ByteArray) (d : Int) : List ByteArray := l.flatMap (acF a d)
theorem take_flat {α β : Type} [Inhabited α] (f : α → List β) {l : List α} {k : Nat} (hk : k < l.length) : (l.take (k + 1)).flatMap f = (l.take k).flatMap f ++ f (nth l k) := by
 rw [List.take_succ_eq_append_getElem hk, List.flatMap_append, nth_get hk]; simp
theorem tflat_bd {α β : Type} (f : α → List β) {B : Nat} (h : ∀ x, (f x).length ≤ B) : ∀ l : List α, (l.flatMap f).length ≤ l.length * B
 | [] => by simp
 | x :: l => by
   rw [List.flatMap_cons, List.length_append, List.length_cons, Nat.succ_mul]
   have := tflat_bd f h l
   have := h x
   omega
def accentE (a : List Fgn) (l : List ByteArray) (d : Int) : Int := if foreignOk a && phonesOk l 120 && decide (0 ≤ d) && decide (d ≤ 5) then (if 120 < (accentC a l d).length then 4 else 0) else 2
def accentR (a : List Fgn) (l : List ByteArray) (d : Int) : List ByteArray := if accentE a l d = 0 then accentC a l d else []
theorem accent_spec (sa sl : SlV) (a : List Fgn) (l : List ByteArray) (d : Int) (w : World) (ha : Stb w [] (RdL sa.v a)) (hp : Stb w [] fun w' => ∀ u ∈ a, FgnIn u w') (hl : Stb w [] (RdL sl.v l)) :
   Calls Tryz.prog 47 #[sa.v, sl.v, .int .i64 d] w fun e w' => ∃ r : SlV, e = .returned (.tuple #[r.v, .int .i64 (accentE a l d)]) ∧ True ∧ Cl w [] [ownL 9 r.v (accentR a l d)] w' := by
 have hLa := rd_len ha.here
 have hLl := rd_len hl.here
 refine calls_cw (vs := [_, _, _]) Tryz.func47 rfl Tryz.ntmps47 rfl (Cl.start0 w) (zr (za rfl (za rfl (nP (cw_seq (cw_seq (cw_region (zm rfl ?_))))))))
 refine sw_step rfl rfl rfl (q_call (CanCall.mk Tryz.call91) rfl (.k rfl (.nil)) (fun _ w hw => callq hw (foreign_spec _ _ w (by exact stb_arg hw (by assumption)) (stb_arg hw (by assumption))))) ?_
 refine zS rfl (q_not rfl rfl) (zm rfl (zm rfl ?_))
 refine sw_step rfl rfl rfl (q_call (CanCall.mk Tryz.call63) rfl (.k rfl (.k rfl (.nil))) (fun _ w hw => callq hw (phones_spec _ _ _ w (by exact stb_arg hw (by assumption))))) ?_
 refine zS rfl (q_not rfl rfl) (zS rfl (q_or2 rfl rfl rfl) (zm rfl (zm rfl (zS rfl (q_lss rfl rfl rfl) (zS rfl (q_or2 rfl rfl rfl) (zm rfl (zm rfl (zS rfl (q_gtr rfl rfl rfl) (zS rfl (q_or2 rfl rfl rfl) (nP ?_))))))))))
 have e1 : decide (d < 0) = !decide (0 ≤ d) := by rw [Bool.eq_iff_iff]; simp
 have e2 : decide (5 < d) = !decide (d ≤ 5) := by rw [Bool.eq_iff_iff]; simp
 rw [e1, e2]
 have e3 : (!foreignOk a || !phonesOk l 120 || !decide (0 ≤ d) || !decide (d ≤ 5)) = !(foreignOk a && phonesOk l 120 && decide (0 ≤ d) && decide (d ≤ 5)) := by
   cases foreignOk a <;> cases phonesOk l 120 <;> cases decide (0 ≤ d) <;> cases decide (d ≤ 5) <;> rfl
 rw [e3]
 refine cw_cond rfl (fun h => ?_) (fun h => ?_)
 · have h1 : accentE a l d = 2 := by unfold accentE; rw [if_neg (by rw [Bool.not_eq_true'] at h; rw [h]; decide)]
   have h2 : accentR a l d = [] := by unfold accentR; rw [if_neg (by rw [h1]; decide)]
   refine zr (za rfl (za rfl (nP (cw_ret (post_then_r (post_ret2 rfl (resOk_tmp rfl) (resOk_tmp rfl) ?_))))))
   exact fun w' hw => ⟨⟨none, 0, 0⟩, by rw [h1]; rfl, trivial, by rw [h2]; exact Cl.addNil 9 hw⟩
 · have h1 : (foreignOk a && phonesOk l 120 && decide (0 ≤ d) && decide (d ≤ 5)) = true := by simpa using h
   have h2 : accentE a l d = if 120 < (accentC a l d).length then 4 else 0 := by unfold accentE; rw [if_pos h1]
   simp only [Bool.and_eq_true, decide_eq_true_eq] at h1
   obtain ⟨⟨⟨h3, h4⟩, h5⟩, h6⟩ := h1
   have hll : l.length ≤ 120 := by simp [phonesOk] at h4; omega
   unfold foreignOk at h3
   simp only [Bool.and_eq_true, decide_eq_true_eq, List.all_eq_true] at h3
   obtain ⟨⟨h7, h8⟩, h9⟩ := h3
   have hsl : ∀ x ∈ a, 1 ≤ x.sl.length ∧ x.sl.length ≤ 5 ∧ ∀ p ∈ x.sl, p.length ≤ 3 := fun x hx => by
     have := h9 x hx
     unfold accOk at this
     simp only [Bool.and_eq_true, decide_eq_true_eq, List.all_eq_true] at this
     refine ⟨this.1.1.2, this.1.2, fun p hp => ?_⟩
     have := this.2 p hp
     simp [phonesOk] at this; omega
   have hfb : ∀ p, (acF a d p).length ≤ 3 := fun p => by
     unfold acF
     split
     · rename_i hh
       have hk : acK a p < a.length := by have := hh.1; unfold acB at this; simp only [decide_eq_true_eq] at this; exact this.1
       have := hsl _ (nth_mem hk)
       exact this.2.2 _ (nth_mem (by omega))
     · simp
   have hcb := tflat_bd (acF a d) hfb
   refine sP (zr (za rfl (nP (cw_seq (cw_seq (cw_region (zm rfl ?_)))))))
   refine zS rfl (q_len rfl (.k rfl (.nil)) (stA (by assumption))) ?_
   refine zm rfl (nP (cw_block ?_))
   refine cw_loop (S := Nat × SlV × List ByteArray) (fun y => [(0, [], sa.v), (2, [], .int .i64 d), (8, [], y.2.1.v), (29, [], sl.v), (30, [], .int .i64 l.length), (31, [], .int .i64 y.1)]) (fun y => Cl w [] [ownL 9 y.2.1.v y.2.2]) (fun y => y.1 ≤ l.length ∧ y.2.2 = (l.take y.1).flatMap (acF a d)) (fun y => l.length - y.1) (0, ⟨none, 0, 0⟩, []) ⟨Nat.zero_le _, by simp⟩ (by exact .cons rfl (.cons rfl (.cons rfl (.cons rfl (.cons rfl (.cons rfl .nil)))))) (fun w' h => Cl.addNil 9 h) ?_
   rintro ⟨k, so, out⟩ ⟨hk, hout⟩
   dsimp only at hk hout ⊢
   refine zr (zS rfl (q_lss rfl rfl rfl) (nP (cw_seq ?_)))
   refine cw_cond rfl (fun h10 => ?_) (fun h10 => ?_)
   · have hk' : k < l.length := by simp at h10; omega
     obtain ⟨p, hpe⟩ : ∃ p, nth l k = p := ⟨_, rfl⟩
     have hst := take_flat (acF a d) hk'
     rw [hpe, ← hout] at hst
     have hol : out.length ≤ 400 := by
       have := hcb (l.take k)
       rw [← hout, List.length_take] at this; omega
     refine sP (cw_seq (cw_block (zr ?_)))
     refine zS rfl (q_indexN rfl rfl rfl (stA (by assumption)) (by intro hc; omega)) ?_
     refine zS rfl (q_loadEl rfl rfl rfl (stA (by assumption)) (by intro hc; omega)) ?_
     refine za rfl (nP (zr (zm rfl (zm rfl ?_))))
     rw [hpe]
     refine sw_step rfl rfl rfl (q_call (CanCall.mk Tryz.call92) rfl (.k rfl (.k rfl (.k rfl (.nil)))) (fun _ w1 hw => callq hw (searchFgn_spec _ a p _ _ (fun x : Fgn => cmpS x.phone p) _ w1 (stb_arg hw ha) (stb_true w1 []) (CanCall.mk Tryz.call93) (holdA_spec a p) (halves_acc h8 p)))) (zm rfl (zS rfl (q_extract rfl rfl rfl) (zS rfl (q_extract rfl rfl rfl) (za rfl (za rfl (nP (cw_seq (zr (zm rfl (zS rfl (q_not rfl rfl) (zm rfl (zm rfl (zS rfl (q_eql rfl rfl rfl) (zS rfl (q_or2 rfl rfl rfl) (sw_nil (post_then ?_))))))))))))))))
     refine cw_cond rfl (fun h11 => ?_) (fun h11 => ?_)
     · have hF : acF a d p = [p] := by
         unfold acF
         rw [if_neg]
         rintro ⟨g1, g2⟩
         unfold acB acK at g1
         simp only [decide_eq_true_eq] at g1
         simp [g1.1, g1.2, g2] at h11
       refine zr (zm rfl (zm rfl ?_))
       refine sw_x rfl rfl rfl (e_build1 (α := ByteArray) rfl rfl rfl rfl) (fun s49 => ?_)
       refine sw_x rfl rfl rfl (e_append (i := 1) rfl (.k rfl (.k rfl (.nil))) rfl rfl (rdO (by exact .head _)) (by first | omega | (simp only [List.length_set, List.length_append, List.length_cons, List.length_nil, List.length_replicate, List.length_take, List.length_drop, List.length_map]; omega)) rfl) (fun s50 => ?_)
       refine za rfl (nP (cw_exit (post_then_x (post_blk_eq (post_then (cw_region ?_))))))
       refine zS rfl (q_add rfl rfl rfl (by intro hc; omega)) ?_
       refine zm rfl (sw_nil ?_)
       refine post_next (k + 1, s50, out ++ [p]) (by exact .cons rfl (.cons rfl (.cons rfl (.cons rfl (.cons rfl (.cons rfl .nil)))))) (fun w' h => (Cl.sel (by exact .take 1 rfl (.nil _))) _ h) ⟨by simp only; omega, by simp only; rw [hst, hF]⟩ (by simp only; omega)
     · have hB : acB a p = true ∧ d ≠ 0 := by
         simp only [Bool.or_eq_false_iff, Bool.not_eq_false', decide_eq_false_iff_not] at h11
         exact ⟨h11.1, h11.2⟩
       have hk2 : acK a p < a.length := by have := hB.1; unfold acB at this; simp only [decide_eq_true_eq] at this; exact this.1
       have hF : acF a d p = nth (nth a (acK a p)).sl (min d ((nth a (acK a p)).sl.length : Int) - 1).toNat := by unfold acF; rw [if_pos hB]
       rw [show lowB (fun x : Fgn => cmpS x.phone p) a = acK a p from rfl]
       have hxm := nth_mem hk2
       have hxs := hsl _ hxm
       obtain ⟨vs, g1, g2⟩ := hp.here _ hxm
       have g1 := rd_stb g1
       have hvl := g2.1
       have g3 : Stb w [] (RdL (nth vs (min d (vs.length : Int) - 1).toNat).v (nth (nth a (acK a p)).sl (min d (vs.length : Int) - 1).toNat)) := rd_stb (g2.2 _ (by omega))
       rw [← hvl] at hF
       have hF3 := hfb p
       rw [hF] at hF3
       refine sP (cw_region_a (Cl w [] [ownL 9 so.v out]) [17] mixed_Tryz ?_)
       refine zp 0 rfl (q_move rfl rfl) ?_
       refine zp 1 rfl (q_move rfl rfl) ?_
       refine zp 2 rfl (q_move rfl rfl) ?_
       refine zk 3 (Cl.sel (by exact .take 0 rfl (.nil _))) rfl (q_indexN rfl rfl rfl (stA (by assumption)) (by intro hc; omega)) ?_
       refine zk 4 (Cl.sel (by exact .take 0 rfl (.nil _))) rfl (q_fieldEl rfl rfl (stA (by assumption)) (by intro hc; omega)) ?_
       refine zk 5 (Cl.sel (by exact .take 0 rfl (.nil _))) rfl (q_loadF rfl rfl rfl (stA (by assumption)) (by intro hc; omega) rfl) ?_
       refine zp 6 rfl (q_move rfl rfl) ?_
       refine zp 7 rfl (q_move rfl rfl) ?_
       refine zp 8 rfl (q_move rfl rfl) ?_
       refine zk 9 (Cl.sel (by exact .take 0 rfl (.nil _))) rfl (q_indexN rfl rfl rfl (stA (by assumption)) (by intro hc; omega)) ?_
       refine zk 10 (Cl.sel (by exact .take 0 rfl (.nil _))) rfl (q_fieldEl rfl rfl (stA (by assumption)) (by intro hc; omega)) ?_
       refine zk 11 (Cl.sel (by exact .take 0 rfl (.nil _))) rfl (q_loadF rfl rfl rfl (stA (by assumption)) (by intro hc; omega) rfl) ?_
       refine zk 12 (Cl.sel (by exact .take 0 rfl (.nil _))) rfl (q_len rfl (.k rfl (.nil)) (stA (by assumption))) ?_
       refine zp 13 rfl (q_min rfl (.k rfl (.k rfl (.nil)))) ?_
       refine zp 14 rfl (q_sub rfl rfl rfl (by intro hc; omega)) ?_
       refine zk 15 (Cl.sel (by exact .take 0 rfl (.nil _))) rfl (q_index rfl rfl rfl (stA (by assumption)) (by intro hc; omega)) ?_
       refine zk 16 (Cl.sel (by exact .take 0 rfl (.nil _))) rfl (q_loadEl rfl rfl rfl (stA (by assumption)) (by intro hc; omega)) ?_
       refine aw_x 17 (by kernel_rfl) rfl rfl rfl rfl (e_append (i := 0) rfl (.k rfl (.k rfl (.nil))) rfl rfl (stA (by assumption)) (by first | omega | (simp only [List.length_set, List.length_append, List.length_cons, List.length_nil, List.length_replicate, List.length_take, List.length_drop, List.length_map]; omega)) rfl) (by intro hb; (exact absurd hb (by decide))) (fun s68 => ?_)
       refine zp 18 rfl (q_assign rfl rfl) ?_
       refine aw_end (by kernel_rfl) ?_
       refine post_blk (post_then (cw_region ?_))
       refine zS rfl (q_add rfl rfl rfl (by intro hc; omega)) ?_
       refine zm rfl (sw_nil ?_)
       refine post_next (k + 1, s68, out ++ nth (nth a (acK a p)).sl (min d (vs.length : Int) - 1).toNat) (by exact .cons rfl (.cons rfl (.cons rfl (.cons rfl (.cons rfl (.cons rfl .nil)))))) (fun w' h => (Cl.sel (by exact .take 0 rfl (.nil _))) _ h) ⟨by simp only; omega, by simp only; rw [hst, hF]⟩ (by simp only; omega)
   · have hk' : k = l.length := by simp at h10; omega
     have he : accentC a l d = out := by rw [hout, hk', List.take_length]; rfl
     rw [he] at h2
     refine cw_exit (post_then_x (post_then_x (post_blk_eq (post_then (cw_seq (zr (zm rfl ?_)))))))
     refine zS rfl (q_len rfl (.k rfl (.nil)) (rdO (by exact .head _))) ?_
     refine zS rfl (q_gtr rfl rfl rfl) (nP ?_)
     refine cw_cond rfl (fun h11 => ?_) (fun h11 => ?_)
     · have h12 : accentE a l d = 4 := by rw [h2, if_pos (by simp at h11; omega)]
       have h13 : accentR a l d = [] := by unfold accentR; rw [if_neg (by rw [h12]; decide)]
       refine zr (za rfl (za rfl (nP (cw_ret (post_then_r (post_ret2 rfl (resOk_tmp rfl) (resOk_tmp rfl) ?_))))))
       exact fun w' hw => ⟨⟨none, 0, 0⟩, by rw [h12]; rfl, trivial, by rw [h13]; exact Cl.addNil 9 ((Cl.sel (by exact .nil _)) _ hw)⟩
     · have h12 : accentE a l d = 0 := by rw [h2, if_neg (by simp at h11; omega)]
       have h13 : accentR a l d = out := by unfold accentR; rw [if_pos h12, he]
       refine sP (zr (zm rfl (za rfl (za rfl (nP (cw_ret (post_ret2 rfl (resOk_tmp rfl) (resOk_tmp rfl) ?_)))))))
       exact fun w' hw => ⟨so, by rw [h12], trivial, by rw [h13]; exact hw⟩
end Go.Proofs.YtkmbliojafefdaaGreatDoor

/-
 Rows: a list of slices, each the call's own, told by a function. General lemmas, no program text.
-/
set_option autoImplicit false
set_option linter.unusedSectionVars false
namespace Go.Sx
open Enc (enc val)
section
variable {α : Type} [Enc α] (e : TypeId) (vs : List SlV) (f : Nat → List α)
def rowsAt (is : List Nat) : List Asn := is.map fun i => ownL e (nth vs i).v (f i)
def rowsF : List Asn := rowsAt e vs f (List.range vs.length)
def rowsO (i : Nat) : List Asn := rowsAt e vs f ((List.range vs.length).erase i)
def rowsO2 (i j : Nat) : List Asn := rowsAt e vs f (((List.range vs.length).erase i).erase j)
variable {e vs f}
theorem rowsAt_out {is : List Nat} {i : Nat} (hi : i ∈ is) : (rowsAt e vs f is).Perm (ownL e (nth vs i).v (f i) :: rowsAt e vs f (is.erase i)) := (List.perm_cons_erase hi).map _
theorem rowsAt_congr {is : List Nat} {f' : Nat → List α} {vs' : List SlV} (h : ∀ i ∈ is, f' i = f i) (h2 : ∀ i ∈ is, nth vs' i = nth vs i) : rowsAt e vs' f' is = rowsAt e vs f is := List.map_congr_left fun i hi => by rw [h i hi, h2 i hi]
theorem rowsF_out {i : Nat} (hi : i < vs.length) : (rowsF e vs f).Perm (ownL e (nth vs i).v (f i) :: rowsO e vs f i) := rowsAt_out (by simpa using hi)
theorem rowsF_in {f' : Nat → List α} {i : Nat} {l : List α} (hi : i < vs.length) (h : ∀ k, k < vs.length → k ≠ i → f' k = f k) (hl : f' i = l) : (ownL e (nth vs i).v l :: rowsO e vs f i).Perm (rowsF e vs f') := by
 refine List.Perm.trans ?_ (rowsF_out (f := f') hi).symm
 rw [hl]
 have : rowsO e vs f' i = rowsO e vs f i := rowsAt_congr (fun k hk => by
   have hn : (List.range vs.length).Nodup := List.nodup_range
   have := (hn.mem_erase_iff).1 hk
   exact h k (by simpa using this.2) this.1) fun _ _ => rfl
 rw [this]
theorem rowsO_out {i j : Nat} (hj : j < vs.length) (hij : j ≠ i) : (rowsO e vs f i).Perm (ownL e (nth vs j).v (f j) :: rowsO2 e vs f i j) := rowsAt_out (by
 have hn : (List.range vs.length).Nodup := List.nodup_range
 exact (hn.mem_erase_iff).2 ⟨hij, by simpa using hj⟩)
theorem rowsF_out2 {i j : Nat} (hi : i < vs.length) (hj : j < vs.length) (hij : j ≠ i) : (rowsF e vs f).Perm (ownL e (nth vs i).v (f i) :: ownL e (nth vs j).v (f j) :: rowsO2 e vs f i j) := (rowsF_out hi).trans ((rowsO_out hj hij).cons _)
theorem rowsF_in2 {f' : Nat → List α} {i j : Nat} {l : List α} (hi : i < vs.length) (hj : j < vs.length) (hij : j ≠ i) (h : ∀ k, k < vs.length → k ≠ i → f' k = f k) (hl : f' i = l) : (ownL e (nth vs i).v l :: ownL e (nth vs j).v (f j) :: rowsO2 e vs f i j).Perm (rowsF e vs f') :=
 ((rowsO_out (e := e) (f := f) hj hij).symm.cons _).trans (rowsF_in hi h hl)
theorem rowsF_snoc {s : SlV} : rowsF e (vs ++ [s]) f = rowsF e vs f ++ [ownL e s.v (f vs.length)] := by
 unfold rowsF
 rw [List.length_append, List.length_singleton, List.range_succ]
 unfold rowsAt
 rw [List.map_append]
 congr 1
 · refine List.map_congr_left fun i hi => ?_
   have hi : i < vs.length := by simpa using hi
   have : nth (vs ++ [s]) i = nth vs i := by simp only [nth, List.getD]; rw [List.getElem?_append_left hi]
   rw [this]
 · have : nth (vs ++ [s]) vs.length = s := by simp [nth]
   simp [this]
theorem rowsF_mem {i : Nat} (hi : i < vs.length) : ownL e (nth vs i).v (f i) ∈ rowsF e vs f := List.mem_map_of_mem (f := fun i => ownL e (nth vs i).v (f i)) (by simpa using hi)
end
end Go.Sx

/- An own slice cut to its front. General lemma. -/
set_option autoImplicit false
namespace Go.Sx
theorem own_shrink {w0 w : World} {fp : List Nat} {H : List Asn} {α : Type} [Enc α] {e : TypeId} {s : SlV} {l : List α} {k : Nat} (hk : k ≤ l.length) (h : Cl w0 fp (ownL e s.v l :: H) w) : Cl w0 fp (ownL e (s.sub (Enc.sz α) 0 k).v (l.take k) :: H) w := by
 obtain ⟨hc, bs, ⟨b1, b2, rfl, h1, h2⟩, hn, hb⟩ := h
 refine ⟨hc, b1 ++ b2, ⟨b1, b2, rfl, ?_, h2⟩, hn, hb⟩
 obtain ⟨a, m, cap⟩ := s
 rcases h1 with ⟨e1, e2, e3⟩ | ⟨b, n, cap', cur, e1, e2, e3, e4, e5, e6, e7, e8⟩
 · simp only [SlV.v, Value.slice.injEq] at e1
   obtain ⟨rfl, rfl, rfl⟩ := e1
   have hl : l = [] := by
     have := flat_len l
     rw [e2] at this
     rcases Nat.mul_eq_zero.1 this.symm with h | h
     · exact List.eq_nil_of_length_eq_zero h
     · have := Enc.pos (α := α); omega
   subst hl
   simp only [List.length_nil, Nat.le_zero] at hk
   subst hk
   exact .inl ⟨rfl, rfl, e3⟩
 · simp only [SlV.v, Value.slice.injEq] at e1
   obtain ⟨rfl, rfl, rfl⟩ := e1
   rw [flat_len] at e7
   have hnl := Nat.eq_of_mul_eq_mul_right (Enc.pos (α := α)) e7
   refine   .inr ⟨b, k, cap, cur, ?_, e2, e3, by omega, e5, e6, ?_, ?_⟩
   · simp only [SlV.v, SlV.sub, Option.map_some, Nat.zero_mul, Nat.sub_zero]
     have : (⟨b, 0, none⟩ : Addr).add 0 = ⟨b, 0, none⟩ := by simp [Addr.add]
     rw [this, ite_self]
   · rw [flat_len, List.length_take, Nat.min_eq_left hk]
   · rw [flat_take, ← e8, List.take_take, Nat.min_eq_left (Nat.mul_le_mul_right _ (by omega))]
end Go.Sx
