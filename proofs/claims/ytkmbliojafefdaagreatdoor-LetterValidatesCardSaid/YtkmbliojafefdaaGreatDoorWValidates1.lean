import Derived.Test.YtkmbliojafefdaaGreatDoorWValidates0
import Derived.Lib.AppendZerosOnto

set_option autoImplicit false
set_option linter.unusedSimpArgs false
set_option linter.unusedVariables false
set_option maxRecDepth 100000
namespace Go.Proofs.YtkmbliojafefdaaGreatDoor
open Go.Sx
open Enc (enc val)
theorem offers_snoc (p : List Pr) (x : Pr) (c : Int) : offers (p ++ [x]) c = offers p c ++ if x.c = c then [x] else [] := by
 unfold offers
 rw [List.filter_append]
 congr 1
 by_cases h : x.c = c <;> simp [h]
theorem offers_le (p : List Pr) (c : Int) : (offers p c).length ≤ p.length := List.length_filter_le _ _
theorem pieces_spec (sv : Value) (p : List Pr) (c : Int) (hl : p.length ≤ 100000) (w : World) (hs : Stb w [] (RdL sv p)) : Calls Tryz.prog 67 #[sv, .int .i32 c] w fun e w' => ∃ r : SlV, e = .returned r.v ∧ True ∧ Cl w [] [ownL 68 r.v (offers p c)] w' := by
 have hL := rd_len hs.here
 refine calls_cw (vs := [_, _]) Tryz.func67 rfl Tryz.ntmps67 rfl (Cl.start0 w) (zr (za rfl (nP (cw_seq (cw_region (za rfl (sw_nil (post_then (cw_seq (cw_seq (cw_region (za rfl (sw_nil (post_then (cw_block ?_)))))))))))))))
 refine cw_loop (S := Nat × SlV) (fun y => [(0, [], sv), (1, [], .int .i32 c), (5, [], y.2.v), (6, [], .int .i64 y.1)]) (fun y => Cl w [] [ownL 68 y.2.v (offers (p.take y.1) c)]) (fun y => y.1 ≤ p.length) (fun y => p.length - y.1) (0, ⟨none, 0, 0⟩) (by simp) (by exact .cons rfl (.cons rfl (.cons rfl (.cons rfl .nil)))) (fun w' h => Cl.addNil 68 ((Cl.sel (by exact .nil _)) _ h)) ?_
 rintro ⟨k, so⟩ hk
 dsimp only at hk ⊢
 have hob := offers_le (p.take k) c
 rw [List.length_take] at hob
 refine cw_seq (zr (zm rfl (zm rfl ?_)))
 refine zS rfl (q_len rfl (.k rfl (.nil)) (stA (by assumption))) ?_
 refine zS rfl (q_lss rfl rfl rfl) (nP ?_)
 refine cw_cond rfl (fun h => ?_) (fun h => ?_)
 · have hk' : k < p.length := by simp at h; omega
   have hst : offers (p.take (k + 1)) c = offers (p.take k) c ++ if (nth p k).c = c then [nth p k] else [] := by rw [List.take_succ_eq_append_getElem hk', ← nth_get hk', offers_snoc]
   refine sP (cw_seq (cw_block (zr (zm rfl (zm rfl ?_)))))
   refine zS rfl (q_indexN rfl rfl rfl (stA (by assumption)) (by intro hc; omega)) ?_
   refine zS rfl (q_fieldEl rfl rfl (stA (by assumption)) (by intro hc; omega)) ?_
   refine zS rfl (q_loadF rfl rfl rfl (stA (by assumption)) (by intro hc; omega) rfl) ?_
   refine zm rfl (zS rfl (q_eql rfl rfl rfl) (nP ?_))
   refine cw_cond rfl (fun h2 => ?_) (fun h2 => ?_)
   · have h3 : (nth p k).c = c := by simpa using h2
     rw [if_pos h3] at hst
     refine cw_region (zm rfl (zm rfl (zm rfl ?_)))
     refine zS rfl (q_indexN rfl rfl rfl (stA (by assumption)) (by intro hc; omega)) ?_
     refine zS rfl (q_loadEl rfl rfl rfl (stA (by assumption)) (by intro hc; omega)) ?_
     refine sw_x rfl rfl rfl (e_buildL (α := Pr) (l := [nth p k]) rfl (.k rfl (.nil)) rfl rfl rfl rfl) (fun s25 => ?_)
     refine sw_x rfl rfl rfl (e_append (i := 1) rfl (.k rfl (.k rfl (.nil))) rfl rfl (rdO (by exact .head _)) (by first | omega | (simp only [List.length_set, List.length_append, List.length_cons, List.length_nil, List.length_replicate, List.length_take, List.length_drop, List.length_map]; omega)) rfl) (fun s26 => ?_)
     refine za rfl (sw_nil (post_blk (post_then (cw_region (zm rfl ?_)))))
     refine zS rfl (q_add rfl rfl rfl (by intro hc; omega)) ?_
     refine za rfl (sw_nil ?_)
     exact post_next (k + 1, s26) (by exact .cons rfl (.cons rfl (.cons rfl (.cons rfl .nil)))) (fun w' h => by simp only; rw [hst]; exact (Cl.sel (by exact .take 1 rfl (.nil _))) _ h) (by simp only; omega) (by simp only; omega)
   · have h3 : ¬ (nth p k).c = c := by simpa using h2
     rw [if_neg h3, List.append_nil] at hst
     refine cw_skip (post_blk (post_then (cw_region (zm rfl ?_))))
     refine zS rfl (q_add rfl rfl rfl (by intro hc; omega)) ?_
     refine za rfl (sw_nil ?_)
     exact post_next (k + 1, so) (by exact .cons rfl (.cons rfl (.cons rfl (.cons rfl .nil)))) (fun w' h => by simp only; rw [hst]; exact (Cl.sel (by exact .take 0 rfl (.nil _))) _ h) (by simp only; omega) (by simp only; omega)
 · have hk' : k = p.length := by simp at h; omega
   subst hk'
   rw [List.take_length]
   refine cw_exit (post_then_x (post_then_x (post_blk_eq (post_then (zr (zm rfl (za rfl (nP (cw_ret (post_ret1 rfl (resOk_tmp rfl) ?_))))))))))
   exact fun w' hw => ⟨so, rfl, trivial, hw⟩
theorem begins_spec (sa : SlV) (sb : Value) (a b : List ByteArray) (w : World) (ha : Stb w [] (RdL sa.v a)) (hb : Stb w [] (RdL sb b)) : Calls Tryz.prog 68 #[sa.v, sb] w fun e w' => e = .returned (.bool (pre b a)) ∧ Cl w [] [] w' := by
 have z1 := rd_len ha.here
 have z2 := rd_len hb.here
 have f2 : b.length ≤ a.length → Stb w [] (RdL (sa.sub 1 0 (b.length : Int).toNat).v ((a.take b.length).drop 0)) := fun h => stb_sub ha (Nat.zero_le _) h
 refine calls_cw (vs := [_, _]) Tryz.func68 rfl Tryz.ntmps68 rfl (Cl.start0 w) (zr (za rfl (nP (cw_seq (cw_region (zm rfl ?_))))))
 refine zS rfl (q_len rfl (.k rfl (.nil)) (stA (by assumption))) ?_
 refine zm rfl ?_
 refine zS rfl (q_len rfl (.k rfl (.nil)) (stA (by assumption))) ?_
 refine zS rfl (q_geq rfl rfl rfl) (zm rfl (zm rfl (zm rfl ?_)))
 refine zS rfl (q_len rfl (.k rfl (.nil)) (stA (by assumption))) ?_
 refine zS rfl (q_sliceH rfl rfl rfl (stA (by assumption)) (fun hcc => by simp [AllT] at hcc; omega)) ?_
 refine zm rfl ?_
 refine sw_step rfl rfl rfl (q_call (CanCall.mk Tryz.call38) rfl (.k rfl (.k rfl (.nil))) (fun hcc w1 hw => callq hw (order_spec _ _ ((a.take b.length).drop 0) b w1 (stb_arg hw (f2 (by simp [AllT] at hcc; omega))) (stb_arg hw hb)))) ?_
 refine zS rfl (q_eql rfl rfl rfl) (zS rfl (q_and2 rfl rfl rfl) (za rfl (nP (cw_ret (post_ret1 rfl (resOk_tmp rfl) ?_)))))
 refine fun w' hw => ⟨?_, (Cl.sel (by exact .nil _)) _ hw⟩
 congr 2
 unfold pre
 rw [List.drop_zero, show decide ((b.length : Int) ≤ (a.length : Int)) = decide (b.length ≤ a.length) from decide_eq_decide.2 ⟨fun h => by omega, fun h => by omega⟩]
 congr 1
 rw [Bool.eq_iff_iff]; simp [ordL_eq]
theorem begins_at (sl : SlV) (sb : Value) (l x : List ByteArray) (k : Nat) (hk : k ≤ l.length) (w : World) (hl : Stb w [] (RdL sl.v l)) (hx : Stb w [] (RdL sb x)) : Calls Tryz.prog 68 #[(sl.sub 1 k l.length).v, sb] w fun e w' => e = .returned (.bool (decide (k + x.length ≤ l.length) && decide ((l.take (k + x.length)).drop k = x))) ∧ Cl w [] [] w' := by
 have h1 : Stb w [] (RdL (sl.sub 1 k l.length).v (l.drop k)) := by
   have := stb_sub hl hk (Nat.le_refl l.length)
   rwa [List.take_length] at this
 rw [← pre_at hk]
 exact begins_spec _ sb _ _ w h1 hx
end Go.Proofs.YtkmbliojafefdaaGreatDoor

set_option autoImplicit false
set_option maxRecDepth 100000
namespace Go.Proofs.YtkmbliojafefdaaGreatDoor
open Go.Sx
open Enc (enc val)
theorem nth_out {l : List Int} {i : Nat} (h : l.length ≤ i) : nth l i = 0 := by
 simp only [nth, List.getD, List.getElem?_eq_none h]; rfl
theorem sets_same {l : List Int} {i : Nat} {v : Int} (h : nth l i = v) (hi : i < l.length) : l.set i v = l := by
 rw [← h, nth_get hi]; exact List.set_getElem_self hi
theorem perm_rot {α : Type} {a b : α} {R : List α} : (a :: b :: R).Perm (b :: (R ++ [a])) := (List.Perm.swap b a R).trans (.cons b (List.perm_append_comm (l₁ := [a]) (l₂ := R)))
theorem perm_in1 {α : Type} {a b : α} {R T : List α} (h : (a :: R).Perm T) : (a :: b :: R).Perm (b :: T) := (List.Perm.swap b a R).trans (.cons b h)
theorem perm_in2 {α : Type} {a b c : α} {R T : List α} (h : (a :: b :: R).Perm T) : (a :: b :: c :: R).Perm (c :: T) :=
 ((List.Perm.swap c b R).cons a).trans ((List.Perm.swap c a (b :: R)).trans (.cons c h))
theorem step_no {f : Pr → Int} {b : Int} {x : Pr} (h : ¬ (0 ≤ f x ∧ (b < 0 ∨ f x < b))) : stepC f b x = b := by unfold stepC; rw [if_neg h]
theorem step_yes {f : Pr → Int} {b : Int} {x : Pr} (h : 0 ≤ f x ∧ (b < 0 ∨ f x < b)) : stepC f b x = f x := by unfold stepC; rw [if_pos h]
set_option maxHeartbeats 4000000 in
theorem refAlign_spec2 (sp sw sl : SlV) (p : List Pr) (ws : List Rn) (l : List ByteArray) (hn : ws.length ≤ 80) (hm : l.length ≤ 800) (hpn : p.length ≤ 100000) (hcost : CostOk p) (hpl : ∀ x ∈ p, x.pl.length ≤ 1000) (w : World) (hp : Stb w [] (RdL sp.v p)) (hpi : Stb w [] fun w' => ∀ u ∈ p, PrIn u w') (hw0 : Stb w [] (RdL sw.v ws)) (hl : Stb w [] (RdL sl.v l)) :
   Calls Tryz.prog 24 #[sp.v, sw.v, sl.v] w fun e w' => ∃ r : SlV × List SlV, e = .returned (.tuple #[r.1.v, .int .i64 (leastC p ws l)]) ∧ True ∧ Cl w [] [frz (fun w => RdL r.1.v r.2 w ∧ RdR r.2 (if 0 ≤ leastC p ws l then pathC p ws l else []) w)] w' := by
 have hLp := rd_len hp.here
 have hLw := rd_len hw0.here
 have hLl := rd_len hl.here
 obtain ⟨n, hne⟩ : ∃ n, ws.length = n := ⟨_, rfl⟩
 obtain ⟨m, hme⟩ : ∃ m, l.length = m := ⟨_, rfl⟩
 rw [hne] at hn
 rw [hme] at hm
 obtain ⟨D, hD⟩ : ∃ D : Nat → Nat → Int, ∀ i k, D i k = leastC p (ws.drop i) (l.drop k) := ⟨_, fun _ _ => rfl⟩
 have hDb : ∀ i k, -1 ≤ D i k ∧ D i k ≤ 80000 := fun i k => by
   have := least_bd hcost (ws.drop i) (l.drop k)
   rw [hD]
   rw [List.length_drop, hne] at this
   omega
 have hDn : ∀ k, k ≤ m → D n k = if k = m then 0 else -1 := fun k hk => by
   rw [hD, ← hne, List.drop_length]
   unfold leastC
   by_cases e : k = m
   · rw [if_pos e, if_pos (by rw [e, ← hme, List.drop_length])]
   · rw [if_neg e, if_neg (by rw [List.drop_eq_nil_iff]; omega)]
 have hDs : ∀ i k, i < n → D i k = (offers p (nth ws i).v).foldl (stepC (tryC (leastC p (ws.drop (i + 1))) (l.drop k))) (-1) := fun i k hi => by rw [hD, least_at (by omega)]
 have hTr : ∀ i k x, k ≤ m → tryC (leastC p (ws.drop (i + 1))) (l.drop k) x = if (decide (k + x.pl.length ≤ m) && decide ((l.take (k + x.pl.length)).drop k = x.pl)) = true ∧ 0 ≤ D (i + 1) (k + x.pl.length) then x.cost + D (i + 1) (k + x.pl.length) else -1 := fun i k x hk => by
   unfold tryC
   rw [pre_at (by omega), List.drop_drop, hme, hD]
 have hbg : ∀ (k : Nat) (x : Pr) (w1 : World), k ≤ m → Stb w1 [] (RdL sl.v l) → Stb w1 [] (RdL x.p.v x.pl) → Calls Tryz.prog 68 #[(sl.sub 1 k m).v, x.p.v] w1 fun e w' => e = .returned (.bool (decide (k + x.pl.length ≤ m) && decide ((l.take (k + x.pl.length)).drop k = x.pl))) ∧ Cl w1 [] [] w' := fun k x w1 hk h1 h2 => by
   subst hme
   exact begins_at sl _ l x.pl k hk w1 h1 h2
 refine calls_cw (vs := [_, _, _]) Tryz.func24 rfl Tryz.ntmps24 rfl (Cl.start0 w) (zr (za rfl (za rfl (nP (cw_seq (cw_region (zm rfl ?_)))))))
 refine zS rfl (q_len rfl (.k rfl (.nil)) (stA (by assumption))) ?_
 refine zS rfl (q_add rfl rfl rfl (by intro hc; omega)) ?_
 rw [hne]
 refine sw_x rfl rfl rfl (e_make (α := SlV) (zero := ⟨none, 0, 0⟩) rfl rfl rfl rfl rfl (by omega) (by omega) (by decide)) (fun s25 => ?_)
 have e0 : ((n : Int) + 1).toNat = n + 1 := by omega
 rw [e0]
 refine za rfl (nP (cw_seq (zr (za rfl (sw_nil (post_then (cw_block ?_)))))))
 refine cw_loop (S := List SlV) (fun V => [(0, [], sp.v), (1, [], sw.v), (2, [], sl.v), (8, [], s25.v), (9, [], .int .i64 V.length)]) (fun V => Cl w [] (ownL 116 s25.v (V ++ List.replicate (n + 1 - V.length) ⟨none, 0, 0⟩) :: rowsF 3 V (fun _ => List.replicate (m + 1) (-1 : Int)))) (fun V => V.length ≤ n + 1) (fun V => n + 1 - V.length) [] (Nat.zero_le _) (by exact .cons rfl (.cons rfl (.cons rfl (.cons rfl (.cons rfl .nil))))) (fun w' h => h) ?_
 intro V hV
 refine cw_seq (zr (zm rfl (zm rfl ?_)))
 refine zS rfl (q_len rfl (.k rfl (.nil)) (stA (by assumption))) ?_
 refine zS rfl (q_leq rfl rfl rfl) (nP ?_)
 refine cw_cond rfl (fun h => ?_) (fun h => ?_)
 · have hV' : V.length < n + 1 := by simp only [decide_eq_true_eq] at h; omega
   have hcl : (V ++ List.replicate (n + 1 - V.length) (⟨none, 0, 0⟩ : SlV)).length = n + 1 := by simp; omega
   refine sP (cw_seq (cw_block (zr (zm rfl (zm rfl (zm rfl ?_))))))
   refine zS rfl (q_len rfl (.k rfl (.nil)) (stA (by assumption))) ?_
   refine zS rfl (q_add rfl rfl rfl (by intro hc; omega)) ?_
   rw [hme]
   refine sw_x rfl rfl rfl (e_make (α := Int) (zero := 0) rfl rfl rfl rfl rfl (by omega) (by omega) (by decide)) (fun s37 => ?_)
   have e1 : ((m : Int) + 1).toNat = m + 1 := by omega
   rw [e1]
   refine zS rfl (q_indexN rfl rfl rfl (rdO (by exact .tail _ (.head _))) (by intro hc; omega)) ?_
   refine sw_eff0 rfl rfl (e_storeEl1 (i := 1) rfl rfl rfl rfl rfl (by omega)) ?_
   refine nP (zr (za rfl (sw_nil (post_then (cw_block ?_)))))
   have hcv : (V ++ List.replicate (n + 1 - V.length) (⟨none, 0, 0⟩ : SlV)).set V.length s37 = (V ++ [s37]) ++ List.replicate (n + 1 - (V ++ [s37]).length) ⟨none, 0, 0⟩ := by
     rw [List.set_append_right _ _ (Nat.le_refl _), Nat.sub_self, show n + 1 - V.length = (n + 1 - (V ++ [s37]).length) + 1 by simp; omega, List.replicate_succ, List.set_cons_zero]
     simp
   have hrow : nth ((V ++ List.replicate (n + 1 - V.length) (⟨none, 0, 0⟩ : SlV)).set V.length s37) V.length = s37 := by rw [nth_setP _ _ _ _ (by omega), if_pos rfl]
   have hcl2 : ((V ++ List.replicate (n + 1 - V.length) (⟨none, 0, 0⟩ : SlV)).set V.length s37).length = n + 1 := by rw [List.length_set, hcl]
   generalize (V ++ List.replicate (n + 1 - V.length) (⟨none, 0, 0⟩ : SlV)).set V.length s37 = cv at hcv hrow hcl2 ⊢
   refine cw_loop (S := Nat × List Int) (fun y => [(0, [], sp.v), (1, [], sw.v), (2, [], sl.v), (8, [], s25.v), (9, [], .int .i64 V.length), (10, [], .int .i64 y.1)]) (fun y => Cl w [] (ownL 3 (nth cv V.length).v y.2 :: ownL 116 s25.v cv :: rowsF 3 V (fun _ => List.replicate (m + 1) (-1 : Int)))) (fun y => y.1 ≤ m + 1 ∧ y.2.length = m + 1 ∧ ∀ j, j < y.1 → nth y.2 j = -1) (fun y => m + 1 - y.1) (0, List.replicate (m + 1) 0) ⟨Nat.zero_le _, by simp, fun j hj => by omega⟩ (by exact .cons rfl (.cons rfl (.cons rfl (.cons rfl (.cons rfl (.cons rfl .nil)))))) (fun w' h => by rw [hrow]; exact h) ?_
   rintro ⟨k, r⟩ ⟨hk, hll, hlt⟩
   dsimp only at hk hll hlt ⊢
   refine cw_seq (zr (zm rfl (zm rfl ?_)))
   refine zS rfl (q_len rfl (.k rfl (.nil)) (stA (by assumption))) ?_
   refine zS rfl (q_leq rfl rfl rfl) (nP ?_)
   refine cw_cond rfl (fun h3 => ?_) (fun h3 => ?_)
   · have hk' : k < m + 1 := by simp only [decide_eq_true_eq] at h3; omega
     refine sP (cw_seq (cw_block (cw_region (zm rfl (zm rfl ?_)))))
     refine zS rfl (q_indexN rfl rfl rfl (rdO (by exact .tail _ (.head _))) (by intro hc; omega)) ?_
     refine zS rfl (q_loadEl rfl rfl rfl (rdO (by exact .tail _ (.head _))) (by intro hc; omega)) ?_
     refine zm rfl ?_
     refine zS rfl (q_indexN rfl rfl rfl (rdO (by exact .head _)) (by intro hc; omega)) ?_
     refine sw_eff0 rfl rfl (e_storeEl1 (i := 0) rfl rfl rfl rfl rfl (by omega)) ?_
     refine sw_nil (post_blk (post_then (cw_region (zm rfl ?_))))
     refine zS rfl (q_add rfl rfl rfl (by intro hc; omega)) ?_
     refine za rfl (sw_nil ?_)
     refine post_next (k + 1, r.set k (-1)) (by exact .cons rfl (.cons rfl (.cons rfl (.cons rfl (.cons rfl (.cons rfl .nil)))))) (fun _ h => h) ⟨by simp only; omega, by simp [hll], fun j hj => ?_⟩ (by simp only; omega)
     simp only at hj ⊢
     rw [nth_setP _ _ _ _ (by omega)]
     by_cases e : j = k
     · rw [if_pos e]
     · rw [if_neg e]; exact hlt j (by omega)
   · have hk' : k = m + 1 := by simp only [decide_eq_false_iff_not] at h3; omega
     have hr : r = List.replicate (m + 1) (-1) := by
       apply List.ext_getElem (by simp [hll])
       intro j a b
       have := hlt j (by omega)
       rw [nth_get a] at this
       simp [this]
     refine cw_exit (post_then_x (post_then_x (post_blk_eq (post_blk (post_then (cw_region (zm rfl ?_)))))))
     refine zS rfl (q_add rfl rfl rfl (by intro hc; omega)) ?_
     refine za rfl (sw_nil ?_)
     refine post_next (V ++ [s37]) ?_ (fun w3 hw3 => ?_) (by simp; omega) (by simp; omega)
     · exact Le.cons rfl (Le.cons rfl (Le.cons rfl (Le.cons rfl (Le.cons' rfl (by congr 1; simp) Le.nil))))
     · rw [hrow, hcv, hr] at hw3
       rw [rowsF_snoc]
       exact hw3.perm perm_rot
 · have hV' : V.length = n + 1 := by simp only [decide_eq_false_iff_not] at h; omega
   rw [hV', Nat.sub_self, List.replicate_zero, List.append_nil]
   refine cw_c (C' := Cl w [] (ownL 3 (nth V ws.length).v (List.replicate (m + 1) (-1 : Int)) :: ownL 116 s25.v V :: rowsO 3 V (fun _ => List.replicate (m + 1) (-1 : Int)) n)) (fun w' hw => by rw [hne]; exact hw.perm ((rowsF_out (by omega)).cons _ |>.trans (.swap _ _ _))) ?_
   refine cw_exit (post_then_x (post_then_x (post_blk_eq (post_then (zr (zm rfl (zm rfl ?_)))))))
   refine zS rfl (q_len rfl (.k rfl (.nil)) (stA (by assumption))) ?_
   refine zS rfl (q_indexN rfl rfl rfl (rdO (by exact .tail _ (.head _))) (by intro hc; omega)) ?_
   refine zS rfl (q_loadEl rfl rfl rfl (rdO (by exact .tail _ (.head _))) (by intro hc; omega)) ?_
   refine zm rfl ?_
   refine zS rfl (q_len rfl (.k rfl (.nil)) (stA (by assumption))) ?_
   refine zS rfl (q_indexN rfl rfl rfl (rdO (by exact .head _)) (by intro hc; (simp only [List.length_set, List.length_append, List.length_cons, List.length_nil, List.length_replicate, List.length_take, List.length_drop, List.length_map]; omega))) ?_
   refine sw_eff0 rfl rfl (e_storeEl1 (i := 0) rfl rfl rfl rfl rfl (by (simp only [List.length_set, List.length_append, List.length_cons, List.length_nil, List.length_replicate, List.length_take, List.length_drop, List.length_map]; omega))) ?_
   refine nP (cw_seq (zr (zm rfl ?_)))
   refine zS rfl (q_len rfl (.k rfl (.nil)) (stA (by assumption))) ?_
   refine zS rfl (q_sub rfl rfl rfl (by intro hc; omega)) ?_
   refine za rfl (nP (cw_block ?_))
   refine cw_loop (S := Nat × (Nat → List Int)) (fun y => [(0, [], sp.v), (1, [], sw.v), (2, [], sl.v), (8, [], s25.v), (11, [], .int .i64 ((n : Int) - y.1 - 1))]) (fun y => Cl w [] (ownL 116 s25.v V :: rowsF 3 V y.2)) (fun y => y.1 ≤ n ∧ ∀ j, j ≤ n → (y.2 j).length = m + 1 ∧ ∀ k, k ≤ m → nth (y.2 j) k = if n - y.1 ≤ j then D j k else -1) (fun y => n - y.1) (0, fun j => if j = n then (List.replicate (m + 1) (-1 : Int)).set m 0 else List.replicate (m + 1) (-1 : Int)) ⟨Nat.zero_le _, fun j hj => ?_⟩ ?_ (fun w' hw => ?_) ?_
   · dsimp only
     by_cases e : j = n
     · rw [if_pos e]
       refine ⟨by simp, fun k hk => ?_⟩
       rw [nth_setP _ _ _ _ (by simp), e, show (if n - 0 ≤ n then D n k else -1) = D n k from if_pos (by omega), hDn k hk]
       by_cases e2 : k = m
       · simp [e2]
       · rw [if_neg e2, if_neg e2, nth_get (by simp; omega)]; simp
     · rw [if_neg e]
       refine ⟨by simp, fun k hk => ?_⟩
       rw [if_neg (by omega), nth_get (by simp; omega)]; simp
   · exact Le.cons rfl (Le.cons rfl (Le.cons rfl (Le.cons rfl (Le.cons' rfl (by congr 1; simp only; omega) Le.nil))))
   · rw [hne, hme] at hw
     exact hw.perm (perm_in1 (rowsF_in (by omega) (fun k _ hk => by dsimp only; rw [if_neg hk]) (by dsimp only; rw [if_pos rfl])))
   rintro ⟨q, F⟩ ⟨hq, hF⟩
   dsimp only at hq hF ⊢
   refine cw_seq (zr (zm rfl (zS rfl (q_geq rfl rfl rfl) (nP ?_))))
   refine cw_cond rfl (fun h3 => ?_) (fun h3 => ?_)
   · obtain ⟨r, hre⟩ : ∃ r, n - (q + 1) = r := ⟨_, rfl⟩
     have hq' : q < n := by simp only [decide_eq_true_eq] at h3; omega
     have hrn : r < n := by omega
     have er : ((n : Int) - q - 1) = (r : Int) := by omega
     rw [er]
     obtain ⟨hl1, hr1⟩ := hF (r + 1) (by omega)
     obtain ⟨hl0, hr0⟩ := hF r (by omega)
     have hF1 : ∀ k, k ≤ m → nth (F (r + 1)) k = D (r + 1) k := fun k hk => by rw [hr1 k hk, if_pos (by omega)]
     obtain ⟨cc, hcc⟩ : ∃ cc, (nth ws r).v = cc := ⟨_, rfl⟩
     have hol := offers_le p cc
     refine cw_c (C' := Cl w [] (ownL 3 (nth V r).v (F r) :: ownL 3 (nth V (r + 1)).v (F (r + 1)) :: ownL 116 s25.v V :: rowsO2 3 V F r (r + 1))) (fun w' hw => hw.perm (perm_in2 (rowsF_out2 (by omega) (by omega) (by omega)).symm).symm) ?_
     refine sP (cw_seq (cw_block (zr (zm rfl (zm rfl (zm rfl ?_))))))
     refine zS rfl (q_indexN rfl rfl rfl (stA (by assumption)) (by intro hc; omega)) ?_
     refine zS rfl (q_loadEl rfl rfl rfl (stA (by assumption)) (by intro hc; omega)) ?_
     refine sw_x rfl rfl rfl (e_call (CanCall.mk Tryz.call67) rfl (.k rfl (.k rfl (.nil))) (fun w1 hw => pieces_spec sp.v p (nth ws r).v hpn w1 (stb_arg hw hp))) (fun s71 => ?_)
     refine sw_imp fun _ => ?_
     rw [hcc]
     refine za rfl (nP (zr (za rfl (sw_nil (post_then (cw_block ?_))))))
     refine cw_loop (S := Nat × List Int) (fun y => [(0, [], sp.v), (1, [], sw.v), (2, [], sl.v), (8, [], s25.v), (11, [], .int .i64 r), (12, [], s71.v), (13, [], .int .i64 y.1)]) (fun y => Cl w [] (ownL 68 s71.v (offers p cc) :: ownL 3 (nth V r).v y.2 :: ownL 3 (nth V (r + 1)).v (F (r + 1)) :: ownL 116 s25.v V :: rowsO2 3 V F r (r + 1))) (fun y => y.1 ≤ m + 1 ∧ y.2.length = m + 1 ∧ (∀ j, j < y.1 → nth y.2 j = D r j) ∧ ∀ j, y.1 ≤ j → j ≤ m → nth y.2 j = -1) (fun y => m + 1 - y.1) (0, F r) ⟨Nat.zero_le _, hl0, fun j hj => by omega, fun j _ hj => by rw [hr0 j hj, if_neg (by omega)]⟩ (by exact .cons rfl (.cons rfl (.cons rfl (.cons rfl (.cons rfl (.cons rfl (.cons rfl .nil))))))) (fun w' h => h) ?_
     rintro ⟨k, cur⟩ ⟨hk1, hcl, hcd, hcn⟩
     dsimp only at hk1 hcl hcd hcn ⊢
     refine cw_seq (zr (zm rfl (zm rfl ?_)))
     refine zS rfl (q_len rfl (.k rfl (.nil)) (stA (by assumption))) ?_
     refine zS rfl (q_leq rfl rfl rfl) (nP ?_)
     refine cw_cond rfl (fun h4 => ?_) (fun h4 => ?_)
     · have hkm : k ≤ m := by simp only [decide_eq_true_eq] at h4; omega
       have hck : nth cur k = -1 := hcn k (Nat.le_refl _) hkm
       obtain ⟨fx, hfx⟩ : ∃ fx, tryC (leastC p (ws.drop (r + 1))) (l.drop k) = fx := ⟨_, rfl⟩
       have hfxe : ∀ x, fx x = if (decide (k + x.pl.length ≤ m) && decide ((l.take (k + x.pl.length)).drop k = x.pl)) = true ∧ 0 ≤ D (r + 1) (k + x.pl.length) then x.cost + D (r + 1) (k + x.pl.length) else -1 := fun x => by rw [← hfx]; exact hTr r k x hkm
       obtain ⟨vv, hvv⟩ : ∃ vv : Nat → Int, ∀ X, vv X = ((offers p cc).take X).foldl (stepC fx) (-1) := ⟨_, fun _ => rfl⟩
       have hv0 : vv 0 = -1 := by rw [hvv]; rfl
       have hvs : ∀ X, X < (offers p cc).length → vv (X + 1) = stepC fx (vv X) (nth (offers p cc) X) := fun X hX => by rw [hvv, hvv, take_fold _ _ hX]
       have hfb : ∀ x ∈ offers p cc, -1 ≤ fx x ∧ fx x ≤ 81000 := fun x hx => by
         have h1 := hcost x (offers_mem.1 hx).1
         have h2 := hDb (r + 1) (k + x.pl.length)
         rw [hfxe]
         split <;> omega
       have hvb : ∀ X, X ≤ (offers p cc).length → -1 ≤ vv X ∧ vv X ≤ 81000 := fun X hX => by
         induction X with
         | zero => rw [hv0]; omega
         | succ X ih =>
           have h1 := ih (by omega)
           have h2 := hfb _ (nth_mem (by omega : X < (offers p cc).length))
           rw [hvs X (by omega)]
           unfold stepC
           split <;> omega
       refine sP (cw_seq (cw_block (zr (za rfl (nP (cw_block ?_))))))
       refine cw_loop (S := Nat) (fun X => [(0, [], sp.v), (1, [], sw.v), (2, [], sl.v), (8, [], s25.v), (11, [], .int .i64 r), (12, [], s71.v), (13, [], .int .i64 k), (14, [], .int .i64 X)]) (fun X => Cl w [] (ownL 68 s71.v (offers p cc) :: ownL 3 (nth V r).v (cur.set k (vv X)) :: ownL 3 (nth V (r + 1)).v (F (r + 1)) :: ownL 116 s25.v V :: rowsO2 3 V F r (r + 1))) (fun X => X ≤ (offers p cc).length) (fun X => (offers p cc).length - X) 0 (Nat.zero_le _) (by exact .cons rfl (.cons rfl (.cons rfl (.cons rfl (.cons rfl (.cons rfl (.cons rfl (.cons rfl .nil)))))))) (fun w' h => by rw [hv0, sets_same hck (by omega)]; exact h) ?_
       intro X hX
       have hcsl : (cur.set k (vv X)).length = m + 1 := by rw [List.length_set, hcl]
       have hcsk : nth (cur.set k (vv X)) k = vv X := by rw [nth_setP _ _ _ _ (by omega), if_pos rfl]
       have hvbX := hvb X hX
       refine cw_seq (zr (zm rfl (zm rfl ?_)))
       refine zS rfl (q_len rfl (.k rfl (.nil)) (rdO (by exact .head _))) ?_
       refine zS rfl (q_lss rfl rfl rfl) (nP ?_)
       refine cw_cond rfl (fun h5 => ?_) (fun h5 => ?_)
       · have hX' : X < (offers p cc).length := by simp only [decide_eq_true_eq] at h5; omega
         have hxm : (nth (offers p cc) X) ∈ p := (offers_mem.1 (nth_mem hX')).1
         have hxs : Stb w [] (RdL (nth (offers p cc) X).p.v (nth (offers p cc) X).pl) := stb_mem hpi hxm
         have hxc := hcost (nth (offers p cc) X) hxm
         have hxl := hpl (nth (offers p cc) X) hxm
         have hfxx := hfxe (nth (offers p cc) X)
         have hst := hvs X hX'
         have hxD := hDb (r + 1) (k + (nth (offers p cc) X).pl.length)
         have hb1 : -1 ≤ nth (F (r + 1)) (k + (nth (offers p cc) X).pl.length) ∧ nth (F (r + 1)) (k + (nth (offers p cc) X).pl.length) ≤ 80000 := by
           by_cases h6 : k + (nth (offers p cc) X).pl.length ≤ m
           · rw [hF1 _ h6]; exact hxD
           · rw [nth_out (by omega)]; omega
         refine sP (cw_seq (cw_block (cw_seq (cw_seq ?_))))
         refine cw_region_q mixed_Tryz (by kernel_rfl) ?_
         refine zw rfl (zw rfl ?_)
         refine zq rfl (q_sliceL rfl rfl rfl (stA (by assumption)) (by intro hc; omega)) ?_
         refine zw rfl (zw rfl ?_)
         refine zq rfl (q_indexN rfl rfl rfl (rdO (by exact .head _)) (by intro hc; omega)) ?_
         refine zq rfl (q_fieldEl rfl rfl (rdO (by exact .head _)) (by intro hc; omega)) ?_
         refine zq rfl (q_loadF rfl rfl rfl (rdO (by exact .head _)) (by intro hc; omega) rfl) ?_
         rw [hme]
         refine qw_step rfl rfl rfl (q_call (CanCall.mk Tryz.call68) rfl (.k rfl (.k rfl (.nil))) (fun _ w1 hw => callq hw (hbg k (nth (offers p cc) X) w1 hkm (stb_arg hw hl) (stb_arg hw hxs)))) (zq rfl (q_not rfl rfl) (zw rfl (zw rfl (zw rfl ?_))))
         refine zq rfl (q_add rfl rfl rfl (by intro hc; omega)) ?_
         refine zq rfl (q_indexN rfl rfl rfl (rdO (by exact .tail _ (.tail _ (.tail _ (.head _))))) (by intro hc; (simp only [List.length_set, List.length_append, List.length_cons, List.length_nil, List.length_replicate, List.length_take, List.length_drop, List.length_map]; omega))) ?_
         refine zq rfl (q_loadEl rfl rfl rfl (rdO (by exact .tail _ (.tail _ (.tail _ (.head _))))) (by intro hc; (simp only [List.length_set, List.length_append, List.length_cons, List.length_nil, List.length_replicate, List.length_take, List.length_drop, List.length_map]; omega))) ?_
         refine zw rfl (zw rfl (zw rfl ?_))
         refine zq rfl (q_indexN rfl rfl rfl (rdO (by exact .head _)) (by intro hc; omega)) ?_
         refine zq rfl (q_fieldEl rfl rfl (rdO (by exact .head _)) (by intro hc; omega)) ?_
         refine zq rfl (q_loadF rfl rfl rfl (rdO (by exact .head _)) (by intro hc; omega) rfl) ?_
         refine zq rfl (q_len rfl (.k rfl (.nil)) (stA (by assumption))) ?_
         refine zq rfl (q_add rfl rfl rfl (by intro hc; omega)) ?_
         refine zq rfl (q_indexN rfl rfl rfl (rdO (by exact .tail _ (.tail _ (.head _)))) (by intro hc; (simp only [AllT.iff, List.all_cons, List.all_nil, id, Bool.and_eq_true, Bool.not_eq_true', Bool.not_eq_false', decide_eq_true_eq, decide_eq_false_iff_not, and_true] at hc; omega))) ?_
         refine zq rfl (q_loadEl rfl rfl rfl (rdO (by exact .tail _ (.tail _ (.head _)))) (by intro hc; (simp only [AllT.iff, List.all_cons, List.all_nil, id, Bool.and_eq_true, Bool.not_eq_true', Bool.not_eq_false', decide_eq_true_eq, decide_eq_false_iff_not, and_true] at hc; omega))) ?_
         refine zq rfl (q_lss rfl rfl rfl) (zq rfl (q_or2 rfl rfl rfl) (qw_end (post_then ?_)))
         refine cw_cond rfl (fun h6 => ?_) (fun h6 => ?_)
         · have hno : fx (nth (offers p cc) X) = -1 := by
             rw [hfxx, if_neg]
             rintro ⟨a1, a2⟩
             simp only [Bool.and_eq_true, decide_eq_true_eq] at a1
             have := hF1 (k + (nth (offers p cc) X).pl.length) a1.1
             simp [a1.1, a1.2] at h6
             omega
           have hst2 : vv (X + 1) = vv X := by rw [hst]; exact step_no (by omega)
           refine cw_exit (post_then_x (post_blk_eq (post_then (cw_region (zm rfl ?_)))))
           refine zS rfl (q_add rfl rfl rfl (by intro hc; omega)) ?_
           refine za rfl (sw_nil ?_)
           exact post_next (X + 1) (by exact .cons rfl (.cons rfl (.cons rfl (.cons rfl (.cons rfl (.cons rfl (.cons rfl (.cons rfl .nil)))))))) (fun w' h => by rw [hst2]; exact h) (by omega) (by omega)
         · have hyes : k + (nth (offers p cc) X).pl.length ≤ m ∧ 0 ≤ D (r + 1) (k + (nth (offers p cc) X).pl.length) ∧ fx (nth (offers p cc) X) = (nth (offers p cc) X).cost + D (r + 1) (k + (nth (offers p cc) X).pl.length) := by
             simp only [Bool.or_eq_false_iff, Bool.not_eq_false', decide_eq_false_iff_not] at h6
             obtain ⟨a1, a2⟩ := h6
             have a3 := a1
             simp only [Bool.and_eq_true, decide_eq_true_eq] at a3
             have := hF1 (k + (nth (offers p cc) X).pl.length) a3.1
             have a4 : 0 ≤ D (r + 1) (k + (nth (offers p cc) X).pl.length) := by rw [← this]; exact Int.not_lt.1 a2
             exact ⟨a3.1, a4, by rw [hfxx, if_pos ⟨a1, a4⟩]⟩
           obtain ⟨hkx, hD0, hfe⟩ := hyes
           have hFx := hF1 _ hkx
           have e3 : ((k : Int) + ((nth (offers p cc) X).pl.length : Int)).toNat = k + (nth (offers p cc) X).pl.length := by omega
           refine sP (cw_seq ?_)
           refine cw_region_q mixed_Tryz (by kernel_rfl) ?_
           refine zw rfl (zw rfl ?_)
           refine zq rfl (q_indexN rfl rfl rfl (rdO (by exact .head _)) (by intro hc; omega)) ?_
           refine zq rfl (q_fieldEl rfl rfl (rdO (by exact .head _)) (by intro hc; omega)) ?_
           refine zq rfl (q_loadF rfl rfl rfl (rdO (by exact .head _)) (by intro hc; omega) rfl) ?_
           refine zw rfl (zw rfl ?_)
           refine zq rfl (q_add rfl rfl rfl (by intro hc; omega)) ?_
           refine zq rfl (q_indexN rfl rfl rfl (rdO (by exact .tail _ (.tail _ (.tail _ (.head _))))) (by intro hc; (simp only [List.length_set, List.length_append, List.length_cons, List.length_nil, List.length_replicate, List.length_take, List.length_drop, List.length_map]; omega))) ?_
           refine zq rfl (q_loadEl rfl rfl rfl (rdO (by exact .tail _ (.tail _ (.tail _ (.head _))))) (by intro hc; (simp only [List.length_set, List.length_append, List.length_cons, List.length_nil, List.length_replicate, List.length_take, List.length_drop, List.length_map]; omega))) ?_
           refine zw rfl (zw rfl (zw rfl ?_))
           refine zq rfl (q_indexN rfl rfl rfl (rdO (by exact .head _)) (by intro hc; omega)) ?_
           refine zq rfl (q_fieldEl rfl rfl (rdO (by exact .head _)) (by intro hc; omega)) ?_
           refine zq rfl (q_loadF rfl rfl rfl (rdO (by exact .head _)) (by intro hc; omega) rfl) ?_
           refine zq rfl (q_len rfl (.k rfl (.nil)) (stA (by assumption))) ?_
           refine zq rfl (q_add rfl rfl rfl (by intro hc; omega)) ?_
           refine zq rfl (q_indexN rfl rfl rfl (rdO (by exact .tail _ (.tail _ (.head _)))) (by intro hc; omega)) ?_
           refine zq rfl (q_loadEl rfl rfl rfl (rdO (by exact .tail _ (.tail _ (.head _)))) (by intro hc; omega)) ?_
           refine zq rfl (q_add rfl rfl rfl (by intro hc; omega)) ?_
           refine zq rfl (q_assign rfl rfl) (qw_end (post_then (zr (zm rfl (zm rfl ?_)))))
           refine zS rfl (q_indexN rfl rfl rfl (rdO (by exact .tail _ (.tail _ (.tail _ (.head _))))) (by intro hc; omega)) ?_
           refine zS rfl (q_loadEl rfl rfl rfl (rdO (by exact .tail _ (.tail _ (.tail _ (.head _))))) (by intro hc; omega)) ?_
           refine zm rfl ?_
           refine zS rfl (q_indexN rfl rfl rfl (rdO (by exact .tail _ (.head _))) (by intro hc; omega)) ?_
           refine zS rfl (q_loadEl rfl rfl rfl (rdO (by exact .tail _ (.head _))) (by intro hc; omega)) ?_
           refine zS rfl (q_lss rfl rfl rfl) (zm rfl (zm rfl (zm rfl (zm rfl ?_))))
           refine zS rfl (q_indexN rfl rfl rfl (rdO (by exact .tail _ (.tail _ (.tail _ (.head _))))) (by intro hc; omega)) ?_
           refine zS rfl (q_loadEl rfl rfl rfl (rdO (by exact .tail _ (.tail _ (.tail _ (.head _))))) (by intro hc; omega)) ?_
           refine zm rfl ?_
           refine zS rfl (q_indexN rfl rfl rfl (rdO (by exact .tail _ (.head _))) (by intro hc; omega)) ?_
           refine zS rfl (q_loadEl rfl rfl rfl (rdO (by exact .tail _ (.head _))) (by intro hc; omega)) ?_
           refine zS rfl (q_lss rfl rfl rfl) (zS rfl (q_or2 rfl rfl rfl) (nP ?_))
           refine cw_cond rfl (fun h7 => ?_) (fun h7 => ?_)
           · have hst2 : vv (X + 1) = (nth (offers p cc) X).cost + nth (F (r + 1)) (k + (nth (offers p cc) X).pl.length) := by
               rw [hFx, ← hfe, hst]
               refine step_yes ⟨by omega, ?_⟩
               simp only [Bool.or_eq_true, decide_eq_true_eq, Int.toNat_natCast, e3, hFx, hcsk, ← hfe] at h7
               omega
             refine cw_region (zm rfl (zm rfl ?_))
             refine zS rfl (q_indexN rfl rfl rfl (rdO (by exact .tail _ (.tail _ (.tail _ (.head _))))) (by intro hc; omega)) ?_
             refine zS rfl (q_loadEl rfl rfl rfl (rdO (by exact .tail _ (.tail _ (.tail _ (.head _))))) (by intro hc; omega)) ?_
             refine zm rfl (zm rfl ?_)
             refine zS rfl (q_indexN rfl rfl rfl (rdO (by exact .tail _ (.head _))) (by intro hc; omega)) ?_
             refine sw_eff0 rfl rfl (e_storeEl1 (i := 1) rfl rfl rfl rfl rfl (by omega)) ?_
             refine sw_nil (post_blk (post_then (cw_region (zm rfl ?_))))
             refine zS rfl (q_add rfl rfl rfl (by intro hc; omega)) ?_
             refine za rfl (sw_nil ?_)
             refine post_next (X + 1) (by exact .cons rfl (.cons rfl (.cons rfl (.cons rfl (.cons rfl (.cons rfl (.cons rfl (.cons rfl .nil)))))))) (fun w' h => ?_) (by omega) (by omega)
             rw [hst2]
             simp only [Int.toNat_natCast, e3, List.set_set] at h
             exact h
           · have hst2 : vv (X + 1) = vv X := by
               rw [hst]
               refine step_no ?_
               simp only [Bool.or_eq_false_iff, decide_eq_false_iff_not, Int.toNat_natCast, e3, hFx, hcsk, ← hfe] at h7
               omega
             refine cw_skip (post_blk (post_then (cw_region (zm rfl ?_))))
             refine zS rfl (q_add rfl rfl rfl (by intro hc; omega)) ?_
             refine za rfl (sw_nil ?_)
             exact post_next (X + 1) (by exact .cons rfl (.cons rfl (.cons rfl (.cons rfl (.cons rfl (.cons rfl (.cons rfl (.cons rfl .nil)))))))) (fun w' h => by rw [hst2]; exact h) (by omega) (by omega)
       · have hX' : X = (offers p cc).length := by simp only [decide_eq_false_iff_not] at h5; omega
         have hvD : vv X = D r k := by rw [hvv, hX', List.take_length, hDs r k hrn, hcc, hfx]
         refine cw_exit (post_then_x (post_then_x (post_blk_eq (post_blk (post_then (cw_region (zm rfl ?_)))))))
         refine zS rfl (q_add rfl rfl rfl (by intro hc; omega)) ?_
         refine za rfl (sw_nil ?_)
         refine post_next (k + 1, cur.set k (vv X)) (by exact .cons rfl (.cons rfl (.cons rfl (.cons rfl (.cons rfl (.cons rfl (.cons rfl .nil))))))) (fun _ h => h) ⟨by simp only; omega, hcsl, fun j hj => ?_, fun j hj hj2 => ?_⟩ (by simp only; omega)
         · simp only at hj ⊢
           rw [nth_setP _ _ _ _ (by omega)]
           by_cases e : j = k
           · rw [if_pos e, e, hvD]
           · rw [if_neg e]; exact hcd j (by omega)
         · simp only at hj hj2 ⊢
           rw [nth_setP _ _ _ _ (by omega), if_neg (by omega)]; exact hcn j (by omega) hj2
     · have hkm : k = m + 1 := by simp only [decide_eq_false_iff_not] at h4; omega
       refine cw_exit (post_then_x (post_then_x (post_blk_eq (post_blk (post_then (cw_region (zm rfl ?_)))))))
       refine zS rfl (q_sub rfl rfl rfl (by intro hc; omega)) ?_
       refine za rfl (sw_nil ?_)
       refine post_next (q + 1, fun j => if j = r then cur else F j) ?_ (fun w3 hw3 => ?_) ⟨by simp only; omega, fun j hj => ?_⟩ (by simp only; omega)
       · exact Le.cons rfl (Le.cons rfl (Le.cons rfl (Le.cons rfl (Le.cons' rfl (by congr 1; simp only; omega) Le.nil))))
       · exact hw3.tail.perm (perm_in2 (rowsF_in2 (by omega) (by omega) (by omega) (fun k _ hk => by dsimp only; rw [if_neg hk]) (by dsimp only; rw [if_pos rfl])))
       · simp only
         by_cases e : j = r
         · rw [if_pos e]
           refine ⟨hcl, fun k hk => ?_⟩
           rw [if_pos (by omega), hcd k (by omega), e]
         · rw [if_neg e]
           obtain ⟨a, b⟩ := hF j hj
           refine ⟨a, fun k hk => ?_⟩
           rw [b k hk]
           by_cases e2 : n - q ≤ j
           · rw [if_pos e2, if_pos (by omega)]
           · rw [if_neg e2, if_neg (by omega)]
   · have hqm : q = n := by simp only [decide_eq_false_iff_not] at h3; omega
     have hFd : ∀ j, j ≤ n → ∀ k, k ≤ m → nth (F j) k = D j k := fun j hj k hk => by rw [(hF j hj).2 k hk, if_pos (by omega)]
     have hFl : ∀ j, j ≤ n → (F j).length = m + 1 := fun j hj => (hF j hj).1
     have h00 := hFd 0 (Nat.zero_le _) 0 (Nat.zero_le _)
     have hl0 := hFl 0 (Nat.zero_le _)
     have hD00 : D 0 0 = leastC p ws l := by rw [hD]; rfl
     have hD00b := hDb 0 0
     refine cw_c (C' := Cl w [] (ownL 3 (nth V 0).v (F 0) :: ownL 116 s25.v V :: rowsO 3 V F 0)) (fun w' hw => hw.perm (perm_in1 (rowsF_out (by omega)).symm).symm) ?_
     refine cw_exit (post_then_x (post_then_x (post_blk_eq (post_then (cw_seq (zr (zm rfl ?_)))))))
     refine zS rfl (q_indexN rfl rfl rfl (rdO (by exact .tail _ (.head _))) (by intro hc; (simp only [List.length_set, List.length_append, List.length_cons, List.length_nil, List.length_replicate, List.length_take, List.length_drop, List.length_map]; omega))) ?_
     refine zS rfl (q_loadEl rfl rfl rfl (rdO (by exact .tail _ (.head _))) (by intro hc; (simp only [List.length_set, List.length_append, List.length_cons, List.length_nil, List.length_replicate, List.length_take, List.length_drop, List.length_map]; omega))) ?_
     refine zS rfl (q_indexN rfl rfl rfl (rdO (by exact .head _)) (by intro hc; (simp only [List.length_set, List.length_append, List.length_cons, List.length_nil, List.length_replicate, List.length_take, List.length_drop, List.length_map]; omega))) ?_
     refine zS rfl (q_loadEl rfl rfl rfl (rdO (by exact .head _)) (by intro hc; (simp only [List.length_set, List.length_append, List.length_cons, List.length_nil, List.length_replicate, List.length_take, List.length_drop, List.length_map]; omega))) ?_
     refine zS rfl (q_lss rfl rfl rfl) (nP ?_)
     refine cw_cond rfl (fun h5 => ?_) (fun h5 => ?_)
     · have h6 : leastC p ws l = -1 := by
         rw [← hD00]
         simp only [decide_eq_true_eq] at h5
         have : nth (F 0) 0 < 0 := h5
         omega
       refine zr (za rfl (za rfl (nP (cw_ret (post_then_r (post_ret2 rfl (resOk_tmp rfl) (resOk_tmp rfl) ?_))))))
       exact fun w' hw => ⟨(⟨none, 0, 0⟩, []), by rw [h6]; rfl, trivial, by rw [if_neg (by omega)]; exact Cl.frz (H := []) ((Cl.sel (by exact .nil _)) w' hw : Cl w [] [] w') fun w _ _ => ⟨rd_nil0 w, rfl, fun i hi => by simp at hi⟩⟩
     · have h6 : 0 ≤ leastC p ws l := by
         rw [← hD00]
         simp only [decide_eq_false_iff_not] at h5
         have : ¬ nth (F 0) 0 < 0 := h5
         omega
       rw [if_pos h6]
       refine cw_c (C' := Cl w [] (ownL 23 (SlV.v ⟨none, 0, 0⟩) ([] : List SlV) :: frz (RdR ([] : List SlV) ([] : List (List ByteArray))) :: ownL 116 s25.v V :: rowsF 3 V F)) (fun w' hw => ?_) ?_
       · have h7 := hw.perm (perm_in1 (rowsF_out (e := 3) (vs := V) (f := F) (i := 0) (by omega)).symm)
         have h8 : Cl w [] (frz (RdR ([] : List SlV) ([] : List (List ByteArray))) :: (ownL 116 s25.v V :: rowsF 3 V F)) w' := Cl.frz (H := []) h7 fun w' bs _ => ⟨rfl, fun i hi => by simp at hi⟩
         exact h8.addNil (α := SlV) 23
       refine sP (zr (za rfl (nP (cw_seq (cw_region (za rfl (sw_nil (post_then (cw_seq (cw_seq (cw_region (za rfl (sw_nil (post_then (cw_block ?_)))))))))))))))
       refine cw_loop (S := (Nat × Nat) × (SlV × List SlV × List (List ByteArray))) (fun y => [(0, [], sp.v), (1, [], sw.v), (2, [], sl.v), (8, [], s25.v), (16, [], y.2.1.v), (17, [], .int .i64 y.1.2), (18, [], .int .i64 y.1.1)]) (fun y => Cl w [] (ownL 23 y.2.1.v y.2.2.1 :: frz (RdR y.2.2.1 y.2.2.2) :: ownL 116 s25.v V :: rowsF 3 V F)) (fun y => y.1.1 ≤ n ∧ y.1.2 ≤ m ∧ y.2.2.1.length = y.1.1 ∧ 0 ≤ D y.1.1 y.1.2 ∧ pathC p ws l = y.2.2.2 ++ pathC p (ws.drop y.1.1) (l.drop y.1.2)) (fun y => n - y.1.1) ((0, 0), (⟨none, 0, 0⟩, [], [])) ⟨Nat.zero_le _, Nat.zero_le _, rfl, by rw [hD00]; exact h6, by simp⟩ (by exact .cons rfl (.cons rfl (.cons rfl (.cons rfl (.cons rfl (.cons rfl (.cons rfl .nil))))))) (fun w' h => h) ?_
       rintro ⟨⟨i, k⟩, ⟨so, vs2, ll⟩⟩ ⟨hi1, hk1, hvl, hDv, hpt⟩
       dsimp only at hi1 hk1 hvl hDv hpt ⊢
       refine cw_seq (zr (zm rfl (zm rfl ?_)))
       refine zS rfl (q_len rfl (.k rfl (.nil)) (stA (by assumption))) ?_
       refine zS rfl (q_lss rfl rfl rfl) (nP ?_)
       refine cw_cond rfl (fun h7 => ?_) (fun h7 => ?_)
       · have hin : i < n := by simp only [decide_eq_true_eq] at h7; omega
         obtain ⟨cc, hcc⟩ : ∃ cc, (nth ws i).v = cc := ⟨_, rfl⟩
         have hol := offers_le p cc
         have hDv2 := hDv
         rw [hD, drop_at (by omega)] at hDv2
         obtain ⟨y, hy1, hy2, hy3, hy4, hy5⟩ := path_step hDv2
         rw [drop_at (by omega : i < ws.length), hy5] at hpt
         rw [← drop_at (by omega : i < ws.length), hcc] at hy1
         rw [hcc] at hy2
         obtain ⟨fx, hfx⟩ : ∃ fx, tryC (leastC p (ws.drop (i + 1))) (l.drop k) = fx := ⟨_, rfl⟩
         have hfxe : ∀ x, fx x = if (decide (k + x.pl.length ≤ m) && decide ((l.take (k + x.pl.length)).drop k = x.pl)) = true ∧ 0 ≤ D (i + 1) (k + x.pl.length) then x.cost + D (i + 1) (k + x.pl.length) else -1 := fun x => by rw [← hfx]; exact hTr i k x hk1
         rw [hfx, ← hD] at hy1
         have hF1 : ∀ k, k ≤ m → nth (F (i + 1)) k = D (i + 1) k := fun k hk => hFd (i + 1) (by omega) k hk
         have hF0 : nth (F i) k = D i k := hFd i hi1 k hk1
         have hl1 := hFl (i + 1) (by omega)
         have hl0 := hFl i hi1
         refine cw_c (C' := Cl w [] (ownL 23 so.v vs2 :: frz (RdR vs2 ll) :: ownL 3 (nth V i).v (F i) :: ownL 3 (nth V (i + 1)).v (F (i + 1)) :: ownL 116 s25.v V :: rowsO2 3 V F i (i + 1))) (fun w' hw => hw.perm (((perm_in2 (rowsF_out2 (by omega) (by omega) (by omega)).symm).cons _).cons _).symm) ?_
         refine sP (cw_seq (cw_block (zr (zm rfl (zm rfl (zm rfl ?_))))))
         refine zS rfl (q_indexN rfl rfl rfl (stA (by assumption)) (by intro hc; omega)) ?_
         refine zS rfl (q_loadEl rfl rfl rfl (stA (by assumption)) (by intro hc; omega)) ?_
         refine sw_x rfl rfl rfl (e_call (CanCall.mk Tryz.call67) rfl (.k rfl (.k rfl (.nil))) (fun w1 hw => pieces_spec sp.v p (nth ws i).v hpn w1 (stb_arg hw hp))) (fun s176 => ?_)
         refine sw_imp fun _ => ?_
         rw [hcc]
         refine za rfl (nP (zr (za rfl (sw_nil (post_then (cw_block ?_))))))
         refine cw_loop (S := Nat) (fun X => [(0, [], sp.v), (1, [], sw.v), (2, [], sl.v), (8, [], s25.v), (16, [], so.v), (17, [], .int .i64 k), (18, [], .int .i64 i), (19, [], s176.v), (20, [], .int .i64 X)]) (fun _ => Cl w [] (ownL 68 s176.v (offers p cc) :: ownL 23 so.v vs2 :: frz (RdR vs2 ll) :: ownL 3 (nth V i).v (F i) :: ownL 3 (nth V (i + 1)).v (F (i + 1)) :: ownL 116 s25.v V :: rowsO2 3 V F i (i + 1))) (fun X => X ≤ (offers p cc).length ∧ ∀ X', X' < X → ¬ fx (nth (offers p cc) X') = D i k) (fun X => (offers p cc).length - X) 0 ⟨Nat.zero_le _, fun X' h => by omega⟩ (by exact .cons rfl (.cons rfl (.cons rfl (.cons rfl (.cons rfl (.cons rfl (.cons rfl (.cons rfl (.cons rfl .nil))))))))) (fun w' h => h) ?_
         rintro X ⟨hX, hno⟩
         refine cw_seq (zr (zm rfl (zm rfl ?_)))
         refine zS rfl (q_len rfl (.k rfl (.nil)) (rdO (by exact .head _))) ?_
         refine zS rfl (q_lss rfl rfl rfl) (nP ?_)
         refine cw_cond rfl (fun h8 => ?_) (fun h8 => ?_)
         · have hX' : X < (offers p cc).length := by simp only [decide_eq_true_eq] at h8; omega
           have hxm : (nth (offers p cc) X) ∈ p := (offers_mem.1 (nth_mem hX')).1
           have hxs : Stb w [] (RdL (nth (offers p cc) X).p.v (nth (offers p cc) X).pl) := stb_mem hpi hxm
           have hxc := hcost (nth (offers p cc) X) hxm
           have hxl := hpl (nth (offers p cc) X) hxm
           have hfxx := hfxe (nth (offers p cc) X)
           have hxD := hDb (i + 1) (k + (nth (offers p cc) X).pl.length)
           refine sP (cw_seq (cw_block (cw_seq ?_)))
           refine cw_region_q mixed_Tryz (by kernel_rfl) ?_
           refine zw rfl (zw rfl ?_)
           refine zq rfl (q_sliceL rfl rfl rfl (stA (by assumption)) (by intro hc; omega)) ?_
           refine zw rfl (zw rfl ?_)
           refine zq rfl (q_indexN rfl rfl rfl (rdO (by exact .head _)) (by intro hc; omega)) ?_
           refine zq rfl (q_fieldEl rfl rfl (rdO (by exact .head _)) (by intro hc; omega)) ?_
           refine zq rfl (q_loadF rfl rfl rfl (rdO (by exact .head _)) (by intro hc; omega) rfl) ?_
           rw [hme]
           refine qw_step rfl rfl rfl (q_call (CanCall.mk Tryz.call68) rfl (.k rfl (.k rfl (.nil))) (fun _ w1 hw => callq hw (hbg k (nth (offers p cc) X) w1 hk1 (stb_arg hw hl) (stb_arg hw hxs)))) (qw_end (post_then ?_))
           have e3 : ((k : Int) + ((nth (offers p cc) X).pl.length : Int)).toNat = k + (nth (offers p cc) X).pl.length := by omega
           refine cw_cond rfl (fun h9 => ?_) (fun h9 => ?_)
           · have h9' := h9
             simp only [Bool.and_eq_true, decide_eq_true_eq] at h9'
             have hFx := hF1 _ h9'.1
             refine cw_seq ?_
             refine cw_region_q mixed_Tryz (by kernel_rfl) ?_
             refine zw rfl (zw rfl ?_)
             refine zq rfl (q_add rfl rfl rfl (by intro hc; omega)) ?_
             refine zq rfl (q_indexN rfl rfl rfl (rdO (by exact .tail _ (.tail _ (.tail _ (.tail _ (.tail _ (.head _))))))) (by intro hc; (simp only [List.length_set, List.length_append, List.length_cons, List.length_nil, List.length_replicate, List.length_take, List.length_drop, List.length_map]; omega))) ?_
             refine zq rfl (q_loadEl rfl rfl rfl (rdO (by exact .tail _ (.tail _ (.tail _ (.tail _ (.tail _ (.head _))))))) (by intro hc; (simp only [List.length_set, List.length_append, List.length_cons, List.length_nil, List.length_replicate, List.length_take, List.length_drop, List.length_map]; omega))) ?_
             refine zw rfl (zw rfl (zw rfl ?_))
             refine zq rfl (q_indexN rfl rfl rfl (rdO (by exact .head _)) (by intro hc; omega)) ?_
             refine zq rfl (q_fieldEl rfl rfl (rdO (by exact .head _)) (by intro hc; omega)) ?_
             refine zq rfl (q_loadF rfl rfl rfl (rdO (by exact .head _)) (by intro hc; omega) rfl) ?_
             refine zq rfl (q_len rfl (.k rfl (.nil)) (stA (by assumption))) ?_
             refine zq rfl (q_add rfl rfl rfl (by intro hc; omega)) ?_
             refine zq rfl (q_indexN rfl rfl rfl (rdO (by exact .tail _ (.tail _ (.tail _ (.tail _ (.head _)))))) (by intro hc; omega)) ?_
             refine zq rfl (q_loadEl rfl rfl rfl (rdO (by exact .tail _ (.tail _ (.tail _ (.tail _ (.head _)))))) (by intro hc; omega)) ?_
             refine zq rfl (q_assign rfl rfl) (qw_end (post_then (cw_seq ?_)))
             refine cw_region_q mixed_Tryz (by kernel_rfl) ?_
             refine zw rfl (zq rfl (q_geq rfl rfl rfl) (zw rfl (zw rfl (zw rfl ?_))))
             refine zq rfl (q_indexN rfl rfl rfl (rdO (by exact .head _)) (by intro hc; omega)) ?_
             refine zq rfl (q_fieldEl rfl rfl (rdO (by exact .head _)) (by intro hc; omega)) ?_
             refine zq rfl (q_loadF rfl rfl rfl (rdO (by exact .head _)) (by intro hc; omega) rfl) ?_
             refine zw rfl ?_
             refine zq rfl (q_add rfl rfl rfl (by intro hc; omega)) ?_
             refine zw rfl (zw rfl ?_)
             refine zq rfl (q_indexN rfl rfl rfl (rdO (by exact .tail _ (.tail _ (.tail _ (.tail _ (.tail _ (.head _))))))) (by intro hc; omega)) ?_
             refine zq rfl (q_loadEl rfl rfl rfl (rdO (by exact .tail _ (.tail _ (.tail _ (.tail _ (.tail _ (.head _))))))) (by intro hc; omega)) ?_
             refine zw rfl ?_
             refine zq rfl (q_indexN rfl rfl rfl (rdO (by exact .tail _ (.tail _ (.tail _ (.head _))))) (by intro hc; omega)) ?_
             refine zq rfl (q_loadEl rfl rfl rfl (rdO (by exact .tail _ (.tail _ (.tail _ (.head _))))) (by intro hc; omega)) ?_
             refine zq rfl (q_eql rfl rfl rfl) (zq rfl (q_and2 rfl rfl rfl) (qw_end (post_then ?_)))
             simp only [Int.toNat_natCast, e3, hFx, hF0]
             refine cw_cond rfl (fun h10 => ?_) (fun h10 => ?_)
             · have hch : fx (nth (offers p cc) X) = D i k := by
                 simp only [Bool.and_eq_true, decide_eq_true_eq] at h10
                 rw [hfxx, if_pos ⟨h9, h10.1⟩]; exact h10.2
               have hxy : nth (offers p cc) X = y := by
                 have e1 : (offers p cc).find? (fun x => decide (fx x = D i k)) = some (nth (offers p cc) X) := find_at hX' (fun z hz => by simpa using hno z hz) (by simpa using hch)
                 rw [e1] at hy1; exact Option.some.inj hy1
               rw [← hxy, List.drop_drop] at hy4
               rw [← hxy, List.drop_drop] at hpt
               refine cw_c (C' := Cl w [] (ownL 9 (SlV.v ⟨none, 0, 0⟩) ([] : List ByteArray) :: ownL 68 s176.v (offers p cc) :: ownL 23 so.v vs2 :: frz (RdR vs2 ll) :: ownL 3 (nth V i).v (F i) :: ownL 3 (nth V (i + 1)).v (F (i + 1)) :: ownL 116 s25.v V :: rowsO2 3 V F i (i + 1))) (fun w' h => h.addNil (α := ByteArray) 9) (zr (zm rfl (zm rfl (zm rfl ?_))))
               refine zS rfl (q_indexN rfl rfl rfl (rdO (by exact .tail _ (.head _))) (by intro hc; omega)) ?_
               refine zS rfl (q_fieldEl rfl rfl (rdO (by exact .tail _ (.head _))) (by intro hc; omega)) ?_
               refine zS rfl (q_loadF rfl rfl rfl (rdO (by exact .tail _ (.head _))) (by intro hc; omega) rfl) ?_
               refine sw_x rfl rfl rfl (e_append (α := ByteArray) (i := 0) rfl (.k rfl (.k rfl (.nil))) rfl rfl (stA (by assumption)) (by simp only [List.length_nil]; omega) rfl) (fun s232 => ?_)
               refine sw_x rfl rfl rfl (e_build1 (α := SlV) rfl rfl rfl rfl) (fun s233 => ?_)
               refine sw_x rfl rfl rfl (e_append (i := 3) rfl (.k rfl (.k rfl (.nil))) rfl rfl (rdO (by exact .head _)) (by first | omega | (simp only [List.length_set, List.length_append, List.length_cons, List.length_nil, List.length_replicate, List.length_take, List.length_drop, List.length_map]; omega)) rfl) (fun s234 => ?_)
               refine za rfl (nP (zr (zm rfl (zm rfl (zm rfl ?_)))))
               refine zS rfl (q_indexN rfl rfl rfl (rdO (by exact .tail _ (.tail _ (.head _)))) (by intro hc; omega)) ?_
               refine zS rfl (q_fieldEl rfl rfl (rdO (by exact .tail _ (.tail _ (.head _)))) (by intro hc; omega)) ?_
               refine zS rfl (q_loadF rfl rfl rfl (rdO (by exact .tail _ (.tail _ (.head _)))) (by intro hc; omega) rfl) ?_
               refine zS rfl (q_len rfl (.k rfl (.nil)) (stA (by assumption))) ?_
               refine zS rfl (q_add rfl rfl rfl (by intro hc; omega)) ?_
               refine za rfl (nP (cw_exit (post_blk_ne rfl (post_then_x (post_then_x (post_blk_eq (post_blk (post_then (cw_region (zm rfl ?_))))))))))
               refine zS rfl (q_add rfl rfl rfl (by intro hc; omega)) ?_
               refine za rfl (sw_nil ?_)
               refine post_next ((i + 1, k + (nth (offers p cc) X).pl.length), (s234, vs2 ++ [s232], ll ++ [(nth (offers p cc) X).pl])) (by exact .cons rfl (.cons rfl (.cons rfl (.cons rfl (.cons rfl (.cons rfl (.cons rfl .nil))))))) (fun w' h => ?_) ⟨by simp only; omega, h9'.1, by simp; omega, by simp only; rw [hD]; exact hy4, by simp only; rw [hpt, List.append_assoc]; rfl⟩ (by simp only; omega)
               have hA : Cl w [] (ownL 9 s232.v (nth (offers p cc) X).pl :: ownL 68 s176.v (offers p cc) :: ownL 23 s234.v (vs2 ++ [s232]) :: frz (RdR vs2 ll) :: ownL 3 (nth V i).v (F i) :: ownL 3 (nth V (i + 1)).v (F (i + 1)) :: ownL 116 s25.v V :: rowsO2 3 V F i (i + 1)) w' := h.tail
               have h11 := (hA.perm (List.Perm.swap _ _ _)).tail.perm ((List.Perm.swap _ _ _).cons _)
               have h12 : Cl w [] (frz (RdR (vs2 ++ [s232]) (ll ++ [(nth (offers p cc) X).pl])) :: (ownL 23 s234.v (vs2 ++ [s232]) :: ownL 3 (nth V i).v (F i) :: ownL 3 (nth V (i + 1)).v (F (i + 1)) :: ownL 116 s25.v V :: rowsO2 3 V F i (i + 1))) w' := Cl.frz (H := [ownL 9 s232.v (nth (offers p cc) X).pl, frz (RdR vs2 ll)]) h11 fun w' bs ⟨b1, _, _, k1, b2, _, _, k2, _⟩ => rdR_snoc (frz_here k2) (ownL.rd k1)
               exact h12.perm ((List.Perm.swap _ _ _).trans (((perm_in2 (rowsF_out2 (by omega) (by omega) (by omega)).symm).cons _).cons _))
             · have hch : ¬ fx (nth (offers p cc) X) = D i k := by
                 simp only [Bool.and_eq_false_iff, decide_eq_false_iff_not] at h10
                 rw [hfxx]
                 by_cases a1 : 0 ≤ D (i + 1) (k + (nth (offers p cc) X).pl.length)
                 · rw [if_pos ⟨h9, a1⟩]
                   rcases h10 with h10 | h10
                   · exact absurd a1 h10
                   · exact h10
                 · rw [if_neg (fun h => a1 h.2)]; omega
               refine cw_skip (post_blk (post_then (cw_region (zm rfl ?_))))
               refine zS rfl (q_add rfl rfl rfl (by intro hc; omega)) ?_
               refine za rfl (sw_nil ?_)
               exact post_next (X + 1) (by exact .cons rfl (.cons rfl (.cons rfl (.cons rfl (.cons rfl (.cons rfl (.cons rfl (.cons rfl (.cons rfl .nil))))))))) (fun w' h => h) ⟨by omega, fun z hz => by
                 rcases Nat.lt_or_ge z X with b1 | b1
                 · exact hno z b1
                 · have : z = X := by omega
                   subst this; exact hch⟩ (by omega)
           · have hch : ¬ fx (nth (offers p cc) X) = D i k := by
               rw [hfxx, if_neg (fun h => by rw [h.1] at h9; cases h9)]; omega
             refine cw_skip (post_blk (post_then (cw_region (zm rfl ?_))))
             refine zS rfl (q_add rfl rfl rfl (by intro hc; omega)) ?_
             refine za rfl (sw_nil ?_)
             exact post_next (X + 1) (by exact .cons rfl (.cons rfl (.cons rfl (.cons rfl (.cons rfl (.cons rfl (.cons rfl (.cons rfl (.cons rfl .nil))))))))) (fun w' h => h) ⟨by omega, fun z hz => by
               rcases Nat.lt_or_ge z X with b1 | b1
               · exact hno z b1
               · have : z = X := by omega
                 subst this; exact hch⟩ (by omega)
         · exfalso
           have hX' : X = (offers p cc).length := by simp only [decide_eq_false_iff_not] at h8; omega
           have h6 := List.find?_some hy1
           obtain ⟨z, hz1, hz2⟩ := List.getElem_of_mem hy2
           refine hno z (by omega) ?_
           rw [nth_get hz1, hz2]
           simpa using h6
       · have hin : i = n := by simp only [decide_eq_false_iff_not] at h7; omega
         rw [hin, ← hne, List.drop_length] at hpt
         have hpt2 : pathC p ws l = ll := by rw [hpt]; simp [pathC]
         refine cw_c (C' := Cl w [] (ownL 23 so.v vs2 :: frz (RdR vs2 ll) :: ownL 3 (nth V 0).v (F 0) :: ownL 116 s25.v V :: rowsO 3 V F 0)) (fun w' hw => hw.perm (((perm_in1 (rowsF_out (by omega)).symm).cons _).cons _).symm) ?_
         refine cw_exit (post_then_x (post_then_x (post_blk_eq (post_then (cw_seq ?_)))))
         refine cw_region_q mixed_Tryz (by kernel_rfl) ?_
         refine zw rfl (zw rfl ?_)
         refine zq rfl (q_indexN rfl rfl rfl (rdO (by exact .tail _ (.tail _ (.tail _ (.head _))))) (by intro hc; (simp only [List.length_set, List.length_append, List.length_cons, List.length_nil, List.length_replicate, List.length_take, List.length_drop, List.length_map]; omega))) ?_
         refine zq rfl (q_loadEl rfl rfl rfl (rdO (by exact .tail _ (.tail _ (.tail _ (.head _))))) (by intro hc; (simp only [List.length_set, List.length_append, List.length_cons, List.length_nil, List.length_replicate, List.length_take, List.length_drop, List.length_map]; omega))) ?_
         refine zq rfl (q_indexN rfl rfl rfl (rdO (by exact .tail _ (.tail _ (.head _)))) (by intro hc; (simp only [List.length_set, List.length_append, List.length_cons, List.length_nil, List.length_replicate, List.length_take, List.length_drop, List.length_map]; omega))) ?_
         refine zq rfl (q_loadEl rfl rfl rfl (rdO (by exact .tail _ (.tail _ (.head _)))) (by intro hc; (simp only [List.length_set, List.length_append, List.length_cons, List.length_nil, List.length_replicate, List.length_take, List.length_drop, List.length_map]; omega))) ?_
         refine zq rfl (q_assign rfl rfl) (zq rfl (q_assign rfl rfl) (qw_end (post_then (cw_ret (post_ret2 rfl (resOk_tmp rfl) (resOk_tmp rfl) ?_)))))
         refine fun w' hw => ⟨(so, vs2), ?_, trivial, ?_⟩
         · rw [← hD00, ← h00]; rfl
         · rw [hpt2]
           have h12 : Cl w [] (frz (fun w => RdL so.v vs2 w ∧ RdR vs2 ll w) :: (ownL 3 (nth V 0).v (F 0) :: ownL 116 s25.v V :: rowsO 3 V F 0)) w' := Cl.frz (H := [ownL 23 so.v vs2, frz (RdR vs2 ll)]) hw fun w' bs ⟨b1, _, _, k1, b2, _, _, k2, _⟩ => ⟨ownL.rd k1, frz_here k2⟩
           exact Cl.sel (.take 0 rfl (.nil _)) w' h12
end Go.Proofs.YtkmbliojafefdaaGreatDoor

set_option autoImplicit false
set_option maxRecDepth 100000
namespace Go.Proofs.YtkmbliojafefdaaGreatDoor
open Go.Sx
open Enc (enc val)
def exR (sw : SlV) (vs : List SlV) (ws : List Rn) (P : List (List ByteArray)) (i : Nat) : XR := ⟨sw, i, nth vs i, ws, nth P i⟩
theorem evR_exR (sw : SlV) (vs : List SlV) (ws : List Rn) (P : List (List ByteArray)) (n : Nat) : evR ((List.range n).map (exR sw vs ws P)) = (List.range n).map (evAt ws P) := by
 unfold evR
 rw [List.map_map]
 rfl
theorem examples_spec (sp : SlV) (p : List Pr) (u : Sp) (hpn : p.length ≤ 100000) (hcost : CostOk p) (hpl : ∀ x ∈ p, x.pl.length ≤ 1000) (hwk : wordOk u.word = true) (hwn : u.word.size ≤ 60) (hm : u.pl.length ≤ 800) (w : World) (hT : Stb w [] Tab) (hp : Stb w [] (RdL sp.v p)) (hpi : Stb w [] fun w' => ∀ u ∈ p, PrIn u w') (hu : Stb w [] (SpIn u)) :
   Calls Tryz.prog 34 #[sp.v, val u] w fun e w' => ∃ y : SlV × List XR, e = .returned y.1.v ∧ (evR y.2 = evU p u ∧ ∀ e ∈ y.2, RxOk e) ∧ Cl w [] [Sx.frz fun w => RdL y.1.v y.2 w ∧ ∀ e ∈ y.2, RxIn e w] w' := by
 obtain ⟨ws, hws⟩ : ∃ ws, runes u.word = ws := ⟨_, rfl⟩
 have hwl : ws.length ≤ 60 := by rw [← hws]; have := runes_len_le u.word; omega
 have hlr := lettersR_ok hwk
 refine calls_cw (vs := [_, _]) Tryz.func34 rfl Tryz.ntmps34 rfl (Cl.start0 w) (zr ?_)
 refine sw_x rfl rfl rfl (e_box rfl rfl rfl) (fun b3 => ?_)
 refine za rfl (nP (zr (zS rfl (q_fieldAddr rfl rfl) ?_)))
 refine zS rfl (q_loadC rfl rfl (by exact .head _) rfl) ?_
 refine sw_x rfl rfl rfl (e_call (CanCall.mk Tryz.call21) rfl (.k rfl (.nil)) (fun w1 hw => refLetters_spec u.word w1 (by omega) (stb_arg hw hT))) (fun sw => ?_)
 refine sw_imp fun _ => ?_
 rw [hlr, hws]
 refine zm rfl (zS rfl (q_extract rfl rfl rfl) (zS rfl (q_extract rfl rfl rfl) (za rfl (za rfl (nP (zr (zm rfl (zm rfl (zS rfl (q_fieldAddr rfl rfl) ?_)))))))))
 refine zS rfl (q_loadC rfl rfl (by exact .tail _ (.head _)) rfl) ?_
 refine sw_x rfl rfl rfl (e_call (CanCall.mk Tryz.call24) rfl (.k rfl (.k rfl (.k rfl (.nil)))) (fun w1 hw => refAlign_spec2 sp sw u.p p ws u.pl (by omega) (by omega) hpn hcost hpl w1 (stb_arg hw hp) (stb_arg hw hpi) (by exact stb_own hw (by exact .head _)) (stb_arg hw hu))) (fun y => ?_)
 refine sw_imp fun _ => ?_
 obtain ⟨sa, vs⟩ := y
 dsimp only
 obtain ⟨P, hP⟩ : ∃ P, (if 0 ≤ leastC p ws u.pl then pathC p ws u.pl else []) = P := ⟨_, rfl⟩
 rw [hP]
 have hPn : P.length ≤ ws.length ∧ (0 < P.length → 0 ≤ leastC p ws u.pl ∧ P.length = ws.length) ∧ (∀ q ∈ P, q.length ≤ 1000) := by
   rw [← hP]
   split
   · rename_i h0
     obtain ⟨k1, k2⟩ := path_ok h0
     exact ⟨by omega, fun _ => ⟨h0, k1⟩, fun q hq => by obtain ⟨x, hx, rfl⟩ := k2 q hq; exact hpl x hx⟩
   · exact ⟨Nat.zero_le _, fun h => by simp at h, fun q hq => by simp at hq⟩
 have hPe : (List.range P.length).map (evAt ws P) = evU p u := by
   unfold evU alOk
   rw [hws]
   by_cases h0 : 0 ≤ leastC p ws u.pl
   · rw [if_pos h0] at hP
     rw [if_pos (by simpa using h0)]
     unfold evOf alP alOk
     rw [hws, if_pos (by simpa using h0), hP]
     rw [← hP, (path_ok h0).1]
   · rw [if_neg h0] at hP
     rw [if_neg (by simpa using h0), ← hP]; rfl
 obtain ⟨k1, k2, k3⟩ := hPn
 refine sw_pureP (p := vs.length = P.length) (fun w1 h1 => (rd_frz (R := fun w => RdL sa.v vs w ∧ RdR vs P w) h1 (.head _)).2.1) fun hvl => (zm rfl (zS rfl (q_extract rfl rfl rfl) (zS rfl (q_extract rfl rfl rfl) (za rfl (za rfl (nP (zr (za rfl (sw_nil (post_then (cw_seq (cw_seq (cw_region (za rfl (sw_nil (post_then (cw_block ?_)))))))))))))))))
 refine cw_loop (S := Nat × SlV) (fun y => [(3, [], .pointer (some ⟨b3, 0, none⟩)), (5, [], sw.v), (7, [], sa.v), (8, [], .int .i64 (leastC p ws u.pl)), (9, [], y.2.v), (10, [], .int .i64 y.1)]) (fun y => Cl w [] [ownL 58 y.2.v ((List.range y.1).map (exR sw vs ws P)), Sx.frz (fun w => RdL sa.v vs w ∧ RdR vs P w), ownL 21 sw.v ws, blk b3 (enc u) 56]) (fun y => y.1 ≤ P.length) (fun y => P.length - y.1) (0, ⟨none, 0, 0⟩) (Nat.zero_le _) (by exact .cons rfl (.cons rfl (.cons rfl (.cons rfl (.cons rfl (.cons rfl .nil)))))) (fun w' h => Cl.addNil (α := XR) 58 ((Cl.sel (by exact .take 0 rfl (.take 0 rfl (.take 0 rfl (.nil _))))) _ h)) ?_
 rintro ⟨i, so⟩ hi
 dsimp only at hi ⊢
 have hvs : ∀ w1, Cl w [] [ownL 58 so.v ((List.range i).map (exR sw vs ws P)), Sx.frz (fun w => RdL sa.v vs w ∧ RdR vs P w), ownL 21 sw.v ws, blk b3 (enc u) 56] w1 → RdL sa.v vs w1 := fun w1 h => (rd_frz (R := fun w => RdL sa.v vs w ∧ RdR vs P w) h (by exact .tail _ (.head _))).1
 refine cw_seq (zr (zm rfl (zm rfl ?_)))
 refine zS rfl (q_len rfl (.k rfl (.nil)) (by assumption)) ?_
 refine zS rfl (q_lss rfl rfl rfl) (zm rfl (zm rfl (zS rfl (q_geq rfl rfl rfl) (zS rfl (q_and2 rfl rfl rfl) (nP ?_)))))
 refine cw_cond rfl (fun h => ?_) (fun h => ?_)
 · have hi' : i < P.length := by simp at h; omega
   have hck := k2 (by omega)
   refine sP (cw_seq (cw_block (cw_region (zm rfl (zm rfl (zm rfl (zm rfl (zm rfl ?_))))))))
   refine zS rfl (q_indexN rfl rfl rfl (by assumption) (by intro hc; omega)) ?_
   refine zS rfl (q_loadEl rfl rfl rfl (by assumption) (by intro hc; omega)) ?_
   refine zS rfl (q_build rfl (.k rfl (.k rfl (.k rfl (.nil)))) rfl) ?_
   refine sw_x rfl rfl rfl (e_buildL (α := XR) (l := [exR sw vs ws P i]) rfl (.k rfl (.nil)) rfl rfl rfl rfl) (fun s43 => ?_)
   refine sw_x rfl rfl rfl (e_append (α := XR) (i := 1) rfl (.k rfl (.k rfl (.nil))) rfl rfl (rdO (by exact .head _)) (by simp; omega) rfl) (fun s44 => ?_)
   refine za rfl (sw_nil (post_blk (post_then (cw_region (zm rfl ?_)))))
   refine zS rfl (q_add rfl rfl rfl (by intro hc; omega)) ?_
   refine za rfl (sw_nil ?_)
   refine post_next (i + 1, s44) (by exact .cons rfl (.cons rfl (.cons rfl (.cons rfl (.cons rfl (.cons rfl .nil)))))) (fun w' h => ?_) (by simp only; omega) (by simp only; omega)
   dsimp only
   rw [List.range_succ, List.map_append]
   exact (Cl.sel (by exact .take 1 rfl (.take 1 rfl (.take 1 rfl (.take 1 rfl (.nil _)))))) _ h
 · have hi' : i = P.length := by
     simp at h
     rcases Nat.eq_or_lt_of_le hi with e | e
     · exact e
     · have := (k2 (by omega)).1; omega
   subst hi'
   refine cw_exit (post_then_x (post_then_x (post_blk_eq (post_then (zr (zm rfl (za rfl (nP (cw_ret (post_ret1 rfl (resOk_tmp rfl) ?_))))))))))
   refine fun w' h => ⟨(so, (List.range P.length).map (exR sw vs ws P)), rfl, ⟨by rw [evR_exR, hPe], fun e he => ?_⟩, ?_⟩
   · obtain ⟨i, hi, rfl⟩ := List.mem_map.1 he
     rw [List.mem_range] at hi
     exact ⟨k3 _ (nth_mem hi), ⟨by show (0 : Int) ≤ (i : Int); omega, by show (i : Int) ≤ 1000; omega⟩, by show (i : Int) < ws.length; omega⟩
   · have h1 : Cl w [] ([ownL 58 so.v ((List.range P.length).map (exR sw vs ws P)), Sx.frz (fun w => RdL sa.v vs w ∧ RdR vs P w), ownL 21 sw.v ws] ++ []) w' := (Cl.sel (by exact .take 0 rfl (.take 0 rfl (.take 0 rfl (.nil _))))) _ h
     exact Cl.frz h1 fun w bs ⟨_, _, _, j1, _, _, _, j2, _, _, _, j3, _⟩ => ⟨ownL.rd j1, fun e he => by
       obtain ⟨i, hi, rfl⟩ := List.mem_map.1 he
       rw [List.mem_range] at hi
       exact ⟨ownL.rd j3, (frz_here j2).2.2 i hi⟩⟩
end Go.Proofs.YtkmbliojafefdaaGreatDoor

set_option autoImplicit false
set_option maxRecDepth 100000
namespace Go.Proofs.YtkmbliojafefdaaGreatDoor
open Go.Sx
open Enc (enc val)
end Go.Proofs.YtkmbliojafefdaaGreatDoor

set_option autoImplicit false
set_option maxRecDepth 100000
namespace Go.Proofs.YtkmbliojafefdaaGreatDoor
open Go.Sx
open Enc (enc val)
end Go.Proofs.YtkmbliojafefdaaGreatDoor

set_option autoImplicit false
set_option maxRecDepth 100000
namespace Go.Proofs.YtkmbliojafefdaaGreatDoor
open Go.Sx
open Enc (enc val)
def brP (u : Sp) : Bool := decide (u.word.size ≤ 12) && decide (u.pl.length ≤ 20)
def brf (l : List Sp) : Bool := (l.take 21).all brP
theorem nth_take {α : Type} [Inhabited α] {l : List α} {n k : Nat} (h : k < n) : nth (l.take n) k = nth l k := by
 by_cases h1 : k < l.length
 · rw [nth_get h1, nth_get (by rw [List.length_take]; omega), List.getElem_take]
 · have e : ∀ m : List α, m.length ≤ k → nth m k = default := fun m hm => by
     unfold nth
     simp [List.getElem?_eq_none hm]
   rw [e _ (by rw [List.length_take]; omega), e _ (by omega)]
theorem brief_spec (sv : Value) (l : List Sp) (hz : ∀ u ∈ l, u.word.size ≤ 9223372036854775807) (w : World) (hs : Stb w [] (RdL sv l)) (hp : Stb w [] fun w' => ∀ u ∈ l, SpIn u w') : Calls Tryz.prog 28 #[sv] w fun e w' => e = .returned (.bool (brf l)) ∧ Cl w [] [] w' := by
 have hL := rd_len hs.here
 refine calls_cw (vs := [_]) Tryz.func28 rfl Tryz.ntmps28 rfl (Cl.start0 w) (zr (za rfl (nP (cw_seq (cw_seq (cw_region (za rfl (sw_nil (post_then (cw_block ?_))))))))))
 refine cw_loop (S := Nat) (fun k => [(0, [], sv), (3, [], .int .i64 k)]) (fun _ => Cl w [] []) (fun k => k ≤ l.length ∧ k ≤ 21 ∧ ∀ i, i < k → brP (nth l i) = true) (fun k => l.length - k) 0 ⟨by omega, by omega, fun j hj => by omega⟩ (by exact .cons rfl (.cons rfl .nil)) (Cl.sel (by exact .nil _)) ?_
 rintro k ⟨hk, hk21, hbe⟩
 refine cw_seq (zr (zm rfl (zm rfl ?_)))
 refine zS rfl (q_len rfl (.k rfl (.nil)) (stA (by assumption))) ?_
 refine zS rfl (q_lss rfl rfl rfl) (zm rfl (zm rfl (zS rfl (q_leq rfl rfl rfl) (zS rfl (q_and2 rfl rfl rfl) (nP ?_)))))
 refine cw_cond rfl (fun h2 => ?_) (fun h2 => ?_)
 · have hk' : k < l.length ∧ k < 21 := by simp at h2; omega
   have hx := rd_stb (hp.here _ (nth_mem hk'.1))
   have hzk := hz _ (nth_mem hk'.1)
   refine sP (cw_seq (cw_block (zr (zm rfl (zm rfl ?_)))))
   refine zS rfl (q_indexN rfl rfl rfl (stA (by assumption)) (by intro hc; omega)) ?_
   refine zS rfl (q_fieldEl rfl rfl (stA (by assumption)) (by intro hc; omega)) ?_
   refine zS rfl (q_loadF rfl rfl rfl (stA (by assumption)) (by intro hc; omega) rfl) ?_
   refine zS rfl (q_lenS rfl (.k rfl (.nil)) Tryz.underlying9) (zS rfl (q_gtr rfl rfl rfl) (zm rfl (zm rfl (zm rfl ?_))))
   refine zS rfl (q_indexN rfl rfl rfl (stA (by assumption)) (by intro hc; omega)) ?_
   refine zS rfl (q_fieldEl rfl rfl (stA (by assumption)) (by intro hc; omega)) ?_
   refine zS rfl (q_loadF rfl rfl rfl (stA (by assumption)) (by intro hc; omega) rfl) ?_
   refine zS rfl (q_len rfl (.k rfl (.nil)) (stA (by assumption))) ?_
   refine zS rfl (q_gtr rfl rfl rfl) (zS rfl (q_or2 rfl rfl rfl) (nP ?_))
   refine cw_cond rfl (fun h3 => ?_) (fun h3 => ?_)
   · have e0 : brP (nth l k) = false := by
       unfold brP
       simp at h3 ⊢; omega
     have e1 : brf l = false := by
       unfold brf
       exact all_no (k := k) (by rw [List.length_take]; omega) (by rw [nth_take hk'.2]; exact e0)
     refine zr (za rfl (nP (cw_ret (post_blk_r (post_then_r (post_then_r (post_blk_r (post_then_r (post_ret1 rfl (resOk_tmp rfl) ?_)))))))))
     exact fun w' hw => ⟨by rw [e1], (Cl.sel (by exact .nil _)) _ hw⟩
   · have e1 : brP (nth l k) = true := by
       unfold brP
       simp at h3 ⊢; omega
     refine cw_skip (post_blk (post_then (cw_region (zm rfl ?_))))
     refine zS rfl (q_add rfl rfl rfl (by intro hc; omega)) ?_
     refine za rfl (sw_nil ?_)
     exact post_next (k + 1) (by exact .cons rfl (.cons rfl .nil)) (Cl.sel (by exact .nil _)) ⟨by omega, by omega, fun i hi => by
       rcases Nat.lt_or_ge i k with h6 | h6
       · exact hbe i h6
       · have : i = k := by omega
         subst this; exact e1⟩ (by omega)
 · have hk' : k = l.length ∨ k = 21 := by simp at h2; omega
   have e1 : brf l = true := by
     unfold brf
     refine all_yes fun i hi => ?_
     rw [List.length_take] at hi
     rw [nth_take (by omega)]
     exact hbe i (by omega)
   refine cw_exit (post_then_x (post_then_x (post_blk_eq (post_then (zr (za rfl (nP (cw_ret (post_ret1 rfl (resOk_tmp rfl) ?_)))))))))
   exact fun w' hw => ⟨by rw [e1], (Cl.sel (by exact .nil _)) _ hw⟩
theorem optE_val (l : List Sp) (p : List Pr) (o : Lrn) : optE l p o = if 3000 < l.length ∨ 1000 < p.length then 4 else if lexOk l && prsOk p && lrnB o then 0 else 2 := by
 have e1 : lexE l = if 3000 < l.length then 4 else if lexOk l then 0 else 2 := by unfold lexE lexOk; rfl
 have e2 : prsE p = if 1000 < p.length then 4 else if prsOk p then 0 else 2 := by unfold prsE prsOk; rfl
 unfold optE
 rw [e1, e2]
 by_cases h1 : 3000 < l.length <;> by_cases h2 : 1000 < p.length <;> cases h3 : lexOk l <;> cases h4 : prsOk p <;> cases h5 : lrnB o <;> simp [h1, h2] <;> decide
theorem shape_spec (sl sp : SlV) (l : List Sp) (p : List Pr) (o : Lrn) (hz : ∀ u ∈ l, u.word.size ≤ 1000 ∧ ∀ b ∈ u.pl, b.size ≤ 9223372036854775807) (hzp : ∀ u ∈ p, ∀ b ∈ u.pl, b.size ≤ 9223372036854775807) (w : World) (hT : Stb w [] Tab) (hs : Stb w [] (RdL sl.v l)) (hsi : Stb w [] fun w' => ∀ u ∈ l, SpIn u w') (hp : Stb w [] (RdL sp.v p)) (hpi : Stb w [] fun w' => ∀ u ∈ p, PrIn u w') :
   Calls Tryz.prog 30 #[sl.v, sp.v, val o] w fun e w' => e = .returned (.int .i64 (optE l p o)) ∧ Cl w [] [] w' := by
 have hL1 := rd_len hs.here
 have hL2 := rd_len hp.here
 refine calls_cw (vs := [_, _, _]) Tryz.func30 rfl Tryz.ntmps30 rfl (Cl.start0 w) (zr ?_)
 refine sw_x rfl rfl rfl (e_box rfl rfl rfl) (fun b5 => ?_)
 refine za rfl (nP (cw_seq (zr (zm rfl ?_))))
 refine zS rfl (q_len rfl (.k rfl (.nil)) (stA (by assumption))) ?_
 refine zS rfl (q_gtr rfl rfl rfl) (zm rfl (zm rfl ?_))
 refine zS rfl (q_len rfl (.k rfl (.nil)) (stA (by assumption))) ?_
 refine zS rfl (q_gtr rfl rfl rfl) (zS rfl (q_or2 rfl rfl rfl) (nP ?_))
 refine cw_cond rfl (fun h => ?_) (fun h => ?_)
 · have e1 : optE l p o = 4 := by rw [optE_val, if_pos (by simp at h; omega)]
   refine zr (za rfl (nP (cw_ret (post_then_r (post_ret1 rfl (resOk_tmp rfl) ?_)))))
   exact fun w' hw => ⟨by rw [e1], (Cl.sel (by exact .nil _)) _ hw⟩
 · have e0 : optE l p o = if lexOk l && prsOk p && lrnB o then 0 else 2 := by rw [optE_val, if_neg (by simp at h; omega)]
   refine sP (cw_seq (zr (zm rfl (sw_step rfl rfl rfl (q_call (CanCall.mk Tryz.call51) rfl (.k rfl (.nil)) (fun _ w hw => callq hw (refLexicon_spec _ l hz w (stb_arg hw hT) (stb_arg hw hs) (stb_arg hw hsi)))) (zS rfl (q_not rfl rfl) (zm rfl (zm rfl (sw_step rfl rfl rfl (q_call (CanCall.mk Tryz.call22) rfl (.k rfl (.nil)) (fun _ w hw => callq hw (refPairs_spec _ p hzp w (stb_arg hw hp) (stb_arg hw hpi)))) (zS rfl (q_not rfl rfl) (zS rfl (q_or2 rfl rfl rfl) (zm rfl (zS rfl (q_fieldAddr rfl rfl) ?_))))))))))))
   refine zS rfl (q_loadC rfl rfl (by exact .head _) rfl) ?_
   refine zS rfl (q_lss rfl rfl rfl) (zS rfl (q_or2 rfl rfl rfl) (zm rfl (zS rfl (q_fieldAddr rfl rfl) ?_)))
   refine zS rfl (q_loadC rfl rfl (by exact .head _) rfl) ?_
   refine zS rfl (q_gtr rfl rfl rfl) (zS rfl (q_or2 rfl rfl rfl) (zm rfl (zS rfl (q_fieldAddr rfl rfl) ?_)))
   refine zS rfl (q_loadC rfl rfl (by exact .head _) rfl) ?_
   refine zS rfl (q_lss rfl rfl rfl) (zS rfl (q_or2 rfl rfl rfl) (zm rfl (zS rfl (q_fieldAddr rfl rfl) ?_)))
   refine zS rfl (q_loadC rfl rfl (by exact .head _) rfl) ?_
   refine zS rfl (q_gtr rfl rfl rfl) (zS rfl (q_or2 rfl rfl rfl) (zm rfl (zS rfl (q_fieldAddr rfl rfl) ?_)))
   refine zS rfl (q_loadC rfl rfl (by exact .head _) rfl) ?_
   refine zS rfl (q_lss rfl rfl rfl) (zS rfl (q_or2 rfl rfl rfl) (zm rfl (zS rfl (q_fieldAddr rfl rfl) ?_)))
   refine zS rfl (q_loadC rfl rfl (by exact .head _) rfl) ?_
   refine zS rfl (q_gtr rfl rfl rfl) (zS rfl (q_or2 rfl rfl rfl) (nP ?_))
   refine cw_cond rfl (fun h2 => ?_) (fun h2 => ?_)
   · have e1 : optE l p o = 2 := by
       rw [e0, if_neg]
       unfold lrnB
       intro h3
       simp only [Bool.and_eq_true, decide_eq_true_eq] at h3
       simp [h3.1.1, h3.1.2] at h2
       omega
     refine zr (za rfl (nP (cw_ret (post_then_r (post_ret1 rfl (resOk_tmp rfl) ?_)))))
     exact fun w' hw => ⟨by rw [e1], (Cl.sel (by exact .nil _)) _ hw⟩
   · have e1 : optE l p o = 0 := by
       rw [e0, if_pos]
       unfold lrnB
       simp only [Bool.and_eq_true, decide_eq_true_eq]
       simp at h2
       exact ⟨⟨h2.1.1.1.1.1.1.1, h2.1.1.1.1.1.1.2⟩, by omega⟩
     refine sP (zr (za rfl (nP (cw_ret (post_ret1 rfl (resOk_tmp rfl) ?_)))))
     exact fun w' hw => ⟨by rw [e1], (Cl.sel (by exact .nil _)) _ hw⟩
theorem brf_z {l : List Sp} (hl : l.length ≤ 20) (h : brf l = true) : ∀ u ∈ l, u.word.size ≤ 12 ∧ u.pl.length ≤ 20 := fun u hu => by
 unfold brf at h
 rw [List.take_of_length_le (by omega), List.all_eq_true] at h
 have := h u hu
 unfold brP at this
 simpa using this
theorem lawLex_len {l : List Sp} {most : Int} (h : lawLex l most = true) : (l.length : Int) ≤ most ∨ 3000 < l.length := by
 unfold lawLex at h
 simp only [Bool.and_eq_true, Bool.not_eq_true', Bool.or_eq_false_iff, Bool.and_eq_false_iff, decide_eq_false_iff_not] at h
 omega
theorem optE_long {l : List Sp} {p : List Pr} {o : Lrn} (h : optE l p o = 0) : l.length ≤ 3000 ∧ p.length ≤ 1000 := by
 rw [optE_val] at h
 split at h
 · cases h
 · omega
end Go.Proofs.YtkmbliojafefdaaGreatDoor

set_option autoImplicit false
set_option maxRecDepth 100000
set_option maxHeartbeats 1000000
namespace Go.Proofs.YtkmbliojafefdaaGreatDoor
open Go.Sx
open Enc (enc val)
theorem law_z {l : List Sp} {p : List Pr} {n : Int} (h : lawLex l n = true ∧ brf l = true ∧ lawPrs p = true) : (∀ u ∈ l, u.word.size ≤ 1000 ∧ ∀ b ∈ u.pl, b.size ≤ 9223372036854775807) ∧ (∀ u ∈ p, ∀ b ∈ u.pl, b.size ≤ 9223372036854775807) := by
 have z1 := lawLex_z h.1
 have z2 := lawPrs_z h.2.2
 exact ⟨fun u hu => ⟨by have := (z1 u hu).1; omega, fun b hb => by have := (z1 u hu).2.2 b hb; omega⟩, fun u hu b hb => by have := (z2 u hu).2 b hb; omega⟩
theorem law_few {l : List Sp} {p : List Pr} {o : Lrn} {n : Nat} (hn : n ≤ 20) (h : lawLex l n = true ∧ brf l = true ∧ lawPrs p = true) (h0 : optE l p o = 0) : l.length ≤ n ∧ ∀ u ∈ l, u.word.size ≤ 12 ∧ u.pl.length ≤ 20 := by
 have h1 := lawLex_len h.1
 have h2 := optE_long h0
 have hl : l.length ≤ n := by omega
 exact ⟨hl, brf_z (by omega) h.2.1⟩
end Go.Proofs.YtkmbliojafefdaaGreatDoor

set_option autoImplicit false
set_option maxRecDepth 100000
set_option maxHeartbeats 1000000
namespace Go.Proofs.YtkmbliojafefdaaGreatDoor
open Go.Sx
open Enc (enc val)
end Go.Proofs.YtkmbliojafefdaaGreatDoor

set_option autoImplicit false
set_option maxRecDepth 100000
namespace Go.Proofs.YtkmbliojafefdaaGreatDoor
open Go.Sx
abbrev Ent := ByteArray × List (List ByteArray) × List ByteArray
abbrev PB := List (Int × List (List Cond × List ByteArray))
def ent3 (p : List Pr) (l : List Sp) : List Ent := (l.filter fun u => alOk p u.word u.pl).map fun u => (u.word, alP p u.word u.pl, u.pl)
def rulP (P : PB) (ws : List Rn) (i : Nat) : List ByteArray :=
 if lowB (fun x : Int × List (List Cond × List ByteArray) => sgn (x.1 - (nth ws i).v)) P < P.length ∧ sgn ((nth P (lowB (fun x : Int × List (List Cond × List ByteArray) => sgn (x.1 - (nth ws i).v)) P)).1 - (nth ws i).v) = 0
 then (nth (nth P (lowB (fun x : Int × List (List Cond × List ByteArray) => sgn (x.1 - (nth ws i).v)) P)).2 (idxP (fun r : List Cond × List ByteArray => holdsC ws i r.1) (nth P (lowB (fun x : Int × List (List Cond × List ByteArray) => sgn (x.1 - (nth ws i).v)) P)).2).toNat).2 else []
theorem lowB_map {α β : Type} (c : β → Int) (f : α → β) (l : List α) : lowB c (l.map f) = lowB (fun x => c (f x)) l := by
 unfold lowB
 rw [List.takeWhile_map, List.length_map]; rfl
theorem idxP_map {α β : Type} (q : β → Bool) (f : α → β) (l : List α) : idxP q (l.map f) = idxP (fun x => q (f x)) l := by
 unfold idxP
 rw [List.findIdx?_map]; rfl
theorem ruleX_P {bl : List Let} (hg : BGood bl) (ws : List Rn) (i : Nat) : (ruleX bl ws i).pl = rulP (bkP bl) ws i := by
 have e1 : lowB (fun x : Int × List (List Cond × List ByteArray) => sgn (x.1 - (nth ws i).v)) (bkP bl) = mtK bl (nth ws i).v := by
   unfold bkP mtK
   rw [lowB_map]
 unfold rulP
 rw [e1]
 have e2 : (bkP bl).length = bl.length := by unfold bkP; simp
 rw [e2]
 cases h : mtB bl (nth ws i).v with
 | false =>
   have h1 : ¬ (mtK bl (nth ws i).v < bl.length ∧ sgn ((nth bl (mtK bl (nth ws i).v)).c - (nth ws i).v) = 0) := by
     unfold mtB at h; simpa using h
   rw [if_neg]
   · unfold ruleX; rw [h]; rfl
   · intro ⟨k1, k2⟩
     refine h1 ⟨k1, ?_⟩
     unfold bkP at k2
     rw [nth_mapL _ k1] at k2
     exact k2
 | true =>
   have h1 : mtK bl (nth ws i).v < bl.length ∧ sgn ((nth bl (mtK bl (nth ws i).v)).c - (nth ws i).v) = 0 := by
     unfold mtB at h; simpa using h
   have e3 : nth (bkP bl) (mtK bl (nth ws i).v) = ((nth bl (mtK bl (nth ws i).v)).c, (nth bl (mtK bl (nth ws i).v)).rl.map fun u => (u.tl, u.pl)) := by
     unfold bkP; rw [nth_mapL _ h1.1]
   rw [e3, if_pos ⟨h1.1, h1.2⟩]
   dsimp only
   rw [idxP_map]
   dsimp only
   have h2 := mt_idx hg h
   have h3 : mtL bl (nth ws i).v = nth bl (mtK bl (nth ws i).v) := by unfold mtL; rw [h]; rfl
   have h4 : mtI bl ws i = idxP (fun x : Chc => holdsC ws i x.tl) (nth bl (mtK bl (nth ws i).v)).rl := by
     unfold mtI; rw [h, h3]; rfl
   rw [h3] at h2
   rw [h4] at h2
   rw [nth_mapL _ (by omega)]
   unfold ruleX
   rw [h, h3, h4]; rfl
def goodP (P : PB) (ws : List Rn) (sl : List (List ByteArray)) (k : Nat) : Nat := (List.range k).countP fun i => decide (rulP P ws i = nth sl i)
def saidP (P : PB) (ws : List Rn) (k : Nat) : List ByteArray := ((List.range k).map (rulP P ws)).flatten
theorem good_succ (P : PB) (ws : List Rn) (sl : List (List ByteArray)) (k : Nat) : goodP P ws sl (k + 1) = goodP P ws sl k + if rulP P ws k = nth sl k then 1 else 0 := by
 unfold goodP
 rw [List.range_succ, List.countP_append]
 congr 1
 by_cases h : rulP P ws k = nth sl k <;> simp [h]
theorem good_le (P : PB) (ws : List Rn) (sl : List (List ByteArray)) (k : Nat) : goodP P ws sl k ≤ k := by
 have := List.countP_le_length (p := fun i => decide (rulP P ws i = nth sl i)) (l := List.range k)
 unfold goodP
 rwa [List.length_range] at this
theorem said_succ (P : PB) (ws : List Rn) (k : Nat) : saidP P ws (k + 1) = saidP P ws k ++ rulP P ws k := by
 unfold saidP
 rw [List.range_succ, List.map_append, List.flatten_append]; simp
def addE (P : PB) (s : Scr) (u : Ent) : Scr := ⟨s.words + 1, s.right + (if saidP P (runes u.1) (runes u.1).length = u.2.2 then 1 else 0), s.letters + (runes u.1).length, s.good + goodP P (runes u.1) u.2.1 (runes u.1).length⟩
def selA {α : Type} [Inhabited α] (l : List α) (n f : Nat) (b : Bool) (k : Nat) : List α := ((List.range k).filter fun i => decide (i % n = f) == b).map (nth l)
theorem selA_succ {α : Type} [Inhabited α] (l : List α) (n f : Nat) (b : Bool) (k : Nat) : selA l n f b (k + 1) = selA l n f b k ++ if (decide (k % n = f) == b) = true then [nth l k] else [] := by
 unfold selA
 rw [List.range_succ, List.filter_append, List.map_append]
 congr 1
 by_cases h : (decide (k % n = f) == b) = true <;> simp [h]
theorem selA_len {α : Type} [Inhabited α] (l : List α) (n f : Nat) (b : Bool) (k : Nat) : (selA l n f b k).length ≤ k := by
 unfold selA
 rw [List.length_map]
 have := List.length_filter_le (fun i => decide (i % n = f) == b) (List.range k)
 rwa [List.length_range] at this
theorem selA_mem {α : Type} [Inhabited α] {l : List α} {n f : Nat} {b : Bool} {k : Nat} (hk : k ≤ l.length) {x : α} (h : x ∈ selA l n f b k) : x ∈ l := by
 unfold selA at h
 obtain ⟨i, hi, rfl⟩ := List.mem_map.1 h
 have := List.mem_range.1 (List.mem_filter.1 hi).1
 exact nth_mem (by omega)
theorem selA_map {α β : Type} [Inhabited α] [Inhabited β] (g : α → β) {l : List α} {n f : Nat} {b : Bool} {k : Nat} (hk : k ≤ l.length) : (selA l n f b k).map g = selA (l.map g) n f b k := by
 unfold selA
 rw [List.map_map]
 apply List.map_congr_left
 intro i hi
 have := List.mem_range.1 (List.mem_filter.1 hi).1
 show g (nth l i) = nth (l.map g) i
 rw [nth_mapL _ (by omega)]
def bookE (o : Lrn) (E : List Ent) (n f : Nat) : PB := learnC o ((selA E n f false E.length).map fun u => (u.1, u.2.1))
def foldE (o : Lrn) (E : List Ent) (n : Nat) (s : Scr) (f : Nat) : Scr := (selA E n f true E.length).foldl (addE (bookE o E n f)) s
def scoreC (o : Lrn) (E : List Ent) (n : Nat) : Scr := (List.range n).foldl (foldE o E n) ⟨0, 0, 0, 0⟩
def ScrOk (s : Scr) : Prop := (0 ≤ s.right ∧ s.right ≤ s.words) ∧ (0 ≤ s.good ∧ s.good ≤ s.letters)
theorem add_ok {P : PB} {s : Scr} {u : Ent} (h : ScrOk s) : ScrOk (addE P s u) := by
 have hg := good_le P (runes u.1) u.2.1 (runes u.1).length
 unfold ScrOk addE at *
 dsimp only
 refine ⟨?_, by omega⟩
 split <;> omega
theorem fold_ok {P : PB} : ∀ {l : List Ent} {s : Scr}, ScrOk s → ScrOk (l.foldl (addE P) s)
 | [], _, h => h
 | u :: l, s, h => fold_ok (l := l) (add_ok (u := u) h)
theorem score_ok (o : Lrn) (E : List Ent) (n : Nat) : ScrOk (scoreC o E n) := by
 have key : ∀ (fs : List Nat) (s : Scr), ScrOk s → ScrOk (fs.foldl (foldE o E n) s) := by
   intro fs
   induction fs with
   | nil => intro s h; exact h
   | cons f fs ih => intro s h; exact ih _ (fold_ok h)
 exact key _ _ ⟨by decide, by decide⟩
def ScrB (s : Scr) (m : Int) : Prop := (0 ≤ s.words ∧ s.words ≤ m) ∧ (0 ≤ s.right ∧ s.right ≤ m) ∧ (0 ≤ s.letters ∧ s.letters ≤ m) ∧ (0 ≤ s.good ∧ s.good ≤ m)
theorem add_b {P : PB} {s : Scr} {u : Ent} {m : Int} (h : ScrB s m) (hl : (runes u.1).length ≤ 12) : ScrB (addE P s u) (m + 12) := by
 have hg := good_le P (runes u.1) u.2.1 (runes u.1).length
 unfold ScrB addE at *
 dsimp only
 refine ⟨by omega, ?_, by omega, by omega⟩
 split <;> omega
theorem fold_b {P : PB} : ∀ {l : List Ent} {s : Scr} {m : Int}, ScrB s m → (∀ u ∈ l, (runes u.1).length ≤ 12) → ScrB (l.foldl (addE P) s) (m + 12 * l.length)
 | [], _, m, h, _ => by simpa using h
 | u :: l, s, m, h, hl => by
   have h1 := fold_b (P := P) (l := l) (add_b (P := P) (u := u) h (hl u (.head _))) fun u hu => hl u (.tail _ hu)
   have e : m + 12 * ((u :: l).length : Int) = m + 12 + 12 * (l.length : Int) := by simp only [List.length_cons]; omega
   rw [e]; exact h1
theorem ent3_map (p : List Pr) (l : List Sp) : (ent3 p l).map (fun u => (u.1, u.2.1)) = entC p l := by
 unfold ent3 entC
 rw [List.map_map]; rfl
theorem ent3_len (p : List Pr) (l : List Sp) : (ent3 p l).length ≤ l.length := by
 unfold ent3; rw [List.length_map]; exact List.length_filter_le _ _
theorem learn_flat (o : Lrn) (q : List (ByteArray × List (List ByteArray))) : learnC o q = teachP (q.flatMap evOf) o := rfl
end Go.Proofs.YtkmbliojafefdaaGreatDoor

/- append(s, make([]T, n)...), cap(s). General lemmas, no program text. -/
set_option autoImplicit false
set_option linter.unusedSectionVars false
namespace Go.Sx
open Enc (enc val)
section
variable {P : Program} {n : Fr} {E : Env} {C : World → Prop} {cs : List Bool} {o : Oper} {w0 : World} {fp : List Nat} {H : List Asn}
theorem q_capV {l : List Operand} {t : TypeId} {e : TypeId} {s : SlV} (ho : o.op = .call { callee := .builtin .cap, args := l.toArray, argTypes := #[t] }) (hv : Evs E cs l [s.v]) [ht : SlT P t e] : OpR P n E C cs o (.int .i64 s.cap) :=
 builtin_run ho hv fun w c hw _ => by
   have := run_underlying ht.und w
   simp [builtin, Builtin.cap_, this, SlV.v, goInt]
def ownU (e : TypeId) (sz : Nat) (s : SlV) : Asn := ⟨fun w bs => ∃ b cur, s.addr = some ⟨b, 0, none⟩ ∧ bs = [b] ∧ w.heap[b]? = some (.cells cur e (0, 0)) ∧ s.len ≤ s.cap ∧ s.cap ≤ maxLen ∧ cur.size = s.cap * sz, fun w w' bs ⟨b, cur, h1, h2, h3, h4⟩ hk => ⟨b, cur, h1, h2, (hk b (by simp [h2])).trans h3, h4⟩⟩
theorem ownU_cut {α : Type} [Enc α] {e : TypeId} {s : SlV} {w : World} (h : Cl w0 fp (ownU e (Enc.sz α) s :: H) w) : Cl w0 fp (ownL e (s.sub (Enc.sz α) 0 0).v ([] : List α) :: H) w := by
 obtain ⟨hc, bs, ⟨b1, b2, rfl, ⟨b, cur, e1, e2, e3, e4, e5, e6⟩, h2⟩, hn, hb⟩ := h
 refine ⟨hc, b1 ++ b2, ⟨b1, b2, rfl, .inr ⟨b, 0, s.cap, cur, ?_, e2, e3, Nat.zero_le _, e5, e6, by simp, by simp⟩, h2⟩, hn, hb⟩
 simp only [SlV.v, SlV.sub, e1, Option.map_some, Nat.zero_mul, Nat.sub_zero]
 have : (⟨b, 0, none⟩ : Addr).add 0 = ⟨b, 0, none⟩ := by simp [Addr.add]
 rw [this, ite_self]
theorem e_appendZ {t tn e : TypeId} {kn : IntKind} {sz bytes : Nat} {z : List Value} {l : List Operand} {k : Nat} (ho : o.op = .call { callee := .builtin .append, args := l.toArray, argTypes := #[t, tn] }) (hv : Evs E [] l [.slice none 0 0, .int .i64 k])
   [ht : SlT P t e] (htn : P.underlying tn = some (.int kn)) [hi : InfoT P e sz bytes z] (h0 : 0 < k) (hs : Nat.ble 1 sz = true) (hb : k * bytes ≤ 140737488355328) (hb1 : Nat.ble 1 bytes = true) :
   OpE P n E (Cl w0 fp H) o (fun u w' => ∃ s : SlV, u = s.v ∧ (s.len = k ∧ s.len ≤ s.cap ∧ s.cap ≤ maxLen) ∧ Cl w0 fp (ownU e sz s :: H) w') :=
 .of_run fun a w ha hw => by
   obtain ⟨i, z0, h1, h2, h3, h4, h5, h6⟩ := hi.info
   have hb1 := Nat.le_of_ble_eq_true hb1
   have hs := Nat.le_of_ble_eq_true hs
   have hk : k ≤ 140737488355328 := Nat.le_trans (Nat.le_mul_of_pos_right _ hb1) hb
   have hnc : Builtin.nextslicecap (0 + k) 0 = k := by rw [Nat.zero_add]; exact nextslicecap_zero h0
   have hr := Lib.run_append_grow_zeros (P := P) w t tn o.type e i z0 .i64 kn ht.und htn h1 h4 none 0 0 [] (by simp [Builtin.firstCells]) k h0 (by omega) (by omega) (by omega) (by rw [h3]; omega) (by rw [hnc, h3]; omega)
   have hge := grownCap_ge w k 0 e
   have hle := grownCap_le_maxLen w k 0 e (by simp only [maxLen]; omega)
   have hzc : z0.cells.size = sz := by rw [h5]; simpa using h6
   rw [Nat.zero_add] at hr
   have hsz : (([] : List Value).toArray ++ Builtin.zeroCells z0.cells k ++ Builtin.zeroCells z0.cells (grownCap w k 0 e - k)).size = grownCap w k 0 e * sz := by
     simp only [Array.size_append, List.size_toArray, List.length_nil, size_zeroCells, hzc, Nat.zero_add, ← Nat.add_mul]; congr 1; omega
   generalize (([] : List Value).toArray ++ Builtin.zeroCells z0.cells k ++ Builtin.zeroCells z0.cells (grownCap w k 0 e - k)) = cur at hr hsz
   refine ⟨_, w.drew.alloc (.cells cur e), ?_, ⟨some ⟨w.heap.size, 0, none⟩, k, grownCap w k 0 e⟩, rfl, ⟨rfl, hge, hle⟩, ?_⟩
   · unfold execOp; simp only [ho]
     simp only [resolve, invoke, List.map_toArray, hv.eval ha AllT.nil, Sem.run_bind, Sem.run_pure, Result.andThen_ok]
     simp [builtin, hr, SlV.v]
   · exact hw.split0.2.2 [ownU e sz _] _ (Cl.drew_start ⟨chg_alloc w.drew _, [w.drew.heap.size], ⟨[w.drew.heap.size], [], rfl, ⟨w.heap.size, cur, rfl, rfl, heap_alloc_new w.drew _, hge, hle, hsz⟩, rfl⟩, by simp, fun b hb => by simp at hb; subst hb; exact ⟨.inr (Nat.le_refl _), by simp⟩⟩)
end
end Go.Sx

set_option autoImplicit false
set_option maxRecDepth 100000
set_option maxHeartbeats 1000000
namespace Go.Proofs.YtkmbliojafefdaaGreatDoor
open Go.Sx
open Enc (enc val)
theorem growS_spec (n : Nat) (hn : n ≤ 100000) (w : World) : Calls Tryz.prog 139 #[SlV.v ⟨none, 0, 0⟩, .int .i64 n] w fun e w' => ∃ s : SlV, e = .returned s.v ∧ True ∧ Cl w [] [ownL 9 s.v ([] : List ByteArray)] w' := by
 refine calls_cw (vs := [_, _]) Tryz.func139 rfl Tryz.ntmps139 rfl (Cl.start0 w) (zr (za rfl (nP (cw_seq (cw_seq (cw_region (zm rfl (zS rfl (q_lss rfl rfl rfl) (sw_nil (post_then ?_))))))))))
 refine cw_cond rfl (fun h => ?_) (fun h => ?_)
 · exfalso
   simp only [decide_eq_true_eq] at h; omega
 · refine sP (cw_seq (zr (zm rfl (zm rfl (zS rfl (q_capV rfl (.k rfl (.nil))) (zm rfl (zS rfl (q_lenV rfl (.k rfl (.nil))) ?_)))))))
   refine zS rfl (q_sub rfl rfl rfl (by intro hc; (simp only [List.length_set, List.length_append, List.length_cons, List.length_nil, List.length_replicate, List.length_take, List.length_drop, List.length_map]; omega))) ?_
   refine zS rfl (q_sub rfl rfl rfl (by intro hc; (simp only [List.length_set, List.length_append, List.length_cons, List.length_nil, List.length_replicate, List.length_take, List.length_drop, List.length_map]; omega))) ?_
   refine za rfl (nP (zr (zm rfl (zS rfl (q_gtr rfl rfl rfl) (sw_nil (post_then ?_))))))
   have e0 : ((n : Int) - (((⟨none, 0, 0⟩ : SlV).cap : Nat) - ((⟨none, 0, 0⟩ : SlV).len : Nat))) = (n : Int) := by simp
   rw [e0]
   refine cw_cond rfl (fun h2 => ?_) (fun h2 => ?_)
   · have h3 : 0 < n := by simp only [decide_eq_true_eq] at h2; omega
     refine cw_region (zm rfl (zm rfl (zS rfl (q_capV rfl (.k rfl (.nil))) ?_)))
     refine zS rfl (q_slicePH (m := 0) rfl rfl rfl ⟨rfl, Nat.le_refl _, by simp [maxLen]⟩ (fun _ => by simp)) ?_
     refine zm rfl ?_
     refine sw_x rfl rfl rfl (e_appendZ (k := n) rfl (.k rfl (.k rfl .nil)) Tryz.underlying3 h3 (by decide) (by omega) (by decide)) (fun s22 => ?_)
     refine sw_imp fun hs22 => (zm rfl (zS rfl (q_lenV rfl (.k rfl (.nil))) ?_))
     refine zS rfl (q_slicePH rfl rfl rfl hs22 (fun _ => by simp)) ?_
     refine za rfl (nP (zr (zm rfl (za rfl (sw_nil (post_then (cw_ret (post_ret1 rfl (resOk_tmp rfl) ?_))))))))
     exact fun w' hw => ⟨s22.sub 1 0 0, rfl, trivial, ownU_cut (α := ByteArray) hw⟩
   · have h3 : n = 0 := by simp only [decide_eq_false_iff_not] at h2; omega
     refine sP (zr (zm rfl (za rfl (nP (cw_ret (post_ret1 rfl (resOk_tmp rfl) ?_))))))
     exact fun w' hw => ⟨⟨none, 0, 0⟩, rfl, trivial, hw.addNil (α := ByteArray) 9⟩
theorem flatS_take1 {ls : List (List ByteArray)} {k : Nat} (hk : k < ls.length) : (ls.take (k + 1)).flatten = (ls.take k).flatten ++ nth ls k := by
 rw [List.take_succ_eq_append_getElem hk, List.flatten_append, nth_get hk]; simp
theorem flatS_le {ls : List (List ByteArray)} (k : Nat) : (ls.take k).flatten.length ≤ ls.flatten.length := by
 have h : ls.flatten = (ls.take k).flatten ++ (ls.drop k).flatten := by rw [← List.flatten_append, List.take_append_drop]
 rw [h, List.length_append]; omega
theorem concatS_spec (sv : Value) (ss : List SlV) (ls : List (List ByteArray)) (w : World) (hs : Stb w [] (RdL sv ss)) (hn : ss.length = ls.length) (hr : ∀ i, i < ls.length → Stb w [] (RdL (nth ss i).v (nth ls i))) (htot : ls.flatten.length ≤ 100000) :
   Calls Tryz.prog 101 #[sv] w fun e w' => ∃ s : SlV, e = .returned s.v ∧ True ∧ Cl w [] [ownL 9 s.v ls.flatten] w' := by
 have hL := rd_len hs.here
 refine calls_cw (vs := [_]) Tryz.func101 rfl Tryz.ntmps101 rfl (Cl.start0 w) (zr (za rfl (nP (cw_seq (cw_region (za rfl (sw_nil (post_then (cw_seq (cw_seq (cw_region (zm rfl ?_))))))))))))
 refine zS rfl (q_len rfl (.k rfl (.nil)) (stA (by assumption))) ?_
 refine zm rfl (nP (cw_block ?_))
 refine cw_loop (S := Nat) (fun k => [(0, [], sv), (3, [], .int .i64 ((ls.take k).flatten.length : Nat)), (9, [], sv), (10, [], .int .i64 ss.length), (11, [], .int .i64 k)]) (fun _ => Cl w [] []) (fun k => k ≤ ls.length) (fun k => ls.length - k) 0 (Nat.zero_le _) (by exact .cons rfl (.cons rfl (.cons rfl (.cons rfl (.cons rfl .nil))))) (fun _ h => h) ?_
 intro k hk
 have hfk := flatS_le (ls := ls) k
 refine zr (zS rfl (q_lss rfl rfl rfl) (nP (cw_seq ?_)))
 refine cw_cond rfl (fun h => ?_) (fun h => ?_)
 · have hk' : k < ls.length := by simp only [decide_eq_true_eq] at h; omega
   have hrk := hr k hk'
   have hf1 := flatS_take1 hk'
   have hfk1 := flatS_le (ls := ls) (k + 1)
   rw [hf1, List.length_append] at hfk1
   refine sP (cw_seq (cw_block (zr ?_)))
   refine zS rfl (q_indexN rfl rfl rfl (stA (by assumption)) (by intro hc; omega)) ?_
   refine zS rfl (q_loadEl rfl rfl rfl (stA (by assumption)) (by intro hc; omega)) ?_
   refine za rfl (nP (zr (zm rfl (zm rfl ?_))))
   refine zS rfl (q_len rfl (.k rfl (.nil)) (stA (by assumption))) ?_
   refine zS rfl (q_add rfl rfl rfl (by intro hc; omega)) ?_
   refine za rfl (nP (zr (zm rfl (zS rfl (q_lss rfl rfl rfl) (sw_nil (post_then ?_))))))
   refine cw_cond rfl (fun h2 => ?_) (fun h2 => ?_)
   · exfalso
     simp only [decide_eq_true_eq] at h2; omega
   · refine cw_skip (post_blk (post_then (cw_region ?_)))
     refine zS rfl (q_add rfl rfl rfl (by intro hc; omega)) ?_
     refine zm rfl (sw_nil ?_)
     refine post_next (k + 1) ?_ (fun _ h => h) (by omega) (by omega)
     rw [hf1, List.length_append]
     exact (by exact .cons rfl (.cons rfl (.cons rfl (.cons rfl (.cons rfl .nil)))))
 · have hk' : k = ls.length := by simp only [decide_eq_false_iff_not] at h; omega
   subst hk'
   rw [List.take_length]
   refine cw_exit (post_then_x (post_then_x (post_blk_eq (post_then (zr (zm rfl ?_))))))
   refine sw_x rfl rfl rfl (e_call (CanCall.mk Tryz.call139) rfl (.k rfl (.k rfl (.nil))) (fun w hw => growS_spec _ htot w)) (fun s24 => ?_)
   refine sw_imp fun _ => (za rfl (nP (cw_seq (zr (zm rfl ?_)))))
   refine zS rfl (q_len rfl (.k rfl (.nil)) (stA (by assumption))) ?_
   refine zm rfl (nP (cw_block ?_))
   refine cw_loop (S := Nat × SlV) (fun y => [(6, [], y.2.v), (25, [], sv), (26, [], .int .i64 ss.length), (27, [], .int .i64 y.1)]) (fun y => Cl w [] [ownL 9 y.2.v (ls.take y.1).flatten]) (fun y => y.1 ≤ ls.length) (fun y => ls.length - y.1) (0, s24) (Nat.zero_le _) (by exact .cons rfl (.cons rfl (.cons rfl (.cons rfl .nil)))) (fun _ h => h) ?_
   rintro ⟨j, s6⟩ hj
   dsimp only at hj ⊢
   have hfj := flatS_le (ls := ls) j
   refine zr (zS rfl (q_lss rfl rfl rfl) (nP (cw_seq ?_)))
   refine cw_cond rfl (fun h2 => ?_) (fun h2 => ?_)
   · have hj' : j < ls.length := by simp only [decide_eq_true_eq] at h2; omega
     have hrk := hr j hj'
     have hf1 := flatS_take1 hj'
     have hfk1 := flatS_le (ls := ls) (j + 1)
     rw [hf1, List.length_append] at hfk1
     refine sP (cw_seq (cw_block (zr ?_)))
     refine zS rfl (q_indexN rfl rfl rfl (stA (by assumption)) (by intro hc; omega)) ?_
     refine zS rfl (q_loadEl rfl rfl rfl (stA (by assumption)) (by intro hc; omega)) ?_
     refine za rfl (nP (cw_region (zm rfl (zm rfl ?_))))
     refine sw_x rfl rfl rfl (e_append (i := 0) rfl (.k rfl (.k rfl (.nil))) rfl rfl (stA (by assumption)) (by omega) rfl) (fun s33 => ?_)
     refine za rfl (sw_nil (post_blk (post_then (cw_region ?_))))
     refine zS rfl (q_add rfl rfl rfl (by intro hc; omega)) ?_
     refine zm rfl (sw_nil ?_)
     refine post_next (j + 1, s33) (by exact .cons rfl (.cons rfl (.cons rfl (.cons rfl .nil)))) (fun w3 hw3 => ?_) (by simp only; omega) (by simp only; omega)
     rw [hf1]; exact hw3
   · have hj' : j = ls.length := by simp only [decide_eq_false_iff_not] at h2; omega
     subst hj'
     rw [List.take_length]
     refine cw_exit (post_then_x (post_then_x (post_blk_eq (post_then (zr (zm rfl (za rfl (nP (cw_ret (post_ret1 rfl (resOk_tmp rfl) ?_))))))))))
     exact fun w' hw => ⟨s6, rfl, trivial, hw⟩
theorem ent3_take {p : List Pr} {l : List Sp} {k : Nat} (hk : k < l.length) : ent3 p (l.take (k + 1)) = ent3 p (l.take k) ++ if alOk p (nth l k).word (nth l k).pl then [((nth l k).word, alP p (nth l k).word (nth l k).pl, (nth l k).pl)] else [] := by
 unfold ent3
 rw [List.take_succ_eq_append_getElem hk, List.filter_append, List.map_append, nth_get hk]
 congr 1
 by_cases h : alOk p l[k].word l[k].pl = true <;> simp [h]
def etE (u : Ety) : Ent := (u.word, u.sl, u.pl)
theorem entriesW_spec (sl sp : SlV) (l : List Sp) (p : List Pr) (hsz : ∀ u ∈ l, u.word.size ≤ 1000000) (hl0 : lexE l = 0) (hp0 : prsE p = 0) (w : World) (hs : Stb w [] (RdL sl.v l)) (hli : Stb w [] fun w' => ∀ u ∈ l, SpIn u w') (hp : Stb w [] (RdL sp.v p)) (hpi : Stb w [] fun w' => ∀ u ∈ p, PrIn u w') :
   Calls Tryz.prog 71 #[sl.v, sp.v] w fun e w' => ∃ y : SlV × List Ety × List (List SlV), e = .returned y.1.v ∧ (y.2.1.map etE = ent3 p l ∧ ∀ u ∈ y.2.1, ∃ x ∈ l, u.p = x.p ∧ u.pl = x.pl) ∧ Cl w [] [Sx.frz fun w => RdL y.1.v y.2.1 w ∧ ∀ i, i < y.2.1.length → RdL (nth y.2.1 i).s.v (nth y.2.2 i) w ∧ RdRS (nth y.2.2 i) (nth y.2.1 i).sl w] w' := by
 have hL := rd_len hs.here
 obtain ⟨z1, z2, z3, z4, z5⟩ := prsE_zero hp0
 have hl1 : l.length ≤ 3000 ∧ ∀ u ∈ l, spOk u = true := by
   unfold lexE at hl0
   split at hl0
   · cases hl0
   · split at hl0
     · rename_i h1 h2
       simp only [Bool.and_eq_true, List.all_eq_true] at h2
       exact ⟨by omega, h2.2⟩
     · cases hl0
 refine calls_cw (vs := [_, _]) Tryz.func71 rfl Tryz.ntmps71 rfl (Cl.start0 w) (zr (za rfl (nP (cw_seq (cw_region (za rfl (sw_nil (post_then (cw_seq (cw_seq (cw_region (zm rfl ?_))))))))))))
 refine zS rfl (q_len rfl (.k rfl (.nil)) (stA (by assumption))) ?_
 refine zm rfl (nP (cw_block ?_))
 refine cw_loop (S := Nat × SlV × List Ety × List (List SlV)) (fun y => [(1, [], sp.v), (5, [], y.2.1.v), (11, [], sl.v), (12, [], .int .i64 l.length), (13, [], .int .i64 y.1)]) (fun y => Cl w [] [ownL 153 y.2.1.v y.2.2.1, Sx.frz (fun w => ∀ i, i < y.2.2.1.length → RdL (nth y.2.2.1 i).s.v (nth y.2.2.2 i) w ∧ RdRS (nth y.2.2.2 i) (nth y.2.2.1 i).sl w)]) (fun y => y.1 ≤ l.length ∧ y.2.2.2.length = y.2.2.1.length ∧ (∀ u ∈ y.2.2.1, ∃ x ∈ l, u.p = x.p ∧ u.pl = x.pl) ∧ y.2.2.1.map etE = ent3 p (l.take y.1)) (fun y => l.length - y.1) (0, ⟨none, 0, 0⟩, [], []) ⟨by simp, rfl, fun u hu => by simp at hu, by simp [ent3]⟩ (by exact .cons rfl (.cons rfl (.cons rfl (.cons rfl (.cons rfl .nil))))) (fun w' h => Cl.addNil 153 (cl_true (fun w => by simp) h)) ?_
 rintro ⟨k, so, out, wv⟩ ⟨hk, hwl, hpx, hout⟩
 dsimp only at hk hwl hpx hout ⊢
 have hol : out.length ≤ 3000 := by
   have h1 := ent3_len p (l.take k)
   rw [← hout, List.length_map, List.length_take] at h1; omega
 refine zr (zS rfl (q_lss rfl rfl rfl) (nP (cw_seq ?_)))
 refine cw_cond rfl (fun h => ?_) (fun h => ?_)
 · have hk' : k < l.length := by simp at h; omega
   obtain ⟨u, hu⟩ : ∃ u, nth l k = u := ⟨_, rfl⟩
   have hum : u ∈ l := by rw [← hu]; exact nth_mem hk'
   have huo := hl1.2 u hum
   have hus := hsz u hum
   have hui : Stb w [] (RdL u.p.v u.pl) := stb_map hli fun _ h => h u hum
   have h3 : wordOk u.word = true ∧ phonesOk u.pl 120 = true := by simpa [spOk] using huo
   have hrl : (runes u.word).length ≤ 40 := by have := h3.1; simp [wordOk] at this; omega
   have hll : u.pl.length ≤ 120 := by have := h3.2; simp [phonesOk] at this; omega
   have hst := ent3_take (p := p) hk'
   rw [hu] at hst
   refine sP (cw_seq (cw_block (zr ?_)))
   refine zS rfl (q_indexN rfl rfl rfl (stA (by assumption)) (by intro hc; omega)) ?_
   refine zS rfl (q_loadEl rfl rfl rfl (stA (by assumption)) (by intro hc; omega)) ?_
   rw [hu]
   refine sw_x rfl rfl rfl (e_alloc rfl) (fun b7 => ?_)
   refine sw_eff0 rfl rfl (e_store (i := 0) rfl rfl rfl rfl rfl rfl rfl rfl) (nP (zr (zm rfl (zS rfl (q_fieldAddr rfl rfl) ?_))))
   refine zS rfl (q_loadC rfl rfl (by exact .head _) rfl) ?_
   refine zS rfl (q_fieldAddr rfl rfl) ?_
   refine zS rfl (q_loadC rfl rfl (by exact .head _) rfl) ?_
   refine sw_x rfl rfl rfl (e_call (CanCall.mk Tryz.call64) rfl (.k rfl (.k rfl (.k rfl (.nil)))) (fun w1 hw => aligned_spec2 sp u.p p u.word u.pl (by omega) hus (by omega) z1 z2 (fun x hx => by have := z3 x hx; omega) w1 (stb_arg hw hp) (stb_arg hw hpi) (stb_arg hw hui))) (fun x23 => ?_)
   refine sw_imp fun _ => ?_
   obtain ⟨x23, vs⟩ := x23
   dsimp only
   refine zm rfl (zS rfl (q_extract rfl rfl rfl) (zS rfl (q_extract rfl rfl rfl) (zS rfl (q_extract rfl rfl rfl) (za rfl (za rfl (za rfl (nP (zr (zm rfl (sw_nil (post_then ?_)))))))))))
   refine cw_cond rfl (fun h5 => ?_) (fun h5 => ?_)
   · have h6 : alOk p u.word u.pl = true := h5
     rw [if_pos h6] at hst
     refine cw_region (zm rfl ?_)
     refine zS rfl (q_loadA rfl rfl (by exact .tail _ (.head _)) rfl) ?_
     refine zm rfl (zS rfl (q_build rfl (.k rfl (.k rfl (.nil))) rfl) ?_)
     refine sw_x rfl rfl rfl (e_buildL (α := Ety) (l := [⟨u.word, u.p, x23, alP p u.word u.pl, u.pl⟩]) rfl (.k rfl (.nil)) rfl rfl rfl rfl) (fun s32 => ?_)
     refine sw_x rfl rfl rfl (e_append (i := 3) rfl (.k rfl (.k rfl (.nil))) rfl rfl (rdO (by exact .head _)) (by first | omega | (simp only [List.length_set, List.length_append, List.length_cons, List.length_nil, List.length_replicate, List.length_take, List.length_drop, List.length_map]; omega)) rfl) (fun s33 => ?_)
     refine za rfl (sw_nil (post_blk (post_then (cw_region ?_))))
     refine zS rfl (q_add rfl rfl rfl (by intro hc; omega)) ?_
     refine zm rfl (sw_nil ?_)
     refine post_next (k + 1, s33, out ++ [⟨u.word, u.p, x23, alP p u.word u.pl, u.pl⟩], wv ++ [vs]) (by exact .cons rfl (.cons rfl (.cons rfl (.cons rfl (.cons rfl .nil))))) (fun w' h => ?_) ⟨by simp only; omega, by simp [hwl], fun q hq => by
       rcases List.mem_append.1 hq with hq | hq
       · exact hpx q hq
       · simp at hq; subst hq; exact ⟨u, hum, rfl, rfl⟩, by simp only [List.map_append]; rw [hst, ← hout]; rfl⟩ (by simp only; omega)
     have h1 : Cl w [] ([Sx.frz (fun w => RdL x23.v vs w ∧ RdRS vs (alP p u.word u.pl) w), Sx.frz (fun w => ∀ i, i < out.length → RdL (nth out i).s.v (nth wv i) w ∧ RdRS (nth wv i) (nth out i).sl w)] ++ [ownL 153 s33.v (out ++ [⟨u.word, u.p, x23, alP p u.word u.pl, u.pl⟩])]) w' := (Cl.sel (by exact .take 1 rfl (.take 3 rfl (.take 2 rfl (.nil _))))) _ h
     have hap : ∀ {β : Type} [Inhabited β] (a : List β) (x : β), nth (a ++ [x]) a.length = x := fun a x => by
       rw [nth_get (by simp)]; simp
     have hal : ∀ {β : Type} [Inhabited β] (a : List β) (x : β) (i : Nat), i < a.length → nth (a ++ [x]) i = nth a i := fun a x i hi => by
       rw [nth_get (by simp; omega), nth_get hi, List.getElem_append_left hi]
     have h2 := Cl.frz (R := fun w => ∀ i, i < (out ++ [(⟨u.word, u.p, x23, alP p u.word u.pl, u.pl⟩ : Ety)]).length → RdL (nth (out ++ [(⟨u.word, u.p, x23, alP p u.word u.pl, u.pl⟩ : Ety)]) i).s.v (nth (wv ++ [vs]) i) w ∧ RdRS (nth (wv ++ [vs]) i) (nth (out ++ [(⟨u.word, u.p, x23, alP p u.word u.pl, u.pl⟩ : Ety)]) i).sl w) h1 fun w bs ⟨b1, _, _, k1, b2, _, _, k2, _⟩ i hi => by
       by_cases g : i < out.length
       · rw [hal _ _ _ g, hal _ _ _ (by omega)]
         exact frz_here k2 i g
       · have g2 : i = out.length := by simp at hi; omega
         subst g2
         rw [hap]
         have e1 := hap wv vs
         rw [hwl] at e1
         rw [e1]
         exact frz_here k1
     exact (Cl.sel (by exact .take 1 rfl (.take 0 rfl (.nil _)))) _ h2
   · have h6 : alOk p u.word u.pl = false := h5
     rw [if_neg (by rw [h6]; decide), List.append_nil] at hst
     refine cw_skip (post_blk (post_then (cw_region ?_)))
     refine zS rfl (q_add rfl rfl rfl (by intro hc; omega)) ?_
     refine zm rfl (sw_nil ?_)
     exact post_next (k + 1, so, out, wv) (by exact .cons rfl (.cons rfl (.cons rfl (.cons rfl (.cons rfl .nil))))) (fun w' h => (Cl.sel (by exact .take 2 rfl (.take 2 rfl (.nil _)))) _ h) ⟨by simp only; omega, hwl, hpx, by simp only; rw [hst, ← hout]⟩ (by simp only; omega)
 · have hk' : k = l.length := by simp at h; omega
   rw [hk', List.take_length] at hout
   refine cw_exit (post_then_x (post_then_x (post_blk_eq (post_then (zr (zm rfl (za rfl (nP (cw_ret (post_ret1 rfl (resOk_tmp rfl) ?_))))))))))
   exact fun w' hw => ⟨(so, out, wv), rfl, ⟨hout, hpx⟩, Cl.frz2 (Cl.frzL hw)⟩
end Go.Proofs.YtkmbliojafefdaaGreatDoor

set_option autoImplicit false
set_option maxRecDepth 100000
set_option maxHeartbeats 2000000
namespace Go.Proofs.YtkmbliojafefdaaGreatDoor
open Go.Sx
open Enc (enc val)
def valE (l : List Sp) (p : List Pr) (o : Lrn) (n : Int) : Int := if optE l p o = 0 then (if n < 2 ∨ 10 < n then 2 else 0) else optE l p o
def valS (l : List Sp) (p : List Pr) (o : Lrn) (n : Int) : Scr := if valE l p o n = 0 then scoreC o (ent3 p l) n.toNat else default
theorem validate_spec (sl sp : SlV) (l : List Sp) (p : List Pr) (o : Lrn) (n : Int) (hsz : ∀ u ∈ l, u.word.size ≤ 1000000) (hfew : optE l p o = 0 → l.length ≤ 8 ∧ ∀ u ∈ l, u.word.size ≤ 12 ∧ u.pl.length ≤ 20) (w : World) (hT : Stb w [] Tab) (hs : Stb w [] (RdL sl.v l)) (hsi : Stb w [] fun w' => ∀ u ∈ l, SpIn u w') (hp : Stb w [] (RdL sp.v p)) (hpi : Stb w [] fun w' => ∀ u ∈ p, PrIn u w') :
   Calls Tryz.prog 55 #[sl.v, sp.v, val o, .int .i64 n] w fun e w' => e = .returned (.tuple #[val (valS l p o n), .int .i64 (valE l p o n)]) ∧ Cl w [] [] w' := by
 have hL1 := rd_len hs.here
 have hL2 := rd_len hp.here
 refine calls_cw (vs := [_, _, _, _]) Tryz.func55 rfl Tryz.ntmps55 rfl (Cl.start0 w) (zr ?_)
 refine sw_x rfl rfl rfl (e_box rfl rfl rfl) (fun b6 => ?_)
 refine sw_x rfl rfl rfl (e_alloc rfl) (fun b8 => ?_)
 refine za rfl (nP (cw_seq (zr (zm rfl (zm rfl ?_)))))
 refine zS rfl (q_loadA rfl rfl (by exact .tail _ (.head _)) rfl) ?_
 refine sw_step rfl rfl rfl (q_call (CanCall.mk Tryz.call69) rfl (.k rfl (.k rfl (.k rfl (.nil)))) (fun _ w hw => callq hw (options_spec _ _ l p o hsz w (stb_arg hw hT) (stb_arg hw hs) (stb_arg hw hsi) (stb_arg hw hp) (stb_arg hw hpi)))) (za rfl (nP (zr (zm rfl (zS rfl (q_neq rfl rfl rfl) (sw_nil (post_then ?_)))))))
 refine cw_cond rfl (fun h => ?_) (fun h => ?_)
 · have h1 : optE l p o ≠ 0 := by simpa using h
   have e1 : valE l p o n = optE l p o := by unfold valE; rw [if_neg h1]
   have e2 : valS l p o n = default := by unfold valS; rw [e1, if_neg h1]
   rw [e1, e2]
   refine zr (zS rfl (q_build rfl (.nil) rfl) (zm rfl (sw_eff0 rfl rfl (e_store (i := 0) rfl rfl rfl rfl rfl rfl rfl rfl) (za rfl (nP (cw_ret (post_then_r ?_)))))))
   refine post_ret2 rfl (resOk_blk (x := (default : Scr)) rfl (by exact .head _) (by rfl)) (resOk_tmp rfl) ?_
   exact fun w' hw => ⟨rfl, (Cl.sel (by exact .nil _)) _ hw⟩
 · have h0 : optE l p o = 0 := by simpa using h
   obtain ⟨f1, f2⟩ := hfew h0
   obtain ⟨o1, o2, o3⟩ := optE_zero h0
   obtain ⟨y1, y2, y3, y4, y5⟩ := prsE_zero o2
   have o4 := (lexE_zero2 o1).2
   refine sP (cw_seq (zr (zm rfl (zS rfl (q_lss rfl rfl rfl) (zm rfl (zm rfl (zS rfl (q_gtr rfl rfl rfl) (zS rfl (q_or2 rfl rfl rfl) (nP ?_)))))))))
   refine cw_cond rfl (fun h2 => ?_) (fun h2 => ?_)
   · have h3 : n < 2 ∨ 10 < n := by simpa using h2
     have e1 : valE l p o n = 2 := by unfold valE; rw [if_pos h0, if_pos h3]
     have e2 : valS l p o n = default := by unfold valS; rw [e1, if_neg (by decide)]
     rw [e1, e2]
     refine zr (zS rfl (q_build rfl (.nil) rfl) (sw_eff0 rfl rfl (e_store (i := 0) rfl rfl rfl rfl rfl rfl rfl rfl) (za rfl (nP (cw_ret (post_then_r ?_))))))
     refine post_ret2 rfl (resOk_blk (x := (default : Scr)) rfl (by exact .head _) (by rfl)) (resOk_tmp rfl) ?_
     exact fun w' hw => ⟨rfl, (Cl.sel (by exact .nil _)) _ hw⟩
   · have h3 : ¬ (n < 2 ∨ 10 < n) := by simpa using h2
     have e1 : valE l p o n = 0 := by unfold valE; rw [if_pos h0, if_neg h3]
     have e2 : valS l p o n = scoreC o (ent3 p l) n.toNat := by unfold valS; rw [e1, if_pos rfl]
     rw [e1, e2]
     obtain ⟨m, rfl⟩ : ∃ m : Nat, n = m := ⟨n.toNat, by omega⟩
     rw [Int.toNat_natCast]
     refine sP (zr (zm rfl (zm rfl ?_)))
     refine sw_x rfl rfl rfl (e_call (CanCall.mk Tryz.call71) rfl (.k rfl (.k rfl (.nil))) (fun w1 hw => entriesW_spec sl sp l p hsz o1 o2 w1 (stb_arg hw hs) (stb_arg hw hsi) (stb_arg hw hp) (stb_arg hw hpi))) (fun y => ?_)
     refine sw_imp fun hy => ?_
     obtain ⟨se, es, wv⟩ := y
     obtain ⟨hy1, hy2⟩ := hy
     dsimp only at hy1 hy2 ⊢
     refine za rfl (nP (zr ?_))
     refine sw_reb (A := [blk b8 (enc (default : Scr)) 98, blk b6 (enc o) 40]) (F := [Sx.frz (fun w => RdL se.v es w ∧ ∀ i, i < es.length → RdL (nth es i).s.v (nth wv i) w ∧ RdRS (nth wv i) (nth es i).sl w)]) (fun w h => (Cl.sel (by exact .take 1 rfl (.take 1 rfl (.take 0 rfl (.nil _))))) _ h) fun w1 bs R => ?_
     have hff := R.frz (R := fun w => RdL se.v es w ∧ ∀ i, i < es.length → RdL (nth es i).s.v (nth wv i) w ∧ RdRS (nth wv i) (nth es i).sl w) (by exact .head _)
     have hes : Stb w1 bs (RdL se.v es) := stb_map hff fun _ h => h.1
     have hei : Stb w1 bs fun w => ∀ u ∈ es, EtIn u w := stb_map hff fun _ h u hu => by
       obtain ⟨i, hi, rfl⟩ := List.getElem_of_mem hu
       rw [← nth_get hi]
       exact ⟨_, h.2 i hi⟩
     have hrw : ∀ u ∈ es, ∃ vs, Stb w1 bs (RdL u.s.v vs) ∧ Stb w1 bs (RdR vs u.sl) := fun u hu => by
       obtain ⟨i, hi, rfl⟩ := List.getElem_of_mem hu
       rw [← nth_get hi]
       exact ⟨nth wv i, stb_map hff fun _ h => (h.2 i hi).1, stb_map hff fun _ h => (h.2 i hi).2.1⟩
     have hsi1 := R.stb hsi
     have hLe := rd_len hes.here
     obtain ⟨E, hE⟩ : ∃ E, ent3 p l = E := ⟨_, rfl⟩
     rw [hE] at hy1 ⊢
     have hEl : E.length = es.length := by rw [← hy1]; simp
     have hel : es.length ≤ 8 := by
       have := ent3_len p l
       rw [hE] at this; omega
     have hent : (es.map fun u => (u.word, u.sl)) = entC p l := by
       rw [← ent3_map, hE, ← hy1, List.map_map]; rfl
     obtain ⟨_, heok⟩ := ent_ok hsz o1 o2 hent
     have hep : ∀ u ∈ es, Stb w1 bs (RdL u.p.v u.pl) := fun u hu => by
       obtain ⟨x, hx, e3, e4⟩ := hy2 u hu
       rw [e3, e4]
       exact stb_map hsi1 fun _ h => h x hx
     have hew : ∀ u ∈ es, (runes u.word).length ≤ 12 ∧ wordOk u.word = true ∧ u.word.size ≤ 1000000 := fun u hu => by
       have h5 : etE u ∈ ent3 p l := by rw [hE, ← hy1]; exact List.mem_map.2 ⟨u, hu, rfl⟩
       unfold ent3 at h5
       obtain ⟨x, hx, h6⟩ := List.mem_map.1 h5
       have h7 : x.word = u.word := congrArg Prod.fst h6
       have hxl := (List.mem_filter.1 hx).1
       rw [← h7]
       have h8 := runes_len_le x.word
       have h9 := (f2 x hxl).1
       exact ⟨by omega, (o4 x hxl).1, by omega⟩
     have hqe : ∀ x ∈ (entC p l).flatMap evOf, EvOk x := evs_ok y5 fun u hu => (o4 u hu).1
     refine sw_x rfl rfl rfl (e_alloc rfl) (fun b12 => ?_)
     refine nP (cw_seq (zr (zm rfl (zm rfl (sw_nil (post_then (cw_block ?_)))))))
     refine cw_loop (S := Nat × Scr) (fun y => [(3, [], .int .i64 m), (6, [], .pointer (some ⟨b6, 0, none⟩)), (8, [], .pointer (some ⟨b8, 0, none⟩)), (11, [], se.v), (12, [], .pointer (some ⟨b12, 0, none⟩)), (42, [], .int .i64 m), (43, [], .int .i64 y.1)]) (fun y => Cl w1 bs [blk b12 (enc y.2) 98, blk b8 (enc (default : Scr)) 98, blk b6 (enc o) 40]) (fun y => y.1 ≤ m ∧ y.2 = (List.range y.1).foldl (foldE o E m) ⟨0, 0, 0, 0⟩ ∧ ScrB y.2 (96 * y.1)) (fun y => m - y.1) (0, ⟨0, 0, 0, 0⟩) ⟨Nat.zero_le _, rfl, by unfold ScrB; simp⟩ (by exact .cons rfl (.cons rfl (.cons rfl (.cons rfl (.cons rfl (.cons rfl (.cons rfl .nil))))))) (fun w' h => (Cl.sel (by exact .take 0 rfl (.take 0 rfl (.take 0 rfl (.nil _))))) _ h) ?_
     rintro ⟨f, s⟩ ⟨hf, hsv, hsb⟩
     dsimp only at hf hsv hsb ⊢
     refine zr (zS rfl (q_lss rfl rfl rfl) (nP (cw_seq ?_)))
     refine cw_cond rfl (fun h5 => ?_) (fun h5 => ?_)
     · have hf' : f < m := by simp at h5; omega
       have hsv2 : (List.range (f + 1)).foldl (foldE o E m) ⟨0, 0, 0, 0⟩ = foldE o E m s f := by
         rw [List.range_succ, List.foldl_append, ← hsv]; rfl
       refine sP (cw_seq (cw_block (zr (zm rfl (za rfl (nP (cw_seq (cw_region (za rfl (za rfl (sw_nil (post_then (cw_seq (cw_seq (cw_region (zm rfl ?_))))))))))))))))
       refine zS rfl (q_len rfl (.k rfl (.nil)) (stA (by assumption))) ?_
       refine zm rfl (nP (cw_block ?_))
       refine cw_loop (S := Nat × SlV × SlV) (fun y => [(3, [], .int .i64 m), (6, [], .pointer (some ⟨b6, 0, none⟩)), (8, [], .pointer (some ⟨b8, 0, none⟩)), (11, [], se.v), (12, [], .pointer (some ⟨b12, 0, none⟩)), (13, [], .int .i64 f), (14, [], y.2.1.v), (15, [], y.2.2.v), (42, [], .int .i64 m), (43, [], .int .i64 f), (46, [], se.v), (47, [], .int .i64 es.length), (48, [], .int .i64 y.1)]) (fun y => Cl w1 bs [ownL 153 y.2.1.v (selA es m f false y.1), ownL 153 y.2.2.v (selA es m f true y.1), blk b12 (enc s) 98, blk b8 (enc (default : Scr)) 98, blk b6 (enc o) 40]) (fun y => y.1 ≤ es.length) (fun y => es.length - y.1) (0, ⟨none, 0, 0⟩, ⟨none, 0, 0⟩) (Nat.zero_le _) (by exact .cons rfl (.cons rfl (.cons rfl (.cons rfl (.cons rfl (.cons rfl (.cons rfl (.cons rfl (.cons rfl (.cons rfl (.cons rfl (.cons rfl (.cons rfl .nil))))))))))))) (fun w' h => Cl.addNil 153 (Cl.addNil 153 ((Cl.sel (by exact .take 0 rfl (.take 0 rfl (.take 0 rfl (.nil _))))) _ h))) ?_
       rintro ⟨i, s14, s15⟩ hi
       dsimp only at hi ⊢
       have z1 := selA_len es m f false i
       have z2 := selA_len es m f true i
       refine zr (zS rfl (q_lss rfl rfl rfl) (nP (cw_seq ?_)))
       refine cw_cond rfl (fun h6 => ?_) (fun h6 => ?_)
       · have hi' : i < es.length := by simp at h6; omega
         have a1 := selA_succ es m f false i
         have a2 := selA_succ es m f true i
         refine sP (cw_seq (cw_block (zr (zm rfl ?_))))
         refine zS rfl (q_indexN rfl rfl rfl (stA (by assumption)) (by intro hc; omega)) ?_
         refine zS rfl (q_loadEl rfl rfl rfl (stA (by assumption)) (by intro hc; omega)) ?_
         refine sw_x rfl rfl rfl (e_alloc rfl) (fun b17 => ?_)
         refine za rfl (sw_eff0 rfl rfl (e_store (i := 0) rfl rfl rfl rfl rfl rfl rfl rfl) (nP (zr (zm rfl (zm rfl ?_)))))
         refine zS rfl (q_rem rfl rfl rfl (by intro hc; omega)) ?_
         refine zm rfl (zS rfl (q_eql rfl rfl rfl) (nP ?_))
         have hrm : decide ((i : Int) % (m : Int) = (f : Int)) = decide (i % m = f) := by
           rw [decide_eq_decide]
           omega
         rw [hrm]
         refine cw_cond rfl (fun h7 => ?_) (fun h7 => ?_)
         · have h8 : (decide (i % m = f) == true) = true := by simpa using h7
           have h9 : ¬ (decide (i % m = f) == false) = true := by simpa using h7
           rw [if_neg h9, List.append_nil] at a1
           rw [if_pos h8] at a2
           refine cw_region (zm rfl ?_)
           refine zS rfl (q_loadA rfl rfl (by exact .head _) rfl) ?_
           refine sw_x rfl rfl rfl (e_buildL (α := Ety) (l := [nth es i]) rfl (.k rfl (.nil)) rfl rfl rfl rfl) (fun s60 => ?_)
           refine sw_x rfl rfl rfl (e_append (α := Ety) (i := 3) rfl (.k rfl (.k rfl (.nil))) rfl rfl (rdO (by exact .head _)) (by simp; omega) rfl) (fun s61 => ?_)
           refine za rfl (sw_nil (post_blk (post_then (cw_region ?_))))
           refine zS rfl (q_add rfl rfl rfl (by intro hc; omega)) ?_
           refine zm rfl (sw_nil ?_)
           exact post_next (i + 1, s14, s61) (by exact .cons rfl (.cons rfl (.cons rfl (.cons rfl (.cons rfl (.cons rfl (.cons rfl (.cons rfl (.cons rfl (.cons rfl (.cons rfl (.cons rfl (.cons rfl .nil))))))))))))) (fun w' h => by simp only; rw [a1, a2]; exact (Cl.sel (by exact .take 2 rfl (.take 2 rfl (.take 2 rfl (.take 2 rfl (.take 2 rfl (.nil _))))))) _ h) (by simp only; omega) (by simp only; omega)
         · have h8 : ¬ (decide (i % m = f) == true) = true := by simpa using h7
           have h9 : (decide (i % m = f) == false) = true := by simpa using h7
           rw [if_pos h9] at a1
           rw [if_neg h8, List.append_nil] at a2
           refine cw_region (zm rfl ?_)
           refine zS rfl (q_loadA rfl rfl (by exact .head _) rfl) ?_
           refine sw_x rfl rfl rfl (e_buildL (α := Ety) (l := [nth es i]) rfl (.k rfl (.nil)) rfl rfl rfl rfl) (fun s64 => ?_)
           refine sw_x rfl rfl rfl (e_append (α := Ety) (i := 2) rfl (.k rfl (.k rfl (.nil))) rfl rfl (rdO (by exact .head _)) (by simp; omega) rfl) (fun s65 => ?_)
           refine za rfl (sw_nil (post_blk (post_then (cw_region ?_))))
           refine zS rfl (q_add rfl rfl rfl (by intro hc; omega)) ?_
           refine zm rfl (sw_nil ?_)
           exact post_next (i + 1, s65, s15) (by exact .cons rfl (.cons rfl (.cons rfl (.cons rfl (.cons rfl (.cons rfl (.cons rfl (.cons rfl (.cons rfl (.cons rfl (.cons rfl (.cons rfl (.cons rfl .nil))))))))))))) (fun w' h => by simp only; rw [a1, a2]; exact (Cl.sel (by exact .take 2 rfl (.take 2 rfl (.take 2 rfl (.take 2 rfl (.take 2 rfl (.nil _))))))) _ h) (by simp only; omega) (by simp only; omega)
       · have hi' : i = es.length := by simp at h6; omega
         subst hi'
         obtain ⟨oth, hoth⟩ : ∃ oth, selA es m f false es.length = oth := ⟨_, rfl⟩
         obtain ⟨own, hown⟩ : ∃ own, selA es m f true es.length = own := ⟨_, rfl⟩
         have hom : ∀ u ∈ oth, u ∈ es := fun u hu => by rw [← hoth] at hu; exact selA_mem (Nat.le_refl _) hu
         have hwm : ∀ u ∈ own, u ∈ es := fun u hu => by rw [← hown] at hu; exact selA_mem (Nat.le_refl _) hu
         have hownE : selA E m f true E.length = own.map etE := by
           rw [← hown, selA_map etE (Nat.le_refl _), hy1, hEl]
         have hothE : selA E m f false E.length = oth.map etE := by
           rw [← hoth, selA_map etE (Nat.le_refl _), hy1, hEl]
         rw [hoth] at z1 ⊢
         rw [hown] at z2 ⊢
         have hfoldE : foldE o E m s f = (own.map etE).foldl (addE (bookE o E m f)) s := by
           unfold foldE; rw [hownE]
         refine cw_exit (post_then_x (post_then_x (post_blk_eq (post_then (cw_seq (zr (zm rfl ?_)))))))
         refine zS rfl (q_len rfl (.k rfl (.nil)) (rdO (by exact .tail _ (.head _)))) ?_
         refine zS rfl (q_eql rfl rfl rfl) (nP ?_)
         refine cw_cond rfl (fun h7 => ?_) (fun h7 => ?_)
         · have h8 : own = [] := by simpa using h7
           rw [h8] at hfoldE
           refine cw_exit (post_then_x (post_blk_eq (post_then (cw_region ?_))))
           refine zS rfl (q_add rfl rfl rfl (by intro hc; omega)) ?_
           refine zm rfl (sw_nil ?_)
           refine post_next (f + 1, s) (by exact .cons rfl (.cons rfl (.cons rfl (.cons rfl (.cons rfl (.cons rfl (.cons rfl .nil))))))) (Cl.sel (by exact .take 2 rfl (.take 2 rfl (.take 2 rfl (.nil _))))) ⟨by simp only; omega, by simp only; rw [hsv2, hfoldE]; rfl, ?_⟩ (by simp only; omega)
           unfold ScrB at hsb ⊢
           dsimp only
           omega
         · have hqo : ∀ x ∈ (oth.map fun u => (u.word, u.sl)).flatMap evOf, EvOk x := by
             intro x hx
             obtain ⟨u, hu, hx2⟩ := List.mem_flatMap.1 hx
             obtain ⟨v, hv, rfl⟩ := List.mem_map.1 hu
             refine hqe x (List.mem_flatMap.2 ⟨(v.word, v.sl), ?_, hx2⟩)
             rw [← hent]
             exact List.mem_map.2 ⟨v, hom v hv, rfl⟩
           have hole : ((oth.map fun u => (u.word, u.sl)).flatMap evOf).length ≤ 96 := by
             have key : ∀ q : List Ety, (∀ u ∈ q, u ∈ es) → ((q.map fun u => (u.word, u.sl)).flatMap evOf).length ≤ 12 * q.length := by
               intro q
               induction q with
               | nil => intro _; simp
               | cons u q ih =>
                 intro hq
                 have h1 := (hew u (hq u (.head _))).1
                 have h2 := ih fun v hv => hq v (.tail _ hv)
                 rw [List.map_cons, List.flatMap_cons, List.length_append, evOf_len2, List.length_cons]
                 dsimp only
                 omega
             have := key oth hom
             omega
           refine sP (zr (zm rfl ?_))
           refine zS rfl (q_loadA rfl rfl (by exact .tail _ (.tail _ (.tail _ (.tail _ (.head _))))) rfl) ?_
           refine sw_x rfl rfl rfl (e_call (CanCall.mk Tryz.call70) rfl (.k rfl (.k rfl (.nil))) (fun w2 hw => learned_spec s14 oth o o3 (by omega) (fun u hu => heok u (hom u hu)) (by have := abc_le ((oth.map fun u => (u.word, u.sl)).flatMap evOf); omega) w2 (stb_own hw (by exact .head _)) (stb_map (stb_arg hw hei) fun _ h u hu => h u (hom u hu)))) (fun b => ?_)
           refine sw_imp fun hb => ?_
           have hbk : bkP b.bl = bookE o E m f := by
             unfold bookE
             rw [hothE, List.map_map]
             exact hb
           have hbo : bookOk b.bl = true := book_of o3 hqo (by rw [← learn_flat]; exact hb)
           have hg := good_of hbo
           obtain ⟨P, hP⟩ : ∃ P, bookE o E m f = P := ⟨_, rfl⟩
           rw [hP] at hbk hfoldE
           refine sw_x rfl rfl rfl (e_alloc rfl) (fun b18 => ?_)
           refine sw_eff0 rfl rfl (e_store (i := 0) rfl rfl rfl rfl rfl rfl rfl rfl) (nP (zr (zm rfl ?_)))
           refine zS rfl (q_len rfl (.k rfl (.nil)) (rdO (by exact .tail _ (.tail _ (.tail _ (.head _)))))) ?_
           refine zm rfl (nP (cw_block ?_))
           refine cw_reb (A := [ownL 153 s15.v own, blk b18 [b.b.v] 45, blk b12 (enc s) 98, blk b8 (enc (default : Scr)) 98, blk b6 (enc o) 40]) (F := [Sx.frz (BkIn b)]) (fun w h => (Cl.sel (by exact .take 3 rfl (.take 0 rfl (.take 2 rfl (.take 2 rfl (.take 2 rfl (.take 0 rfl (.nil _)))))))) _ h) fun w2 bs2 R2 => ?_
           have hb2 := R2.frz (R := BkIn b) (by exact .head _)
           refine cw_loop (S := Nat × Scr) (fun y => [(3, [], .int .i64 m), (6, [], .pointer (some ⟨b6, 0, none⟩)), (8, [], .pointer (some ⟨b8, 0, none⟩)), (11, [], se.v), (12, [], .pointer (some ⟨b12, 0, none⟩)), (13, [], .int .i64 f), (18, [], .pointer (some ⟨b18, 0, none⟩)), (42, [], .int .i64 m), (43, [], .int .i64 f), (73, [], s15.v), (74, [], .int .i64 own.length), (75, [], .int .i64 y.1)]) (fun y => Cl w2 bs2 [ownL 153 s15.v own, blk b18 [b.b.v] 45, blk b12 (enc y.2) 98, blk b8 (enc (default : Scr)) 98, blk b6 (enc o) 40]) (fun y => y.1 ≤ own.length ∧ y.2 = ((own.take y.1).map etE).foldl (addE P) s ∧ ScrB y.2 (96 * f + 12 * y.1)) (fun y => own.length - y.1) (0, s) ⟨Nat.zero_le _, rfl, by simpa using hsb⟩ (by exact .cons rfl (.cons rfl (.cons rfl (.cons rfl (.cons rfl (.cons rfl (.cons rfl (.cons rfl (.cons rfl (.cons rfl (.cons rfl (.cons rfl .nil)))))))))))) (fun w' h => (Cl.sel (by exact .take 0 rfl (.take 0 rfl (.take 0 rfl (.take 0 rfl (.take 0 rfl (.nil _))))))) _ h) ?_
           rintro ⟨j, s2⟩ ⟨hj, hs2, hsb2⟩
           dsimp only at hj hs2 hsb2 ⊢
           refine zr (zS rfl (q_lss rfl rfl rfl) (nP (cw_seq ?_)))
           refine cw_cond rfl (fun h8 => ?_) (fun h8 => ?_)
           · have hj' : j < own.length := by simp at h8; omega
             obtain ⟨u, hu⟩ : ∃ u, nth own j = u := ⟨_, rfl⟩
             have hum : u ∈ es := by rw [← hu]; exact hwm _ (nth_mem hj')
             obtain ⟨vs, hvs1, hvs2⟩ := hrw u hum
             obtain ⟨g1, g2, g3⟩ := hew u hum
             have hvs1 := R2.stb hvs1
             have hvs2 := R2.stb hvs2
             have hup := R2.stb (hep u hum)
             have hul := (heok u hum).len
             have hvl := hvs2.here.1
             obtain ⟨ws, hws⟩ : ∃ ws, runes u.word = ws := ⟨_, rfl⟩
             have hs3 : ((own.take (j + 1)).map etE).foldl (addE P) s = addE P s2 (etE u) := by
               rw [List.take_succ_eq_append_getElem hj', ← nth_get hj', hu, List.map_append, List.foldl_append, ← hs2]; rfl
             obtain ⟨a1, a2, a3, a4⟩ := hsb2
             refine sP (cw_seq (cw_block (zr ?_)))
             refine zS rfl (q_indexN rfl rfl rfl (rdO (by exact .head _)) (by intro hc; omega)) ?_
             refine zS rfl (q_loadEl rfl rfl rfl (rdO (by exact .head _)) (by intro hc; omega)) ?_
             rw [hu]
             refine sw_x rfl rfl rfl (e_alloc rfl) (fun b20 => ?_)
             refine sw_eff0 rfl rfl (e_store (i := 0) rfl rfl rfl rfl rfl rfl rfl rfl) (nP (zr ?_))
             refine zS rfl (q_loadA rfl rfl (by exact .tail _ (.tail _ (.head _))) rfl) ?_
             refine zS rfl (q_fieldAddr rfl rfl) (zS rfl (q_fieldAddr rfl rfl) ?_)
             refine zS rfl (q_loadC rfl rfl (by exact .head _) rfl) ?_
             refine sw_x rfl rfl rfl (e_call (CanCall.mk Tryz.call99) rfl (.k rfl (.k rfl (.nil))) (fun w3 hw => said_spec b u.word (by omega) (by omega) hg w3 (stb_arg hw hb2))) (fun y => ?_)
             refine sw_imp fun _ => ?_
             obtain ⟨sp1, sp2⟩ := y
             rw [hws]
             dsimp only
             obtain ⟨rp, hrp⟩ : ∃ rp, ((List.range ws.length).map fun i => (ruleX b.bl ws i).p) = rp := ⟨_, rfl⟩
             obtain ⟨rn, hrn⟩ : ∃ rn, ((List.range ws.length).map fun i => ruleN b.bl ws i) = rn := ⟨_, rfl⟩
             obtain ⟨rl, hrl⟩ : ∃ rl, ((List.range ws.length).map fun i => (ruleX b.bl ws i).pl) = rl := ⟨_, rfl⟩
             obtain ⟨sd, hsd⟩ : ∃ sd, saidP P ws ws.length = sd := ⟨_, rfl⟩
             rw [hrp, hrn]
             have hrpl : rp.length = ws.length := by rw [← hrp]; simp
             have hrll : rl.length = ws.length := by rw [← hrl]; simp
             have hrr : ∀ i, i < ws.length → Stb w2 bs2 (RdL (nth rp i).v (nth rl i)) := fun i hi => by
               rw [← hrp, ← hrl, nth_range _ hi, nth_range _ hi]
               exact stb_map hb2 fun _ h => rule_in hg h
             have hrq : ∀ i, i < ws.length → nth rl i = rulP P ws i := fun i hi => by
               rw [← hrl, nth_range _ hi, ruleX_P hg, hbk]
             have hfl : rl.flatten = sd := by
               rw [← hrl, ← hsd]
               unfold saidP
               congr 1
               exact List.map_congr_left fun i _ => by rw [ruleX_P hg, hbk]
             have hws12 : ws.length ≤ 12 := by rw [← hws]; exact g1
             have hfb : rl.flatten.length ≤ 100000 := by
               have h5 := flat_bd (fun i => (ruleX b.bl ws i).pl) (B := 1000) (fun i => rule_small hg) ws.length
               rw [List.flatMap_def, hrl] at h5
               have : ws.length * 1000 ≤ 12 * 1000 := Nat.mul_le_mul_right _ hws12
               omega
             refine zm rfl (zS rfl (q_extract rfl rfl rfl) (zS rfl (q_extract rfl rfl rfl) (za rfl (za rfl (nP (zr (zS rfl (q_fieldAddr rfl rfl) ?_)))))))
             refine zS rfl (q_loadC rfl rfl (by exact .tail _ (.tail _ (.tail _ (.tail _ (.tail _ (.head _)))))) rfl) ?_
             refine zS rfl (q_add rfl rfl rfl (by intro hc; omega)) ?_
             refine zS rfl (q_fieldAddr rfl rfl) (sw_eff0 rfl rfl (e_store (i := 5) rfl rfl rfl rfl rfl rfl rfl rfl) (nP (cw_seq (cw_seq ?_))))
             refine cw_cut (S := Unit) (fun _ => [(3, [], .int .i64 m), (6, [], .pointer (some ⟨b6, 0, none⟩)), (8, [], .pointer (some ⟨b8, 0, none⟩)), (11, [], se.v), (12, [], .pointer (some ⟨b12, 0, none⟩)), (13, [], .int .i64 f), (18, [], .pointer (some ⟨b18, 0, none⟩)), (20, [], .pointer (some ⟨b20, 0, none⟩)), (21, [], sp1.v), (42, [], .int .i64 m), (43, [], .int .i64 f), (73, [], s15.v), (74, [], .int .i64 own.length), (75, [], .int .i64 j), (96, [], .bool (decide (sd = u.pl)))]) (fun _ => Cl w2 bs2 [ownL 23 sp1.v rp, blk b20 (enc u) 153, ownL 153 s15.v own, blk b18 [b.b.v] 45, blk b12 (enc (⟨s2.words + 1, s2.right, s2.letters, s2.good⟩ : Scr)) 98, blk b8 (enc (default : Scr)) 98, blk b6 (enc o) 40]) (fun _ => True) ?_ ?_
             · refine cw_region_a (Cl w2 bs2 [blk b20 (enc u) 153]) [] mixed_Tryz ?_
               refine zp 0 rfl (q_move rfl rfl) ?_
               refine zk 2 (Cl.sel (by exact .take 2 rfl (.nil _))) rfl (q_fieldAddr rfl rfl) ?_
               refine zk 3 (Cl.sel (by exact .take 2 rfl (.nil _))) rfl (q_fieldAddr rfl rfl) ?_
               refine zk 4 (Cl.sel (by exact .take 2 rfl (.nil _))) rfl (q_loadC rfl rfl (by exact .head _) rfl) ?_
               refine aw_x 1 (by kernel_rfl) rfl rfl rfl rfl (e_call (CanCall.mk Tryz.call101) rfl (.k rfl (.nil)) (fun w3 hw => concatS_spec sp1.v rp rl w3 (stb_own hw (by exact .head _)) (by rw [hrpl, hrll]) (fun i hi => stb_arg hw (hrr i (by omega))) hfb)) (by intro hb; exact fun _ w h => (Cl.sel (by exact .take 3 rfl (.nil _))) w h.2) (fun s92 => ?_)
               refine aw_imp fun _ => ?_
               rw [hfl]
               refine aw_q 5 (by kernel_rfl) rfl rfl rfl rfl (q_call (CanCall.mk Tryz.call100) rfl (.k rfl (.k rfl (.nil))) (fun _ w3 hw => callq hw (equalL_spec _ _ sd u.pl w3 (stb_own hw (by exact .head _)) (stb_arg hw hup)))) (by intro hb; exact (Cl.sel (by exact .take 3 rfl (.nil _)))) ?_
               refine aw_end (by kernel_rfl) ?_
               exact post_meet () (by exact .cons rfl (.cons rfl (.cons rfl (.cons rfl (.cons rfl (.cons rfl (.cons rfl (.cons rfl (.cons rfl (.cons rfl (.cons rfl (.cons rfl (.cons rfl (.cons rfl (.cons rfl .nil))))))))))))))) (Cl.sel (by exact .take 1 rfl (.take 2 rfl (.take 2 rfl (.take 2 rfl (.take 2 rfl (.take 2 rfl (.take 2 rfl (.nil _))))))))) trivial
             rintro _ _
             refine post_then ?_
             refine cw_cut (S := Unit) (fun _ => [(3, [], .int .i64 m), (6, [], .pointer (some ⟨b6, 0, none⟩)), (8, [], .pointer (some ⟨b8, 0, none⟩)), (11, [], se.v), (12, [], .pointer (some ⟨b12, 0, none⟩)), (13, [], .int .i64 f), (18, [], .pointer (some ⟨b18, 0, none⟩)), (20, [], .pointer (some ⟨b20, 0, none⟩)), (21, [], sp1.v), (42, [], .int .i64 m), (43, [], .int .i64 f), (73, [], s15.v), (74, [], .int .i64 own.length), (75, [], .int .i64 j)]) (fun _ => Cl w2 bs2 [ownL 23 sp1.v rp, blk b20 (enc u) 153, ownL 153 s15.v own, blk b18 [b.b.v] 45, blk b12 (enc (⟨s2.words + 1, s2.right + (if sd = u.pl then 1 else 0), s2.letters, s2.good⟩ : Scr)) 98, blk b8 (enc (default : Scr)) 98, blk b6 (enc o) 40]) (fun _ => True) ?_ ?_
             · refine cw_cond rfl (fun h9 => ?_) (fun h9 => ?_)
               · rw [if_pos (by simpa using h9)]
                 refine cw_region (zS rfl (q_fieldAddr rfl rfl) ?_)
                 refine zS rfl (q_loadC rfl rfl (by exact .tail _ (.tail _ (.tail _ (.tail _ (.head _))))) rfl) ?_
                 refine zS rfl (q_add rfl rfl rfl (by intro hc; (simp only [List.length_set, List.length_append, List.length_cons, List.length_nil, List.length_replicate, List.length_take, List.length_drop, List.length_map]; omega))) ?_
                 refine zS rfl (q_fieldAddr rfl rfl) (sw_eff0 rfl rfl (e_store (i := 4) rfl rfl rfl rfl rfl rfl rfl rfl) (sw_nil ?_))
                 exact post_meet () (by exact .cons rfl (.cons rfl (.cons rfl (.cons rfl (.cons rfl (.cons rfl (.cons rfl (.cons rfl (.cons rfl (.cons rfl (.cons rfl (.cons rfl (.cons rfl (.cons rfl .nil)))))))))))))) (Cl.sel (by exact .take 0 rfl (.take 0 rfl (.take 0 rfl (.take 0 rfl (.take 0 rfl (.take 0 rfl (.take 0 rfl (.nil _))))))))) trivial
               · rw [if_neg (by simpa using h9), Int.add_zero]
                 refine cw_skip ?_
                 exact post_meet () (by exact .cons rfl (.cons rfl (.cons rfl (.cons rfl (.cons rfl (.cons rfl (.cons rfl (.cons rfl (.cons rfl (.cons rfl (.cons rfl (.cons rfl (.cons rfl (.cons rfl .nil)))))))))))))) (Cl.sel (by exact .take 0 rfl (.take 0 rfl (.take 0 rfl (.take 0 rfl (.take 0 rfl (.take 0 rfl (.take 0 rfl (.nil _))))))))) trivial
             obtain ⟨rg, hrg⟩ : ∃ rg, s2.right + (if sd = u.pl then 1 else 0) = rg := ⟨_, rfl⟩
             rw [hrg]
             rintro _ _
             refine post_then (zr (zm rfl ?_))
             refine zS rfl (q_len rfl (.k rfl (.nil)) (rdO (by exact .head _))) ?_
             refine zm rfl (nP (cw_block ?_))
             refine cw_loop (S := Nat) (fun k => [(3, [], .int .i64 m), (6, [], .pointer (some ⟨b6, 0, none⟩)), (8, [], .pointer (some ⟨b8, 0, none⟩)), (11, [], se.v), (12, [], .pointer (some ⟨b12, 0, none⟩)), (13, [], .int .i64 f), (18, [], .pointer (some ⟨b18, 0, none⟩)), (20, [], .pointer (some ⟨b20, 0, none⟩)), (21, [], sp1.v), (42, [], .int .i64 m), (43, [], .int .i64 f), (73, [], s15.v), (74, [], .int .i64 own.length), (75, [], .int .i64 j), (102, [], .int .i64 ws.length), (103, [], .int .i64 k)]) (fun k => Cl w2 bs2 [ownL 23 sp1.v rp, blk b20 (enc u) 153, ownL 153 s15.v own, blk b18 [b.b.v] 45, blk b12 (enc (⟨s2.words + 1, rg, s2.letters + k, s2.good + goodP P ws u.sl k⟩ : Scr)) 98, blk b8 (enc (default : Scr)) 98, blk b6 (enc o) 40]) (fun k => k ≤ ws.length) (fun k => ws.length - k) 0 (Nat.zero_le _) (by exact .cons rfl (.cons rfl (.cons rfl (.cons rfl (.cons rfl (.cons rfl (.cons rfl (.cons rfl (.cons rfl (.cons rfl (.cons rfl (.cons rfl (.cons rfl (.cons rfl (.cons' rfl (by congr 1; first | omega | (simp only; omega)) (.cons rfl .nil)))))))))))))))) (fun w' h => by
               have e1 : goodP P ws u.sl 0 = 0 := rfl
               rw [e1]
               simp only [Int.natCast_zero, Int.add_zero]
               exact (Cl.sel (by exact .take 0 rfl (.take 0 rfl (.take 0 rfl (.take 0 rfl (.take 0 rfl (.take 0 rfl (.take 0 rfl (.nil _))))))))) _ h) ?_
             rintro k hk
             have gk := good_le P ws u.sl k
             obtain ⟨gd, hgd⟩ : ∃ gd, goodP P ws u.sl k = gd := ⟨_, rfl⟩
             rw [hgd] at gk ⊢
             refine zr (zS rfl (q_lss rfl rfl rfl) (nP (cw_seq ?_)))
             refine cw_cond rfl (fun h9 => ?_) (fun h9 => ?_)
             · have hk' : k < ws.length := by simp at h9; omega
               have gs := good_succ P ws u.sl k
               rw [hgd] at gs
               have hrk := hrr k hk'
               have hqk := hrq k hk'
               have hkv : k < vs.length := by rw [hvl, hul, hws]; exact hk'
               have hsk : Stb w2 bs2 (RdL (nth vs k).v (nth u.sl k)) := stb_map hvs2 fun _ h => h.2 k (by rw [hul, hws]; exact hk')
               refine sP (cw_seq (cw_block (zr (zm rfl (za rfl (nP (cw_seq (cw_region (zS rfl (q_fieldAddr rfl rfl) ?_)))))))))
               refine zS rfl (q_loadC rfl rfl (by exact .tail _ (.tail _ (.tail _ (.tail _ (.head _))))) rfl) ?_
               refine zS rfl (q_add rfl rfl rfl (by intro hc; (simp only [List.length_set, List.length_append, List.length_cons, List.length_nil, List.length_replicate, List.length_take, List.length_drop, List.length_map]; omega))) ?_
               refine zS rfl (q_fieldAddr rfl rfl) (sw_eff0 rfl rfl (e_store (i := 4) rfl rfl rfl rfl rfl rfl rfl rfl) (nP (cw_seq ?_)))
               refine cw_region_q mixed_Tryz (by kernel_rfl) ?_
               refine zw rfl (zw rfl ?_)
               refine zq rfl (q_indexN rfl rfl rfl (rdO (by exact .head _)) (by intro hc; omega)) ?_
               refine zq rfl (q_loadEl rfl rfl rfl (rdO (by exact .head _)) (by intro hc; omega)) ?_
               refine zq rfl (q_fieldAddr rfl rfl) ?_
               refine zq rfl (q_loadC rfl rfl (by exact .tail _ (.head _)) rfl) ?_
               refine zw rfl ?_
               refine zq rfl (q_indexN rfl rfl rfl (stA (by assumption)) (by intro hc; omega)) ?_
               refine zq rfl (q_loadEl rfl rfl rfl (stA (by assumption)) (by intro hc; omega)) ?_
               refine qw_step rfl rfl rfl (q_call (CanCall.mk Tryz.call100) rfl (.k rfl (.k rfl (.nil))) (fun _ w hw => callq hw (equalL_spec _ _ (nth rl k) (nth u.sl k) w (stb_arg hw hrk) (stb_arg hw hsk)))) (qw_end (post_then ?_))
               have e1 : s2.letters + ((k + 1 : Nat) : Int) = s2.letters + (k : Int) + 1 := by omega
               refine cw_cond rfl (fun h10 => ?_) (fun h10 => ?_)
               · rw [if_pos (by rw [← hqk]; simpa using h10)] at gs
                 have e2 : s2.good + ((gd + 1 : Nat) : Int) = s2.good + (gd : Int) + 1 := by omega
                 refine cw_region (zS rfl (q_fieldAddr rfl rfl) ?_)
                 refine zS rfl (q_loadC rfl rfl (by exact .tail _ (.tail _ (.tail _ (.tail _ (.head _))))) rfl) ?_
                 refine zS rfl (q_add rfl rfl rfl (by intro hc; (simp only [List.length_set, List.length_append, List.length_cons, List.length_nil, List.length_replicate, List.length_take, List.length_drop, List.length_map]; omega))) ?_
                 refine zS rfl (q_fieldAddr rfl rfl) (sw_eff0 rfl rfl (e_store (i := 4) rfl rfl rfl rfl rfl rfl rfl rfl) (sw_nil (post_blk (post_then (cw_region ?_)))))
                 refine zS rfl (q_add rfl rfl rfl (by intro hc; omega)) ?_
                 refine zm rfl (sw_nil ?_)
                 exact post_next (k + 1) (by exact .cons rfl (.cons rfl (.cons rfl (.cons rfl (.cons rfl (.cons rfl (.cons rfl (.cons rfl (.cons rfl (.cons rfl (.cons rfl (.cons rfl (.cons rfl (.cons rfl (.cons rfl (.cons rfl .nil)))))))))))))))) (fun w' h => by rw [gs, e1, e2]; exact (Cl.sel (by exact .take 0 rfl (.take 0 rfl (.take 0 rfl (.take 0 rfl (.take 0 rfl (.take 0 rfl (.take 0 rfl (.nil _))))))))) _ h) (by omega) (by omega)
               · rw [if_neg (by rw [← hqk]; simpa using h10), Nat.add_zero] at gs
                 refine cw_skip (post_blk (post_then (cw_region ?_)))
                 refine zS rfl (q_add rfl rfl rfl (by intro hc; omega)) ?_
                 refine zm rfl (sw_nil ?_)
                 exact post_next (k + 1) (by exact .cons rfl (.cons rfl (.cons rfl (.cons rfl (.cons rfl (.cons rfl (.cons rfl (.cons rfl (.cons rfl (.cons rfl (.cons rfl (.cons rfl (.cons rfl (.cons rfl (.cons rfl (.cons rfl .nil)))))))))))))))) (fun w' h => by rw [gs, e1]; exact (Cl.sel (by exact .take 0 rfl (.take 0 rfl (.take 0 rfl (.take 0 rfl (.take 0 rfl (.take 0 rfl (.take 0 rfl (.nil _))))))))) _ h) (by omega) (by omega)
             · have hk' : k = ws.length := by simp at h9; omega
               subst hk'
               have hadd : addE P s2 (etE u) = ⟨s2.words + 1, rg, s2.letters + ws.length, s2.good + gd⟩ := by
                 unfold addE etE
                 dsimp only
                 rw [hws, hsd, hrg, hgd]
               have hsbn := add_b (P := P) (u := etE u) (show ScrB s2 _ from ⟨a1, a2, a3, a4⟩) (by show (runes u.word).length ≤ 12; omega)
               rw [hadd] at hsbn hs3
               refine cw_exit (post_then_x (post_then_x (post_blk_eq (post_blk (post_then (cw_region ?_))))))
               refine zS rfl (q_add rfl rfl rfl (by intro hc; omega)) ?_
               refine zm rfl (sw_nil ?_)
               refine post_next (j + 1, ⟨s2.words + 1, rg, s2.letters + ws.length, s2.good + gd⟩) (by exact .cons rfl (.cons rfl (.cons rfl (.cons rfl (.cons rfl (.cons rfl (.cons rfl (.cons rfl (.cons rfl (.cons rfl (.cons rfl (.cons rfl .nil)))))))))))) (fun w' h => (Cl.sel (by exact .take 2 rfl (.take 2 rfl (.take 2 rfl (.take 2 rfl (.take 2 rfl (.nil _))))))) _ h) ⟨by simp only; omega, hs3.symm, ?_⟩ (by simp only; omega)
               have e3 : 96 * (f : Int) + 12 * (j : Int) + 12 = 96 * (f : Int) + 12 * ((j + 1 : Nat) : Int) := by omega
               rw [e3] at hsbn
               exact hsbn
           · have hj' : j = own.length := by simp at h8; omega
             subst hj'
             rw [List.take_length, ← hfoldE] at hs2
             refine cw_exit (post_then_x (post_then_x (post_blk_eq (post_blk (post_then (cw_region ?_))))))
             refine zS rfl (q_add rfl rfl rfl (by intro hc; omega)) ?_
             refine zm rfl (sw_nil ?_)
             refine post_next (f + 1, s2) (by exact .cons rfl (.cons rfl (.cons rfl (.cons rfl (.cons rfl (.cons rfl (.cons rfl .nil))))))) (fun w' h => R2.cl ((Cl.sel (by exact .take 2 rfl (.take 2 rfl (.take 2 rfl (.nil _))))) _ h)) ⟨by simp only; omega, by simp only; rw [hsv2, hs2], ?_⟩ (by simp only; omega)
             unfold ScrB at hsb2 ⊢
             dsimp only
             omega
     · have hf' : f = m := by simp at h5; omega
       subst hf'
       have e3 : s = scoreC o E f := hsv
       refine cw_exit (post_then_x (post_then_x (post_blk_eq (post_then (zr ?_)))))
       refine zS rfl (q_loadA rfl rfl (by exact .head _) rfl) ?_
       refine sw_eff0 rfl rfl (e_store (i := 1) rfl rfl rfl rfl rfl rfl rfl rfl) (za rfl (nP (cw_ret ?_)))
       refine post_ret2 rfl (resOk_blk (x := s) rfl (by exact .tail _ (.head _)) (by rfl)) (resOk_tmp rfl) ?_
       exact fun w' hw => ⟨by rw [e3], R.cl ((Cl.sel (by exact .nil _)) _ hw)⟩
end Go.Proofs.YtkmbliojafefdaaGreatDoor
