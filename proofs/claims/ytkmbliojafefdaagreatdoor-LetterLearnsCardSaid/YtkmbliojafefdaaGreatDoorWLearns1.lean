import Derived.Test.YtkmbliojafefdaaGreatDoorWLearns0
import Derived.Test.YtkmbliojafefdaaGreatDoorRows
import Derived.LaidMore
import Derived.Lay
import Derived.Stop.Joined
import Derived.Test.YtkmbliojafefdaaGreatDoorVLearns1

set_option autoImplicit false
set_option linter.unusedSimpArgs false
set_option linter.unusedVariables false
set_option maxRecDepth 100000
namespace Go.Proofs.YtkmbliojafefdaaGreatDoor
open Go.Sx
open Enc (enc val)
theorem nth_out {l : List Int} {i : Nat} (h : l.length ≤ i) : nth l i = 0 := by
  simp only [nth, List.getD, List.getElem?_eq_none h]; rfl
theorem sets_same {l : List Int} {i : Nat} {v : Int} (h : nth l i = v) (hi : i < l.length) : l.set i v = l := by
  rw [← h, nth_get hi]; exact List.set_getElem_self hi
theorem perm_rot {α : Type} {a b : α} {R : List α} : (a :: b :: R).Perm (b :: (R ++ [a])) := (List.Perm.swap b a R).trans (.cons b (List.perm_append_comm (l₁ := [a]) (l₂ := R)))
theorem perm_in1 {α : Type} {a b : α} {R T : List α} (h : (a :: R).Perm T) : (a :: b :: R).Perm (b :: T) := (List.Perm.swap b a R).trans (.cons b h)
theorem perm_in2 {α : Type} {a b c : α} {R T : List α} (h : (a :: b :: R).Perm T) : (a :: b :: c :: R).Perm (c :: T) :=
  ((List.Perm.swap c b R).cons a).trans ((List.Perm.swap c a (b :: R)).trans (.cons c h))
theorem step_no {f : Pr → Int} {b : Int} {x : Pr} (h : ¬ (0 ≤ f x ∧ (b < 0 ∨ f x < b))) : stepC f b x = b := by unfold stepC; rw [if_neg h]
theorem step_yes {f : Pr → Int} {b : Int} {x : Pr} (h : 0 ≤ f x ∧ (b < 0 ∨ f x < b)) : stepC f b x = f x := by unfold stepC; rw [if_pos h]
set_option maxHeartbeats 4000000 in
theorem refAlign_spec2 (sp sw sl : SlV) (p : List Pr) (ws : List Rn) (l : List ByteArray) (hn : ws.length ≤ 80) (hm : l.length ≤ 800) (hpn : p.length ≤ 100000) (hcost : CostOk p) (hpl : ∀ x ∈ p, x.pl.length ≤ 1000) (w : World) (hp : Stb w [] (RdL sp.v p)) (hpi : Stb w [] fun w' => ∀ u ∈ p, PrIn u w') (hw0 : Stb w [] (RdL sw.v ws)) (hl : Stb w [] (RdL sl.v l)) :
    Calls Tryz.prog 24 #[sp.v, sw.v, sl.v] w fun e w' => ∃ r : SlV × List SlV, e = .returned (.tuple #[r.1.v, .int .i64 (leastC p ws l)]) ∧ True ∧ Cl w [] [frz (fun w => RdL r.1.v r.2 w ∧ RdR r.2 (if 0 ≤ leastC p ws l then pathC p ws l else []) w)] w' := by
  have hLp := rd_len hp.here
  have hLw := rd_len hw0.here
  have hLl := rd_len hl.here
  obtain ⟨n, hne⟩ : ∃ n, ws.length = n := ⟨_, rfl⟩
  obtain ⟨m, hme⟩ : ∃ m, l.length = m := ⟨_, rfl⟩
  rw [hne] at hn
  rw [hme] at hm
  obtain ⟨D, hD⟩ : ∃ D : Nat → Nat → Int, ∀ i k, D i k = leastC p (ws.drop i) (l.drop k) := ⟨_, fun _ _ => rfl⟩
  have hDb : ∀ i k, -1 ≤ D i k ∧ D i k ≤ 80000 := fun i k => by
    have := least_bd hcost (ws.drop i) (l.drop k)
    rw [hD]
    rw [List.length_drop, hne] at this
    omega
  have hDn : ∀ k, k ≤ m → D n k = if k = m then 0 else -1 := fun k hk => by
    rw [hD, ← hne, List.drop_length]
    unfold leastC
    by_cases e : k = m
    · rw [if_pos e, if_pos (by rw [e, ← hme, List.drop_length])]
    · rw [if_neg e, if_neg (by rw [List.drop_eq_nil_iff]; omega)]
  have hDs : ∀ i k, i < n → D i k = (offers p (nth ws i).v).foldl (stepC (tryC (leastC p (ws.drop (i + 1))) (l.drop k))) (-1) := fun i k hi => by rw [hD, least_at (by omega)]
  have hTr : ∀ i k x, k ≤ m → tryC (leastC p (ws.drop (i + 1))) (l.drop k) x = if (decide (k + x.pl.length ≤ m) && decide ((l.take (k + x.pl.length)).drop k = x.pl)) = true ∧ 0 ≤ D (i + 1) (k + x.pl.length) then x.cost + D (i + 1) (k + x.pl.length) else -1 := fun i k x hk => by
    unfold tryC
    rw [pre_at (by omega), List.drop_drop, hme, hD]
  have hbg : ∀ (k : Nat) (x : Pr) (w1 : World), k ≤ m → Stb w1 [] (RdL sl.v l) → Stb w1 [] (RdL x.p.v x.pl) → Calls Tryz.prog 68 #[(sl.sub 1 k m).v, x.p.v] w1 fun e w' => e = .returned (.bool (decide (k + x.pl.length ≤ m) && decide ((l.take (k + x.pl.length)).drop k = x.pl))) ∧ Cl w1 [] [] w' := fun k x w1 hk h1 h2 => by
    subst hme
    exact begins_at sl _ l x.pl k hk w1 h1 h2
  refine calls_cw (vs := [_, _, _]) Tryz.func24 rfl Tryz.ntmps24 rfl (Cl.start0 w) (cw_seq (cw_region (zS rfl (q_assign rfl rfl) (zS rfl (q_assign rfl rfl) (sw_nil (post_then (cw_seq (cw_region (zS rfl (q_move rfl rfl) ?_)))))))))
  refine zS rfl (q_len rfl (.k rfl (.nil)) (stA (by assumption))) ?_
  refine zS rfl (q_add rfl rfl rfl (by intro hc; omega)) ?_
  rw [hne]
  refine sw_x rfl rfl rfl (e_make (α := SlV) (zero := ⟨none, 0, 0⟩) rfl rfl rfl rfl rfl (by omega) (by omega) (by decide)) (fun s25 => ?_)
  have e0 : ((n : Int) + 1).toNat = n + 1 := by omega
  rw [e0]
  refine zS rfl (q_assign rfl rfl) (sw_nil (post_then (cw_seq (cw_seq (cw_region (zS rfl (q_assign rfl rfl) (sw_nil (post_then (cw_block ?_)))))))))
  refine cw_loop (S := List SlV) (fun V => [(0, [], sp.v), (1, [], sw.v), (2, [], sl.v), (8, [], s25.v), (9, [], .int .i64 V.length)]) (fun V => Cl w [] (ownL 116 s25.v (V ++ List.replicate (n + 1 - V.length) ⟨none, 0, 0⟩) :: rowsF 3 V (fun _ => List.replicate (m + 1) (-1 : Int)))) (fun V => V.length ≤ n + 1) (fun V => n + 1 - V.length) [] (Nat.zero_le _) (by exact .cons rfl (.cons rfl (.cons rfl (.cons rfl (.cons rfl .nil))))) (fun w' h => h) ?_
  intro V hV
  refine cw_seq (cw_seq (cw_region (zS rfl (q_move rfl rfl) (zS rfl (q_move rfl rfl) ?_))))
  refine zS rfl (q_len rfl (.k rfl (.nil)) (stA (by assumption))) ?_
  refine zS rfl (q_leq rfl rfl rfl) (sw_nil (post_then ?_))
  refine cw_cond rfl (fun h => ?_) (fun h => ?_)
  · have hV' : V.length < n + 1 := by simp only [decide_eq_true_eq] at h; omega
    have hcl : (V ++ List.replicate (n + 1 - V.length) (⟨none, 0, 0⟩ : SlV)).length = n + 1 := by simp; omega
    refine cw_skip (post_then (cw_seq (cw_block (cw_seq (cw_region (zS rfl (q_move rfl rfl) (zS rfl (q_move rfl rfl) (zS rfl (q_move rfl rfl) ?_))))))))
    refine zS rfl (q_len rfl (.k rfl (.nil)) (stA (by assumption))) ?_
    refine zS rfl (q_add rfl rfl rfl (by intro hc; omega)) ?_
    rw [hme]
    refine sw_x rfl rfl rfl (e_make (α := Int) (zero := 0) rfl rfl rfl rfl rfl (by omega) (by omega) (by decide)) (fun s37 => ?_)
    have e1 : ((m : Int) + 1).toNat = m + 1 := by omega
    rw [e1]
    refine zS rfl (q_indexN rfl rfl rfl (rdO (by exact .tail _ (.head _))) (by intro hc; omega)) ?_
    refine sw_eff0 rfl rfl (e_storeEl1 (i := 1) rfl rfl rfl rfl rfl (by omega)) ?_
    refine sw_nil (post_then (cw_seq (cw_region (zS rfl (q_assign rfl rfl) (sw_nil (post_then (cw_block ?_)))))))
    have hcv : (V ++ List.replicate (n + 1 - V.length) (⟨none, 0, 0⟩ : SlV)).set V.length s37 = (V ++ [s37]) ++ List.replicate (n + 1 - (V ++ [s37]).length) ⟨none, 0, 0⟩ := by
      rw [List.set_append_right _ _ (Nat.le_refl _), Nat.sub_self, show n + 1 - V.length = (n + 1 - (V ++ [s37]).length) + 1 by simp; omega, List.replicate_succ, List.set_cons_zero]
      simp
    have hrow : nth ((V ++ List.replicate (n + 1 - V.length) (⟨none, 0, 0⟩ : SlV)).set V.length s37) V.length = s37 := by rw [nth_setP _ _ _ _ (by omega), if_pos rfl]
    have hcl2 : ((V ++ List.replicate (n + 1 - V.length) (⟨none, 0, 0⟩ : SlV)).set V.length s37).length = n + 1 := by rw [List.length_set, hcl]
    generalize (V ++ List.replicate (n + 1 - V.length) (⟨none, 0, 0⟩ : SlV)).set V.length s37 = cv at hcv hrow hcl2 ⊢
    refine cw_loop (S := Nat × List Int) (fun y => [(0, [], sp.v), (1, [], sw.v), (2, [], sl.v), (8, [], s25.v), (9, [], .int .i64 V.length), (10, [], .int .i64 y.1)]) (fun y => Cl w [] (ownL 3 (nth cv V.length).v y.2 :: ownL 116 s25.v cv :: rowsF 3 V (fun _ => List.replicate (m + 1) (-1 : Int)))) (fun y => y.1 ≤ m + 1 ∧ y.2.length = m + 1 ∧ ∀ j, j < y.1 → nth y.2 j = -1) (fun y => m + 1 - y.1) (0, List.replicate (m + 1) 0) ⟨Nat.zero_le _, by simp, fun j hj => by omega⟩ (by exact .cons rfl (.cons rfl (.cons rfl (.cons rfl (.cons rfl (.cons rfl .nil)))))) (fun w' h => by rw [hrow]; exact h) ?_
    rintro ⟨k, r⟩ ⟨hk, hll, hlt⟩
    dsimp only at hk hll hlt ⊢
    refine cw_seq (cw_seq (cw_region (zS rfl (q_move rfl rfl) (zS rfl (q_move rfl rfl) ?_))))
    refine zS rfl (q_len rfl (.k rfl (.nil)) (stA (by assumption))) ?_
    refine zS rfl (q_leq rfl rfl rfl) (sw_nil (post_then ?_))
    refine cw_cond rfl (fun h3 => ?_) (fun h3 => ?_)
    · have hk' : k < m + 1 := by simp only [decide_eq_true_eq] at h3; omega
      refine cw_skip (post_then (cw_seq (cw_block (cw_region (zS rfl (q_move rfl rfl) (zS rfl (q_move rfl rfl) ?_))))))
      refine zS rfl (q_indexN rfl rfl rfl (rdO (by exact .tail _ (.head _))) (by intro hc; omega)) ?_
      refine zS rfl (q_loadEl rfl rfl rfl (rdO (by exact .tail _ (.head _))) (by intro hc; omega)) ?_
      refine zS rfl (q_move rfl rfl) ?_
      refine zS rfl (q_indexN rfl rfl rfl (rdO (by exact .head _)) (by intro hc; omega)) ?_
      refine sw_eff0 rfl rfl (e_storeEl1 (i := 0) rfl rfl rfl rfl rfl (by omega)) ?_
      refine sw_nil (post_blk (post_then (cw_region (zS rfl (q_move rfl rfl) ?_))))
      refine zS rfl (q_add rfl rfl rfl (by intro hc; omega)) ?_
      refine zS rfl (q_assign rfl rfl) (sw_nil ?_)
      refine post_next (k + 1, r.set k (-1)) (by exact .cons rfl (.cons rfl (.cons rfl (.cons rfl (.cons rfl (.cons rfl .nil)))))) (fun _ h => h) ⟨by simp only; omega, by simp [hll], fun j hj => ?_⟩ (by simp only; omega)
      simp only at hj ⊢
      rw [nth_setP _ _ _ _ (by omega)]
      by_cases e : j = k
      · rw [if_pos e]
      · rw [if_neg e]; exact hlt j (by omega)
    · have hk' : k = m + 1 := by simp only [decide_eq_false_iff_not] at h3; omega
      have hr : r = List.replicate (m + 1) (-1) := by
        apply List.ext_getElem (by simp [hll])
        intro j a b
        have := hlt j (by omega)
        rw [nth_get a] at this
        simp [this]
      refine cw_exit (post_then_x (post_then_x (post_blk_eq (post_blk (post_then (cw_region (zS rfl (q_move rfl rfl) ?_)))))))
      refine zS rfl (q_add rfl rfl rfl (by intro hc; omega)) ?_
      refine zS rfl (q_assign rfl rfl) (sw_nil ?_)
      refine post_next (V ++ [s37]) ?_ (fun w3 hw3 => ?_) (by simp; omega) (by simp; omega)
      · exact Le.cons rfl (Le.cons rfl (Le.cons rfl (Le.cons rfl (Le.cons' rfl (by congr 1; simp) Le.nil))))
      · rw [hrow, hcv, hr] at hw3
        rw [rowsF_snoc]
        exact hw3.perm perm_rot
  · have hV' : V.length = n + 1 := by simp only [decide_eq_false_iff_not] at h; omega
    rw [hV', Nat.sub_self, List.replicate_zero, List.append_nil]
    refine cw_c (C' := Cl w [] (ownL 3 (nth V ws.length).v (List.replicate (m + 1) (-1 : Int)) :: ownL 116 s25.v V :: rowsO 3 V (fun _ => List.replicate (m + 1) (-1 : Int)) n)) (fun w' hw => by rw [hne]; exact hw.perm ((rowsF_out (by omega)).cons _ |>.trans (.swap _ _ _))) ?_
    refine cw_exit (post_then_x (post_then_x (post_blk_eq (post_then (cw_seq (cw_region (zS rfl (q_move rfl rfl) (zS rfl (q_move rfl rfl) ?_))))))))
    refine zS rfl (q_len rfl (.k rfl (.nil)) (stA (by assumption))) ?_
    refine zS rfl (q_indexN rfl rfl rfl (rdO (by exact .tail _ (.head _))) (by intro hc; omega)) ?_
    refine zS rfl (q_loadEl rfl rfl rfl (rdO (by exact .tail _ (.head _))) (by intro hc; omega)) ?_
    refine zS rfl (q_move rfl rfl) ?_
    refine zS rfl (q_len rfl (.k rfl (.nil)) (stA (by assumption))) ?_
    refine zS rfl (q_indexN rfl rfl rfl (rdO (by exact .head _)) (by intro hc; (simp only [List.length_set, List.length_append, List.length_cons, List.length_nil, List.length_replicate, List.length_take, List.length_drop, List.length_map]; omega))) ?_
    refine sw_eff0 rfl rfl (e_storeEl1 (i := 0) rfl rfl rfl rfl rfl (by (simp only [List.length_set, List.length_append, List.length_cons, List.length_nil, List.length_replicate, List.length_take, List.length_drop, List.length_map]; omega))) ?_
    refine sw_nil (post_then (cw_seq (cw_seq (cw_region (zS rfl (q_move rfl rfl) ?_)))))
    refine zS rfl (q_len rfl (.k rfl (.nil)) (stA (by assumption))) ?_
    refine zS rfl (q_sub rfl rfl rfl (by intro hc; omega)) ?_
    refine zS rfl (q_assign rfl rfl) (sw_nil (post_then (cw_block ?_)))
    refine cw_loop (S := Nat × (Nat → List Int)) (fun y => [(0, [], sp.v), (1, [], sw.v), (2, [], sl.v), (8, [], s25.v), (11, [], .int .i64 ((n : Int) - y.1 - 1))]) (fun y => Cl w [] (ownL 116 s25.v V :: rowsF 3 V y.2)) (fun y => y.1 ≤ n ∧ ∀ j, j ≤ n → (y.2 j).length = m + 1 ∧ ∀ k, k ≤ m → nth (y.2 j) k = if n - y.1 ≤ j then D j k else -1) (fun y => n - y.1) (0, fun j => if j = n then (List.replicate (m + 1) (-1 : Int)).set m 0 else List.replicate (m + 1) (-1 : Int)) ⟨Nat.zero_le _, fun j hj => ?_⟩ ?_ (fun w' hw => ?_) ?_
    · dsimp only
      by_cases e : j = n
      · rw [if_pos e]
        refine ⟨by simp, fun k hk => ?_⟩
        rw [nth_setP _ _ _ _ (by simp), e, show (if n - 0 ≤ n then D n k else -1) = D n k from if_pos (by omega), hDn k hk]
        by_cases e2 : k = m
        · simp [e2]
        · rw [if_neg e2, if_neg e2, nth_get (by simp; omega)]; simp
      · rw [if_neg e]
        refine ⟨by simp, fun k hk => ?_⟩
        rw [if_neg (by omega), nth_get (by simp; omega)]; simp
    · exact Le.cons rfl (Le.cons rfl (Le.cons rfl (Le.cons rfl (Le.cons' rfl (by congr 1; simp only; omega) Le.nil))))
    · rw [hne, hme] at hw
      exact hw.perm (perm_in1 (rowsF_in (by omega) (fun k _ hk => by dsimp only; rw [if_neg hk]) (by dsimp only; rw [if_pos rfl])))
    rintro ⟨q, F⟩ ⟨hq, hF⟩
    dsimp only at hq hF ⊢
    refine cw_seq (cw_seq (cw_region (zS rfl (q_move rfl rfl) (zS rfl (q_geq rfl rfl rfl) (sw_nil (post_then ?_))))))
    refine cw_cond rfl (fun h3 => ?_) (fun h3 => ?_)
    · obtain ⟨r, hre⟩ : ∃ r, n - (q + 1) = r := ⟨_, rfl⟩
      have hq' : q < n := by simp only [decide_eq_true_eq] at h3; omega
      have hrn : r < n := by omega
      have er : ((n : Int) - q - 1) = (r : Int) := by omega
      rw [er]
      obtain ⟨hl1, hr1⟩ := hF (r + 1) (by omega)
      obtain ⟨hl0, hr0⟩ := hF r (by omega)
      have hF1 : ∀ k, k ≤ m → nth (F (r + 1)) k = D (r + 1) k := fun k hk => by rw [hr1 k hk, if_pos (by omega)]
      obtain ⟨cc, hcc⟩ : ∃ cc, (nth ws r).v = cc := ⟨_, rfl⟩
      have hol := offers_le p cc
      refine cw_c (C' := Cl w [] (ownL 3 (nth V r).v (F r) :: ownL 3 (nth V (r + 1)).v (F (r + 1)) :: ownL 116 s25.v V :: rowsO2 3 V F r (r + 1))) (fun w' hw => hw.perm (perm_in2 (rowsF_out2 (by omega) (by omega) (by omega)).symm).symm) ?_
      refine cw_skip (post_then (cw_seq (cw_block (cw_seq (cw_region (zS rfl (q_move rfl rfl) (zS rfl (q_move rfl rfl) (zS rfl (q_move rfl rfl) ?_))))))))
      refine zS rfl (q_indexN rfl rfl rfl (stA (by assumption)) (by intro hc; omega)) ?_
      refine zS rfl (q_loadEl rfl rfl rfl (stA (by assumption)) (by intro hc; omega)) ?_
      refine sw_x rfl rfl rfl (e_call (CanCall.mk Tryz.call67) rfl (.k rfl (.k rfl (.nil))) (fun w1 hw => pieces_spec sp.v p (nth ws r).v hpn w1 (stb_arg hw hp))) (fun s71 => ?_)
      refine sw_imp fun _ => ?_
      rw [hcc]
      refine zS rfl (q_assign rfl rfl) (sw_nil (post_then (cw_seq (cw_region (zS rfl (q_assign rfl rfl) (sw_nil (post_then (cw_block ?_))))))))
      refine cw_loop (S := Nat × List Int) (fun y => [(0, [], sp.v), (1, [], sw.v), (2, [], sl.v), (8, [], s25.v), (11, [], .int .i64 r), (12, [], s71.v), (13, [], .int .i64 y.1)]) (fun y => Cl w [] (ownL 68 s71.v (offers p cc) :: ownL 3 (nth V r).v y.2 :: ownL 3 (nth V (r + 1)).v (F (r + 1)) :: ownL 116 s25.v V :: rowsO2 3 V F r (r + 1))) (fun y => y.1 ≤ m + 1 ∧ y.2.length = m + 1 ∧ (∀ j, j < y.1 → nth y.2 j = D r j) ∧ ∀ j, y.1 ≤ j → j ≤ m → nth y.2 j = -1) (fun y => m + 1 - y.1) (0, F r) ⟨Nat.zero_le _, hl0, fun j hj => by omega, fun j _ hj => by rw [hr0 j hj, if_neg (by omega)]⟩ (by exact .cons rfl (.cons rfl (.cons rfl (.cons rfl (.cons rfl (.cons rfl (.cons rfl .nil))))))) (fun w' h => h) ?_
      rintro ⟨k, cur⟩ ⟨hk1, hcl, hcd, hcn⟩
      dsimp only at hk1 hcl hcd hcn ⊢
      refine cw_seq (cw_seq (cw_region (zS rfl (q_move rfl rfl) (zS rfl (q_move rfl rfl) ?_))))
      refine zS rfl (q_len rfl (.k rfl (.nil)) (stA (by assumption))) ?_
      refine zS rfl (q_leq rfl rfl rfl) (sw_nil (post_then ?_))
      refine cw_cond rfl (fun h4 => ?_) (fun h4 => ?_)
      · have hkm : k ≤ m := by simp only [decide_eq_true_eq] at h4; omega
        have hck : nth cur k = -1 := hcn k (Nat.le_refl _) hkm
        obtain ⟨fx, hfx⟩ : ∃ fx, tryC (leastC p (ws.drop (r + 1))) (l.drop k) = fx := ⟨_, rfl⟩
        have hfxe : ∀ x, fx x = if (decide (k + x.pl.length ≤ m) && decide ((l.take (k + x.pl.length)).drop k = x.pl)) = true ∧ 0 ≤ D (r + 1) (k + x.pl.length) then x.cost + D (r + 1) (k + x.pl.length) else -1 := fun x => by rw [← hfx]; exact hTr r k x hkm
        obtain ⟨vv, hvv⟩ : ∃ vv : Nat → Int, ∀ X, vv X = ((offers p cc).take X).foldl (stepC fx) (-1) := ⟨_, fun _ => rfl⟩
        have hv0 : vv 0 = -1 := by rw [hvv]; rfl
        have hvs : ∀ X, X < (offers p cc).length → vv (X + 1) = stepC fx (vv X) (nth (offers p cc) X) := fun X hX => by rw [hvv, hvv, take_fold _ _ hX]
        have hfb : ∀ x ∈ offers p cc, -1 ≤ fx x ∧ fx x ≤ 81000 := fun x hx => by
          have h1 := hcost x (offers_mem.1 hx).1
          have h2 := hDb (r + 1) (k + x.pl.length)
          rw [hfxe]
          split <;> omega
        have hvb : ∀ X, X ≤ (offers p cc).length → -1 ≤ vv X ∧ vv X ≤ 81000 := fun X hX => by
          induction X with
          | zero => rw [hv0]; omega
          | succ X ih =>
            have h1 := ih (by omega)
            have h2 := hfb _ (nth_mem (by omega : X < (offers p cc).length))
            rw [hvs X (by omega)]
            unfold stepC
            split <;> omega
        refine cw_skip (post_then (cw_seq (cw_block (cw_seq (cw_region (zS rfl (q_assign rfl rfl) (sw_nil (post_then (cw_block ?_)))))))))
        refine cw_loop (S := Nat) (fun X => [(0, [], sp.v), (1, [], sw.v), (2, [], sl.v), (8, [], s25.v), (11, [], .int .i64 r), (12, [], s71.v), (13, [], .int .i64 k), (14, [], .int .i64 X)]) (fun X => Cl w [] (ownL 68 s71.v (offers p cc) :: ownL 3 (nth V r).v (cur.set k (vv X)) :: ownL 3 (nth V (r + 1)).v (F (r + 1)) :: ownL 116 s25.v V :: rowsO2 3 V F r (r + 1))) (fun X => X ≤ (offers p cc).length) (fun X => (offers p cc).length - X) 0 (Nat.zero_le _) (by exact .cons rfl (.cons rfl (.cons rfl (.cons rfl (.cons rfl (.cons rfl (.cons rfl (.cons rfl .nil)))))))) (fun w' h => by rw [hv0, sets_same hck (by omega)]; exact h) ?_
        intro X hX
        have hcsl : (cur.set k (vv X)).length = m + 1 := by rw [List.length_set, hcl]
        have hcsk : nth (cur.set k (vv X)) k = vv X := by rw [nth_setP _ _ _ _ (by omega), if_pos rfl]
        have hvbX := hvb X hX
        refine cw_seq (cw_seq (cw_region (zS rfl (q_move rfl rfl) (zS rfl (q_move rfl rfl) ?_))))
        refine zS rfl (q_len rfl (.k rfl (.nil)) (rdO (by exact .head _))) ?_
        refine zS rfl (q_lss rfl rfl rfl) (sw_nil (post_then ?_))
        refine cw_cond rfl (fun h5 => ?_) (fun h5 => ?_)
        · have hX' : X < (offers p cc).length := by simp only [decide_eq_true_eq] at h5; omega
          have hxm : (nth (offers p cc) X) ∈ p := (offers_mem.1 (nth_mem hX')).1
          have hxs : Stb w [] (RdL (nth (offers p cc) X).p.v (nth (offers p cc) X).pl) := stb_mem hpi hxm
          have hxc := hcost (nth (offers p cc) X) hxm
          have hxl := hpl (nth (offers p cc) X) hxm
          have hfxx := hfxe (nth (offers p cc) X)
          have hst := hvs X hX'
          have hxD := hDb (r + 1) (k + (nth (offers p cc) X).pl.length)
          have hb1 : -1 ≤ nth (F (r + 1)) (k + (nth (offers p cc) X).pl.length) ∧ nth (F (r + 1)) (k + (nth (offers p cc) X).pl.length) ≤ 80000 := by
            by_cases h6 : k + (nth (offers p cc) X).pl.length ≤ m
            · rw [hF1 _ h6]; exact hxD
            · rw [nth_out (by omega)]; omega
          refine cw_skip (post_then (cw_seq (cw_block (cw_seq (cw_seq ?_)))))
          refine cw_region_q mixed_Tryz (by kernel_rfl) ?_
          refine zq rfl (q_move rfl rfl) (zq rfl (q_move rfl rfl) ?_)
          refine zq rfl (q_sliceL rfl rfl rfl (stA (by assumption)) (by intro hc; omega)) ?_
          refine zq rfl (q_move rfl rfl) (zq rfl (q_move rfl rfl) ?_)
          refine zq rfl (q_indexN rfl rfl rfl (rdO (by exact .head _)) (by intro hc; omega)) ?_
          refine zq rfl (q_fieldEl rfl rfl (rdO (by exact .head _)) (by intro hc; omega)) ?_
          refine zq rfl (q_loadF rfl rfl rfl (rdO (by exact .head _)) (by intro hc; omega) rfl) ?_
          rw [hme]
          refine qw_step rfl rfl rfl (q_call (CanCall.mk Tryz.call68) rfl (.k rfl (.k rfl (.nil))) (fun _ w1 hw => callq hw (hbg k (nth (offers p cc) X) w1 hkm (stb_arg hw hl) (stb_arg hw hxs)))) (zq rfl (q_not rfl rfl) (zq rfl (q_move rfl rfl) (zq rfl (q_move rfl rfl) (zq rfl (q_move rfl rfl) ?_))))
          refine zq rfl (q_add rfl rfl rfl (by intro hc; omega)) ?_
          refine zq rfl (q_indexN rfl rfl rfl (rdO (by exact .tail _ (.tail _ (.tail _ (.head _))))) (by intro hc; (simp only [List.length_set, List.length_append, List.length_cons, List.length_nil, List.length_replicate, List.length_take, List.length_drop, List.length_map]; omega))) ?_
          refine zq rfl (q_loadEl rfl rfl rfl (rdO (by exact .tail _ (.tail _ (.tail _ (.head _))))) (by intro hc; (simp only [List.length_set, List.length_append, List.length_cons, List.length_nil, List.length_replicate, List.length_take, List.length_drop, List.length_map]; omega))) ?_
          refine zq rfl (q_move rfl rfl) (zq rfl (q_move rfl rfl) (zq rfl (q_move rfl rfl) ?_))
          refine zq rfl (q_indexN rfl rfl rfl (rdO (by exact .head _)) (by intro hc; omega)) ?_
          refine zq rfl (q_fieldEl rfl rfl (rdO (by exact .head _)) (by intro hc; omega)) ?_
          refine zq rfl (q_loadF rfl rfl rfl (rdO (by exact .head _)) (by intro hc; omega) rfl) ?_
          refine zq rfl (q_len rfl (.k rfl (.nil)) (stA (by assumption))) ?_
          refine zq rfl (q_add rfl rfl rfl (by intro hc; omega)) ?_
          refine zq rfl (q_indexN rfl rfl rfl (rdO (by exact .tail _ (.tail _ (.head _)))) (by intro hc; (simp only [AllT.iff, List.all_cons, List.all_nil, id, Bool.and_eq_true, Bool.not_eq_true', Bool.not_eq_false', decide_eq_true_eq, decide_eq_false_iff_not, and_true] at hc; omega))) ?_
          refine zq rfl (q_loadEl rfl rfl rfl (rdO (by exact .tail _ (.tail _ (.head _)))) (by intro hc; (simp only [AllT.iff, List.all_cons, List.all_nil, id, Bool.and_eq_true, Bool.not_eq_true', Bool.not_eq_false', decide_eq_true_eq, decide_eq_false_iff_not, and_true] at hc; omega))) ?_
          refine zq rfl (q_lss rfl rfl rfl) (zq rfl (q_or2 rfl rfl rfl) (qw_end (post_then ?_)))
          refine cw_cond rfl (fun h6 => ?_) (fun h6 => ?_)
          · have hno : fx (nth (offers p cc) X) = -1 := by
              rw [hfxx, if_neg]
              rintro ⟨a1, a2⟩
              simp only [Bool.and_eq_true, decide_eq_true_eq] at a1
              have := hF1 (k + (nth (offers p cc) X).pl.length) a1.1
              simp [a1.1, a1.2] at h6
              omega
            have hst2 : vv (X + 1) = vv X := by rw [hst]; exact step_no (by omega)
            refine cw_exit (post_then_x (post_blk_eq (post_then (cw_region (zS rfl (q_move rfl rfl) ?_)))))
            refine zS rfl (q_add rfl rfl rfl (by intro hc; omega)) ?_
            refine zS rfl (q_assign rfl rfl) (sw_nil ?_)
            exact post_next (X + 1) (by exact .cons rfl (.cons rfl (.cons rfl (.cons rfl (.cons rfl (.cons rfl (.cons rfl (.cons rfl .nil)))))))) (fun w' h => by rw [hst2]; exact h) (by omega) (by omega)
          · have hyes : k + (nth (offers p cc) X).pl.length ≤ m ∧ 0 ≤ D (r + 1) (k + (nth (offers p cc) X).pl.length) ∧ fx (nth (offers p cc) X) = (nth (offers p cc) X).cost + D (r + 1) (k + (nth (offers p cc) X).pl.length) := by
              simp only [Bool.or_eq_false_iff, Bool.not_eq_false', decide_eq_false_iff_not] at h6
              obtain ⟨a1, a2⟩ := h6
              have a3 := a1
              simp only [Bool.and_eq_true, decide_eq_true_eq] at a3
              have := hF1 (k + (nth (offers p cc) X).pl.length) a3.1
              have a4 : 0 ≤ D (r + 1) (k + (nth (offers p cc) X).pl.length) := by rw [← this]; exact Int.not_lt.1 a2
              exact ⟨a3.1, a4, by rw [hfxx, if_pos ⟨a1, a4⟩]⟩
            obtain ⟨hkx, hD0, hfe⟩ := hyes
            have hFx := hF1 _ hkx
            have e3 : ((k : Int) + ((nth (offers p cc) X).pl.length : Int)).toNat = k + (nth (offers p cc) X).pl.length := by omega
            refine cw_skip (post_then (cw_seq ?_))
            refine cw_region_q mixed_Tryz (by kernel_rfl) ?_
            refine zq rfl (q_move rfl rfl) (zq rfl (q_move rfl rfl) ?_)
            refine zq rfl (q_indexN rfl rfl rfl (rdO (by exact .head _)) (by intro hc; omega)) ?_
            refine zq rfl (q_fieldEl rfl rfl (rdO (by exact .head _)) (by intro hc; omega)) ?_
            refine zq rfl (q_loadF rfl rfl rfl (rdO (by exact .head _)) (by intro hc; omega) rfl) ?_
            refine zq rfl (q_move rfl rfl) (zq rfl (q_move rfl rfl) ?_)
            refine zq rfl (q_add rfl rfl rfl (by intro hc; omega)) ?_
            refine zq rfl (q_indexN rfl rfl rfl (rdO (by exact .tail _ (.tail _ (.tail _ (.head _))))) (by intro hc; (simp only [List.length_set, List.length_append, List.length_cons, List.length_nil, List.length_replicate, List.length_take, List.length_drop, List.length_map]; omega))) ?_
            refine zq rfl (q_loadEl rfl rfl rfl (rdO (by exact .tail _ (.tail _ (.tail _ (.head _))))) (by intro hc; (simp only [List.length_set, List.length_append, List.length_cons, List.length_nil, List.length_replicate, List.length_take, List.length_drop, List.length_map]; omega))) ?_
            refine zq rfl (q_move rfl rfl) (zq rfl (q_move rfl rfl) (zq rfl (q_move rfl rfl) ?_))
            refine zq rfl (q_indexN rfl rfl rfl (rdO (by exact .head _)) (by intro hc; omega)) ?_
            refine zq rfl (q_fieldEl rfl rfl (rdO (by exact .head _)) (by intro hc; omega)) ?_
            refine zq rfl (q_loadF rfl rfl rfl (rdO (by exact .head _)) (by intro hc; omega) rfl) ?_
            refine zq rfl (q_len rfl (.k rfl (.nil)) (stA (by assumption))) ?_
            refine zq rfl (q_add rfl rfl rfl (by intro hc; omega)) ?_
            refine zq rfl (q_indexN rfl rfl rfl (rdO (by exact .tail _ (.tail _ (.head _)))) (by intro hc; omega)) ?_
            refine zq rfl (q_loadEl rfl rfl rfl (rdO (by exact .tail _ (.tail _ (.head _)))) (by intro hc; omega)) ?_
            refine zq rfl (q_add rfl rfl rfl (by intro hc; omega)) ?_
            refine zq rfl (q_assign rfl rfl) (qw_end (post_then (cw_seq (cw_region (zS rfl (q_move rfl rfl) (zS rfl (q_move rfl rfl) ?_))))))
            refine zS rfl (q_indexN rfl rfl rfl (rdO (by exact .tail _ (.tail _ (.tail _ (.head _))))) (by intro hc; omega)) ?_
            refine zS rfl (q_loadEl rfl rfl rfl (rdO (by exact .tail _ (.tail _ (.tail _ (.head _))))) (by intro hc; omega)) ?_
            refine zS rfl (q_move rfl rfl) ?_
            refine zS rfl (q_indexN rfl rfl rfl (rdO (by exact .tail _ (.head _))) (by intro hc; omega)) ?_
            refine zS rfl (q_loadEl rfl rfl rfl (rdO (by exact .tail _ (.head _))) (by intro hc; omega)) ?_
            refine zS rfl (q_lss rfl rfl rfl) (zS rfl (q_move rfl rfl) (zS rfl (q_move rfl rfl) (zS rfl (q_move rfl rfl) (zS rfl (q_move rfl rfl) ?_))))
            refine zS rfl (q_indexN rfl rfl rfl (rdO (by exact .tail _ (.tail _ (.tail _ (.head _))))) (by intro hc; omega)) ?_
            refine zS rfl (q_loadEl rfl rfl rfl (rdO (by exact .tail _ (.tail _ (.tail _ (.head _))))) (by intro hc; omega)) ?_
            refine zS rfl (q_move rfl rfl) ?_
            refine zS rfl (q_indexN rfl rfl rfl (rdO (by exact .tail _ (.head _))) (by intro hc; omega)) ?_
            refine zS rfl (q_loadEl rfl rfl rfl (rdO (by exact .tail _ (.head _))) (by intro hc; omega)) ?_
            refine zS rfl (q_lss rfl rfl rfl) (zS rfl (q_or2 rfl rfl rfl) (sw_nil (post_then ?_)))
            refine cw_cond rfl (fun h7 => ?_) (fun h7 => ?_)
            · have hst2 : vv (X + 1) = (nth (offers p cc) X).cost + nth (F (r + 1)) (k + (nth (offers p cc) X).pl.length) := by
                rw [hFx, ← hfe, hst]
                refine step_yes ⟨by omega, ?_⟩
                simp only [Bool.or_eq_true, decide_eq_true_eq, Int.toNat_natCast, e3, hFx, hcsk, ← hfe] at h7
                omega
              refine cw_region (zS rfl (q_move rfl rfl) (zS rfl (q_move rfl rfl) ?_))
              refine zS rfl (q_indexN rfl rfl rfl (rdO (by exact .tail _ (.tail _ (.tail _ (.head _))))) (by intro hc; omega)) ?_
              refine zS rfl (q_loadEl rfl rfl rfl (rdO (by exact .tail _ (.tail _ (.tail _ (.head _))))) (by intro hc; omega)) ?_
              refine zS rfl (q_move rfl rfl) (zS rfl (q_move rfl rfl) ?_)
              refine zS rfl (q_indexN rfl rfl rfl (rdO (by exact .tail _ (.head _))) (by intro hc; omega)) ?_
              refine sw_eff0 rfl rfl (e_storeEl1 (i := 1) rfl rfl rfl rfl rfl (by omega)) ?_
              refine sw_nil (post_blk (post_then (cw_region (zS rfl (q_move rfl rfl) ?_))))
              refine zS rfl (q_add rfl rfl rfl (by intro hc; omega)) ?_
              refine zS rfl (q_assign rfl rfl) (sw_nil ?_)
              refine post_next (X + 1) (by exact .cons rfl (.cons rfl (.cons rfl (.cons rfl (.cons rfl (.cons rfl (.cons rfl (.cons rfl .nil)))))))) (fun w' h => ?_) (by omega) (by omega)
              rw [hst2]
              simp only [Int.toNat_natCast, e3, List.set_set] at h
              exact h
            · have hst2 : vv (X + 1) = vv X := by
                rw [hst]
                refine step_no ?_
                simp only [Bool.or_eq_false_iff, decide_eq_false_iff_not, Int.toNat_natCast, e3, hFx, hcsk, ← hfe] at h7
                omega
              refine cw_skip (post_blk (post_then (cw_region (zS rfl (q_move rfl rfl) ?_))))
              refine zS rfl (q_add rfl rfl rfl (by intro hc; omega)) ?_
              refine zS rfl (q_assign rfl rfl) (sw_nil ?_)
              exact post_next (X + 1) (by exact .cons rfl (.cons rfl (.cons rfl (.cons rfl (.cons rfl (.cons rfl (.cons rfl (.cons rfl .nil)))))))) (fun w' h => by rw [hst2]; exact h) (by omega) (by omega)
        · have hX' : X = (offers p cc).length := by simp only [decide_eq_false_iff_not] at h5; omega
          have hvD : vv X = D r k := by rw [hvv, hX', List.take_length, hDs r k hrn, hcc, hfx]
          refine cw_exit (post_then_x (post_then_x (post_blk_eq (post_blk (post_then (cw_region (zS rfl (q_move rfl rfl) ?_)))))))
          refine zS rfl (q_add rfl rfl rfl (by intro hc; omega)) ?_
          refine zS rfl (q_assign rfl rfl) (sw_nil ?_)
          refine post_next (k + 1, cur.set k (vv X)) (by exact .cons rfl (.cons rfl (.cons rfl (.cons rfl (.cons rfl (.cons rfl (.cons rfl .nil))))))) (fun _ h => h) ⟨by simp only; omega, hcsl, fun j hj => ?_, fun j hj hj2 => ?_⟩ (by simp only; omega)
          · simp only at hj ⊢
            rw [nth_setP _ _ _ _ (by omega)]
            by_cases e : j = k
            · rw [if_pos e, e, hvD]
            · rw [if_neg e]; exact hcd j (by omega)
          · simp only at hj hj2 ⊢
            rw [nth_setP _ _ _ _ (by omega), if_neg (by omega)]; exact hcn j (by omega) hj2
      · have hkm : k = m + 1 := by simp only [decide_eq_false_iff_not] at h4; omega
        refine cw_exit (post_then_x (post_then_x (post_blk_eq (post_blk (post_then (cw_region (zS rfl (q_move rfl rfl) ?_)))))))
        refine zS rfl (q_sub rfl rfl rfl (by intro hc; omega)) ?_
        refine zS rfl (q_assign rfl rfl) (sw_nil ?_)
        refine post_next (q + 1, fun j => if j = r then cur else F j) ?_ (fun w3 hw3 => ?_) ⟨by simp only; omega, fun j hj => ?_⟩ (by simp only; omega)
        · exact Le.cons rfl (Le.cons rfl (Le.cons rfl (Le.cons rfl (Le.cons' rfl (by congr 1; simp only; omega) Le.nil))))
        · exact hw3.tail.perm (perm_in2 (rowsF_in2 (by omega) (by omega) (by omega) (fun k _ hk => by dsimp only; rw [if_neg hk]) (by dsimp only; rw [if_pos rfl])))
        · simp only
          by_cases e : j = r
          · rw [if_pos e]
            refine ⟨hcl, fun k hk => ?_⟩
            rw [if_pos (by omega), hcd k (by omega), e]
          · rw [if_neg e]
            obtain ⟨a, b⟩ := hF j hj
            refine ⟨a, fun k hk => ?_⟩
            rw [b k hk]
            by_cases e2 : n - q ≤ j
            · rw [if_pos e2, if_pos (by omega)]
            · rw [if_neg e2, if_neg (by omega)]
    · have hqm : q = n := by simp only [decide_eq_false_iff_not] at h3; omega
      have hFd : ∀ j, j ≤ n → ∀ k, k ≤ m → nth (F j) k = D j k := fun j hj k hk => by rw [(hF j hj).2 k hk, if_pos (by omega)]
      have hFl : ∀ j, j ≤ n → (F j).length = m + 1 := fun j hj => (hF j hj).1
      have h00 := hFd 0 (Nat.zero_le _) 0 (Nat.zero_le _)
      have hl0 := hFl 0 (Nat.zero_le _)
      have hD00 : D 0 0 = leastC p ws l := by rw [hD]; rfl
      have hD00b := hDb 0 0
      refine cw_c (C' := Cl w [] (ownL 3 (nth V 0).v (F 0) :: ownL 116 s25.v V :: rowsO 3 V F 0)) (fun w' hw => hw.perm (perm_in1 (rowsF_out (by omega)).symm).symm) ?_
      refine cw_exit (post_then_x (post_then_x (post_blk_eq (post_then (cw_seq (cw_seq (cw_region (zS rfl (q_move rfl rfl) ?_))))))))
      refine zS rfl (q_indexN rfl rfl rfl (rdO (by exact .tail _ (.head _))) (by intro hc; (simp only [List.length_set, List.length_append, List.length_cons, List.length_nil, List.length_replicate, List.length_take, List.length_drop, List.length_map]; omega))) ?_
      refine zS rfl (q_loadEl rfl rfl rfl (rdO (by exact .tail _ (.head _))) (by intro hc; (simp only [List.length_set, List.length_append, List.length_cons, List.length_nil, List.length_replicate, List.length_take, List.length_drop, List.length_map]; omega))) ?_
      refine zS rfl (q_indexN rfl rfl rfl (rdO (by exact .head _)) (by intro hc; (simp only [List.length_set, List.length_append, List.length_cons, List.length_nil, List.length_replicate, List.length_take, List.length_drop, List.length_map]; omega))) ?_
      refine zS rfl (q_loadEl rfl rfl rfl (rdO (by exact .head _)) (by intro hc; (simp only [List.length_set, List.length_append, List.length_cons, List.length_nil, List.length_replicate, List.length_take, List.length_drop, List.length_map]; omega))) ?_
      refine zS rfl (q_lss rfl rfl rfl) (sw_nil (post_then ?_))
      refine cw_cond rfl (fun h5 => ?_) (fun h5 => ?_)
      · have h6 : leastC p ws l = -1 := by
          rw [← hD00]
          simp only [decide_eq_true_eq] at h5
          have : nth (F 0) 0 < 0 := h5
          omega
        refine cw_seq (cw_region (zS rfl (q_assign rfl rfl) (zS rfl (q_assign rfl rfl) (sw_nil (post_then (cw_ret (post_then_r (post_ret2 rfl (resOk_tmp rfl) (resOk_tmp rfl) ?_))))))))
        exact fun w' hw => ⟨(⟨none, 0, 0⟩, []), by rw [h6]; rfl, trivial, by rw [if_neg (by omega)]; exact Cl.frz (H := []) ((Cl.sel (by exact .nil _)) w' hw : Cl w [] [] w') fun w _ _ => ⟨rd_nil0 w, rfl, fun i hi => by simp at hi⟩⟩
      · have h6 : 0 ≤ leastC p ws l := by
          rw [← hD00]
          simp only [decide_eq_false_iff_not] at h5
          have : ¬ nth (F 0) 0 < 0 := h5
          omega
        rw [if_pos h6]
        refine cw_c (C' := Cl w [] (ownL 23 (SlV.v ⟨none, 0, 0⟩) ([] : List SlV) :: frz (RdR ([] : List SlV) ([] : List (List ByteArray))) :: ownL 116 s25.v V :: rowsF 3 V F)) (fun w' hw => ?_) ?_
        · have h7 := hw.perm (perm_in1 (rowsF_out (e := 3) (vs := V) (f := F) (i := 0) (by omega)).symm)
          have h8 : Cl w [] (frz (RdR ([] : List SlV) ([] : List (List ByteArray))) :: (ownL 116 s25.v V :: rowsF 3 V F)) w' := Cl.frz (H := []) h7 fun w' bs _ => ⟨rfl, fun i hi => by simp at hi⟩
          exact h8.addNil (α := SlV) 23
        refine cw_skip (post_then (cw_seq (cw_region (zS rfl (q_assign rfl rfl) (sw_nil (post_then (cw_seq (cw_region (zS rfl (q_assign rfl rfl) (sw_nil (post_then (cw_seq (cw_seq (cw_region (zS rfl (q_assign rfl rfl) (sw_nil (post_then (cw_block ?_))))))))))))))))))
        refine cw_loop (S := (Nat × Nat) × (SlV × List SlV × List (List ByteArray))) (fun y => [(0, [], sp.v), (1, [], sw.v), (2, [], sl.v), (8, [], s25.v), (16, [], y.2.1.v), (17, [], .int .i64 y.1.2), (18, [], .int .i64 y.1.1)]) (fun y => Cl w [] (ownL 23 y.2.1.v y.2.2.1 :: frz (RdR y.2.2.1 y.2.2.2) :: ownL 116 s25.v V :: rowsF 3 V F)) (fun y => y.1.1 ≤ n ∧ y.1.2 ≤ m ∧ y.2.2.1.length = y.1.1 ∧ 0 ≤ D y.1.1 y.1.2 ∧ pathC p ws l = y.2.2.2 ++ pathC p (ws.drop y.1.1) (l.drop y.1.2)) (fun y => n - y.1.1) ((0, 0), (⟨none, 0, 0⟩, [], [])) ⟨Nat.zero_le _, Nat.zero_le _, rfl, by rw [hD00]; exact h6, by simp⟩ (by exact .cons rfl (.cons rfl (.cons rfl (.cons rfl (.cons rfl (.cons rfl (.cons rfl .nil))))))) (fun w' h => h) ?_
        rintro ⟨⟨i, k⟩, ⟨so, vs2, ll⟩⟩ ⟨hi1, hk1, hvl, hDv, hpt⟩
        dsimp only at hi1 hk1 hvl hDv hpt ⊢
        refine cw_seq (cw_seq (cw_region (zS rfl (q_move rfl rfl) (zS rfl (q_move rfl rfl) ?_))))
        refine zS rfl (q_len rfl (.k rfl (.nil)) (stA (by assumption))) ?_
        refine zS rfl (q_lss rfl rfl rfl) (sw_nil (post_then ?_))
        refine cw_cond rfl (fun h7 => ?_) (fun h7 => ?_)
        · have hin : i < n := by simp only [decide_eq_true_eq] at h7; omega
          obtain ⟨cc, hcc⟩ : ∃ cc, (nth ws i).v = cc := ⟨_, rfl⟩
          have hol := offers_le p cc
          have hDv2 := hDv
          rw [hD, drop_at (by omega)] at hDv2
          obtain ⟨y, hy1, hy2, hy3, hy4, hy5⟩ := path_step hDv2
          rw [drop_at (by omega : i < ws.length), hy5] at hpt
          rw [← drop_at (by omega : i < ws.length), hcc] at hy1
          rw [hcc] at hy2
          obtain ⟨fx, hfx⟩ : ∃ fx, tryC (leastC p (ws.drop (i + 1))) (l.drop k) = fx := ⟨_, rfl⟩
          have hfxe : ∀ x, fx x = if (decide (k + x.pl.length ≤ m) && decide ((l.take (k + x.pl.length)).drop k = x.pl)) = true ∧ 0 ≤ D (i + 1) (k + x.pl.length) then x.cost + D (i + 1) (k + x.pl.length) else -1 := fun x => by rw [← hfx]; exact hTr i k x hk1
          rw [hfx, ← hD] at hy1
          have hF1 : ∀ k, k ≤ m → nth (F (i + 1)) k = D (i + 1) k := fun k hk => hFd (i + 1) (by omega) k hk
          have hF0 : nth (F i) k = D i k := hFd i hi1 k hk1
          have hl1 := hFl (i + 1) (by omega)
          have hl0 := hFl i hi1
          refine cw_c (C' := Cl w [] (ownL 23 so.v vs2 :: frz (RdR vs2 ll) :: ownL 3 (nth V i).v (F i) :: ownL 3 (nth V (i + 1)).v (F (i + 1)) :: ownL 116 s25.v V :: rowsO2 3 V F i (i + 1))) (fun w' hw => hw.perm (((perm_in2 (rowsF_out2 (by omega) (by omega) (by omega)).symm).cons _).cons _).symm) ?_
          refine cw_skip (post_then (cw_seq (cw_block (cw_seq (cw_region (zS rfl (q_move rfl rfl) (zS rfl (q_move rfl rfl) (zS rfl (q_move rfl rfl) ?_))))))))
          refine zS rfl (q_indexN rfl rfl rfl (stA (by assumption)) (by intro hc; omega)) ?_
          refine zS rfl (q_loadEl rfl rfl rfl (stA (by assumption)) (by intro hc; omega)) ?_
          refine sw_x rfl rfl rfl (e_call (CanCall.mk Tryz.call67) rfl (.k rfl (.k rfl (.nil))) (fun w1 hw => pieces_spec sp.v p (nth ws i).v hpn w1 (stb_arg hw hp))) (fun s176 => ?_)
          refine sw_imp fun _ => ?_
          rw [hcc]
          refine zS rfl (q_assign rfl rfl) (sw_nil (post_then (cw_seq (cw_region (zS rfl (q_assign rfl rfl) (sw_nil (post_then (cw_block ?_))))))))
          refine cw_loop (S := Nat) (fun X => [(0, [], sp.v), (1, [], sw.v), (2, [], sl.v), (8, [], s25.v), (16, [], so.v), (17, [], .int .i64 k), (18, [], .int .i64 i), (19, [], s176.v), (20, [], .int .i64 X)]) (fun _ => Cl w [] (ownL 68 s176.v (offers p cc) :: ownL 23 so.v vs2 :: frz (RdR vs2 ll) :: ownL 3 (nth V i).v (F i) :: ownL 3 (nth V (i + 1)).v (F (i + 1)) :: ownL 116 s25.v V :: rowsO2 3 V F i (i + 1))) (fun X => X ≤ (offers p cc).length ∧ ∀ X', X' < X → ¬ fx (nth (offers p cc) X') = D i k) (fun X => (offers p cc).length - X) 0 ⟨Nat.zero_le _, fun X' h => by omega⟩ (by exact .cons rfl (.cons rfl (.cons rfl (.cons rfl (.cons rfl (.cons rfl (.cons rfl (.cons rfl (.cons rfl .nil))))))))) (fun w' h => h) ?_
          rintro X ⟨hX, hno⟩
          refine cw_seq (cw_seq (cw_region (zS rfl (q_move rfl rfl) (zS rfl (q_move rfl rfl) ?_))))
          refine zS rfl (q_len rfl (.k rfl (.nil)) (rdO (by exact .head _))) ?_
          refine zS rfl (q_lss rfl rfl rfl) (sw_nil (post_then ?_))
          refine cw_cond rfl (fun h8 => ?_) (fun h8 => ?_)
          · have hX' : X < (offers p cc).length := by simp only [decide_eq_true_eq] at h8; omega
            have hxm : (nth (offers p cc) X) ∈ p := (offers_mem.1 (nth_mem hX')).1
            have hxs : Stb w [] (RdL (nth (offers p cc) X).p.v (nth (offers p cc) X).pl) := stb_mem hpi hxm
            have hxc := hcost (nth (offers p cc) X) hxm
            have hxl := hpl (nth (offers p cc) X) hxm
            have hfxx := hfxe (nth (offers p cc) X)
            have hxD := hDb (i + 1) (k + (nth (offers p cc) X).pl.length)
            refine cw_skip (post_then (cw_seq (cw_block (cw_seq ?_))))
            refine cw_region_q mixed_Tryz (by kernel_rfl) ?_
            refine zq rfl (q_move rfl rfl) (zq rfl (q_move rfl rfl) ?_)
            refine zq rfl (q_sliceL rfl rfl rfl (stA (by assumption)) (by intro hc; omega)) ?_
            refine zq rfl (q_move rfl rfl) (zq rfl (q_move rfl rfl) ?_)
            refine zq rfl (q_indexN rfl rfl rfl (rdO (by exact .head _)) (by intro hc; omega)) ?_
            refine zq rfl (q_fieldEl rfl rfl (rdO (by exact .head _)) (by intro hc; omega)) ?_
            refine zq rfl (q_loadF rfl rfl rfl (rdO (by exact .head _)) (by intro hc; omega) rfl) ?_
            rw [hme]
            refine qw_step rfl rfl rfl (q_call (CanCall.mk Tryz.call68) rfl (.k rfl (.k rfl (.nil))) (fun _ w1 hw => callq hw (hbg k (nth (offers p cc) X) w1 hk1 (stb_arg hw hl) (stb_arg hw hxs)))) (qw_end (post_then ?_))
            have e3 : ((k : Int) + ((nth (offers p cc) X).pl.length : Int)).toNat = k + (nth (offers p cc) X).pl.length := by omega
            refine cw_cond rfl (fun h9 => ?_) (fun h9 => ?_)
            · have h9' := h9
              simp only [Bool.and_eq_true, decide_eq_true_eq] at h9'
              have hFx := hF1 _ h9'.1
              refine cw_seq ?_
              refine cw_region_q mixed_Tryz (by kernel_rfl) ?_
              refine zq rfl (q_move rfl rfl) (zq rfl (q_move rfl rfl) ?_)
              refine zq rfl (q_add rfl rfl rfl (by intro hc; omega)) ?_
              refine zq rfl (q_indexN rfl rfl rfl (rdO (by exact .tail _ (.tail _ (.tail _ (.tail _ (.tail _ (.head _))))))) (by intro hc; (simp only [List.length_set, List.length_append, List.length_cons, List.length_nil, List.length_replicate, List.length_take, List.length_drop, List.length_map]; omega))) ?_
              refine zq rfl (q_loadEl rfl rfl rfl (rdO (by exact .tail _ (.tail _ (.tail _ (.tail _ (.tail _ (.head _))))))) (by intro hc; (simp only [List.length_set, List.length_append, List.length_cons, List.length_nil, List.length_replicate, List.length_take, List.length_drop, List.length_map]; omega))) ?_
              refine zq rfl (q_move rfl rfl) (zq rfl (q_move rfl rfl) (zq rfl (q_move rfl rfl) ?_))
              refine zq rfl (q_indexN rfl rfl rfl (rdO (by exact .head _)) (by intro hc; omega)) ?_
              refine zq rfl (q_fieldEl rfl rfl (rdO (by exact .head _)) (by intro hc; omega)) ?_
              refine zq rfl (q_loadF rfl rfl rfl (rdO (by exact .head _)) (by intro hc; omega) rfl) ?_
              refine zq rfl (q_len rfl (.k rfl (.nil)) (stA (by assumption))) ?_
              refine zq rfl (q_add rfl rfl rfl (by intro hc; omega)) ?_
              refine zq rfl (q_indexN rfl rfl rfl (rdO (by exact .tail _ (.tail _ (.tail _ (.tail _ (.head _)))))) (by intro hc; omega)) ?_
              refine zq rfl (q_loadEl rfl rfl rfl (rdO (by exact .tail _ (.tail _ (.tail _ (.tail _ (.head _)))))) (by intro hc; omega)) ?_
              refine zq rfl (q_assign rfl rfl) (qw_end (post_then (cw_seq ?_)))
              refine cw_region_q mixed_Tryz (by kernel_rfl) ?_
              refine zq rfl (q_move rfl rfl) (zq rfl (q_geq rfl rfl rfl) (zq rfl (q_move rfl rfl) (zq rfl (q_move rfl rfl) (zq rfl (q_move rfl rfl) ?_))))
              refine zq rfl (q_indexN rfl rfl rfl (rdO (by exact .head _)) (by intro hc; omega)) ?_
              refine zq rfl (q_fieldEl rfl rfl (rdO (by exact .head _)) (by intro hc; omega)) ?_
              refine zq rfl (q_loadF rfl rfl rfl (rdO (by exact .head _)) (by intro hc; omega) rfl) ?_
              refine zq rfl (q_move rfl rfl) ?_
              refine zq rfl (q_add rfl rfl rfl (by intro hc; omega)) ?_
              refine zq rfl (q_move rfl rfl) (zq rfl (q_move rfl rfl) ?_)
              refine zq rfl (q_indexN rfl rfl rfl (rdO (by exact .tail _ (.tail _ (.tail _ (.tail _ (.tail _ (.head _))))))) (by intro hc; omega)) ?_
              refine zq rfl (q_loadEl rfl rfl rfl (rdO (by exact .tail _ (.tail _ (.tail _ (.tail _ (.tail _ (.head _))))))) (by intro hc; omega)) ?_
              refine zq rfl (q_move rfl rfl) ?_
              refine zq rfl (q_indexN rfl rfl rfl (rdO (by exact .tail _ (.tail _ (.tail _ (.head _))))) (by intro hc; omega)) ?_
              refine zq rfl (q_loadEl rfl rfl rfl (rdO (by exact .tail _ (.tail _ (.tail _ (.head _))))) (by intro hc; omega)) ?_
              refine zq rfl (q_eql rfl rfl rfl) (zq rfl (q_and2 rfl rfl rfl) (qw_end (post_then ?_)))
              simp only [Int.toNat_natCast, e3, hFx, hF0]
              refine cw_cond rfl (fun h10 => ?_) (fun h10 => ?_)
              · have hch : fx (nth (offers p cc) X) = D i k := by
                  simp only [Bool.and_eq_true, decide_eq_true_eq] at h10
                  rw [hfxx, if_pos ⟨h9, h10.1⟩]; exact h10.2
                have hxy : nth (offers p cc) X = y := by
                  have e1 : (offers p cc).find? (fun x => decide (fx x = D i k)) = some (nth (offers p cc) X) := find_at hX' (fun z hz => by simpa using hno z hz) (by simpa using hch)
                  rw [e1] at hy1; exact Option.some.inj hy1
                rw [← hxy, List.drop_drop] at hy4
                rw [← hxy, List.drop_drop] at hpt
                refine cw_c (C' := Cl w [] (ownL 9 (SlV.v ⟨none, 0, 0⟩) ([] : List ByteArray) :: ownL 68 s176.v (offers p cc) :: ownL 23 so.v vs2 :: frz (RdR vs2 ll) :: ownL 3 (nth V i).v (F i) :: ownL 3 (nth V (i + 1)).v (F (i + 1)) :: ownL 116 s25.v V :: rowsO2 3 V F i (i + 1))) (fun w' h => h.addNil (α := ByteArray) 9) (cw_seq (cw_region (zS rfl (q_move rfl rfl) (zS rfl (q_move rfl rfl) (zS rfl (q_move rfl rfl) ?_)))))
                refine zS rfl (q_indexN rfl rfl rfl (rdO (by exact .tail _ (.head _))) (by intro hc; omega)) ?_
                refine zS rfl (q_fieldEl rfl rfl (rdO (by exact .tail _ (.head _))) (by intro hc; omega)) ?_
                refine zS rfl (q_loadF rfl rfl rfl (rdO (by exact .tail _ (.head _))) (by intro hc; omega) rfl) ?_
                refine sw_x rfl rfl rfl (e_append (α := ByteArray) (i := 0) rfl (.k rfl (.k rfl (.nil))) rfl rfl (stA (by assumption)) (by simp only [List.length_nil]; omega) rfl) (fun s232 => ?_)
                refine sw_x rfl rfl rfl (e_build1 (α := SlV) rfl rfl rfl rfl) (fun s233 => ?_)
                refine sw_x rfl rfl rfl (e_append (i := 3) rfl (.k rfl (.k rfl (.nil))) rfl rfl (rdO (by exact .head _)) (by first | omega | (simp only [List.length_set, List.length_append, List.length_cons, List.length_nil, List.length_replicate, List.length_take, List.length_drop, List.length_map]; omega)) rfl) (fun s234 => ?_)
                refine zS rfl (q_assign rfl rfl) (sw_nil (post_then (cw_seq (cw_region (zS rfl (q_move rfl rfl) (zS rfl (q_move rfl rfl) (zS rfl (q_move rfl rfl) ?_)))))))
                refine zS rfl (q_indexN rfl rfl rfl (rdO (by exact .tail _ (.tail _ (.head _)))) (by intro hc; omega)) ?_
                refine zS rfl (q_fieldEl rfl rfl (rdO (by exact .tail _ (.tail _ (.head _)))) (by intro hc; omega)) ?_
                refine zS rfl (q_loadF rfl rfl rfl (rdO (by exact .tail _ (.tail _ (.head _)))) (by intro hc; omega) rfl) ?_
                refine zS rfl (q_len rfl (.k rfl (.nil)) (stA (by assumption))) ?_
                refine zS rfl (q_add rfl rfl rfl (by intro hc; omega)) ?_
                refine zS rfl (q_assign rfl rfl) (sw_nil (post_then (cw_exit (post_blk_ne rfl (post_then_x (post_then_x (post_blk_eq (post_blk (post_then (cw_region (zS rfl (q_move rfl rfl) ?_)))))))))))
                refine zS rfl (q_add rfl rfl rfl (by intro hc; omega)) ?_
                refine zS rfl (q_assign rfl rfl) (sw_nil ?_)
                refine post_next ((i + 1, k + (nth (offers p cc) X).pl.length), (s234, vs2 ++ [s232], ll ++ [(nth (offers p cc) X).pl])) (by exact .cons rfl (.cons rfl (.cons rfl (.cons rfl (.cons rfl (.cons rfl (.cons rfl .nil))))))) (fun w' h => ?_) ⟨by simp only; omega, h9'.1, by simp; omega, by simp only; rw [hD]; exact hy4, by simp only; rw [hpt, List.append_assoc]; rfl⟩ (by simp only; omega)
                have hA : Cl w [] (ownL 9 s232.v (nth (offers p cc) X).pl :: ownL 68 s176.v (offers p cc) :: ownL 23 s234.v (vs2 ++ [s232]) :: frz (RdR vs2 ll) :: ownL 3 (nth V i).v (F i) :: ownL 3 (nth V (i + 1)).v (F (i + 1)) :: ownL 116 s25.v V :: rowsO2 3 V F i (i + 1)) w' := h.tail
                have h11 := (hA.perm (List.Perm.swap _ _ _)).tail.perm ((List.Perm.swap _ _ _).cons _)
                have h12 : Cl w [] (frz (RdR (vs2 ++ [s232]) (ll ++ [(nth (offers p cc) X).pl])) :: (ownL 23 s234.v (vs2 ++ [s232]) :: ownL 3 (nth V i).v (F i) :: ownL 3 (nth V (i + 1)).v (F (i + 1)) :: ownL 116 s25.v V :: rowsO2 3 V F i (i + 1))) w' := Cl.frz (H := [ownL 9 s232.v (nth (offers p cc) X).pl, frz (RdR vs2 ll)]) h11 fun w' bs ⟨b1, _, _, k1, b2, _, _, k2, _⟩ => rdR_snoc (frz_here k2) (ownL.rd k1)
                exact h12.perm ((List.Perm.swap _ _ _).trans (((perm_in2 (rowsF_out2 (by omega) (by omega) (by omega)).symm).cons _).cons _))
              · have hch : ¬ fx (nth (offers p cc) X) = D i k := by
                  simp only [Bool.and_eq_false_iff, decide_eq_false_iff_not] at h10
                  rw [hfxx]
                  by_cases a1 : 0 ≤ D (i + 1) (k + (nth (offers p cc) X).pl.length)
                  · rw [if_pos ⟨h9, a1⟩]
                    rcases h10 with h10 | h10
                    · exact absurd a1 h10
                    · exact h10
                  · rw [if_neg (fun h => a1 h.2)]; omega
                refine cw_skip (post_blk (post_then (cw_region (zS rfl (q_move rfl rfl) ?_))))
                refine zS rfl (q_add rfl rfl rfl (by intro hc; omega)) ?_
                refine zS rfl (q_assign rfl rfl) (sw_nil ?_)
                exact post_next (X + 1) (by exact .cons rfl (.cons rfl (.cons rfl (.cons rfl (.cons rfl (.cons rfl (.cons rfl (.cons rfl (.cons rfl .nil))))))))) (fun w' h => h) ⟨by omega, fun z hz => by
                  rcases Nat.lt_or_ge z X with b1 | b1
                  · exact hno z b1
                  · have : z = X := by omega
                    subst this; exact hch⟩ (by omega)
            · have hch : ¬ fx (nth (offers p cc) X) = D i k := by
                rw [hfxx, if_neg (fun h => by rw [h.1] at h9; cases h9)]; omega
              refine cw_skip (post_blk (post_then (cw_region (zS rfl (q_move rfl rfl) ?_))))
              refine zS rfl (q_add rfl rfl rfl (by intro hc; omega)) ?_
              refine zS rfl (q_assign rfl rfl) (sw_nil ?_)
              exact post_next (X + 1) (by exact .cons rfl (.cons rfl (.cons rfl (.cons rfl (.cons rfl (.cons rfl (.cons rfl (.cons rfl (.cons rfl .nil))))))))) (fun w' h => h) ⟨by omega, fun z hz => by
                rcases Nat.lt_or_ge z X with b1 | b1
                · exact hno z b1
                · have : z = X := by omega
                  subst this; exact hch⟩ (by omega)
          · exfalso
            have hX' : X = (offers p cc).length := by simp only [decide_eq_false_iff_not] at h8; omega
            have h6 := List.find?_some hy1
            obtain ⟨z, hz1, hz2⟩ := List.getElem_of_mem hy2
            refine hno z (by omega) ?_
            rw [nth_get hz1, hz2]
            simpa using h6
        · have hin : i = n := by simp only [decide_eq_false_iff_not] at h7; omega
          rw [hin, ← hne, List.drop_length] at hpt
          have hpt2 : pathC p ws l = ll := by rw [hpt]; simp [pathC]
          refine cw_c (C' := Cl w [] (ownL 23 so.v vs2 :: frz (RdR vs2 ll) :: ownL 3 (nth V 0).v (F 0) :: ownL 116 s25.v V :: rowsO 3 V F 0)) (fun w' hw => hw.perm (((perm_in1 (rowsF_out (by omega)).symm).cons _).cons _).symm) ?_
          refine cw_exit (post_then_x (post_then_x (post_blk_eq (post_then (cw_seq ?_)))))
          refine cw_region_q mixed_Tryz (by kernel_rfl) ?_
          refine zq rfl (q_move rfl rfl) (zq rfl (q_move rfl rfl) ?_)
          refine zq rfl (q_indexN rfl rfl rfl (rdO (by exact .tail _ (.tail _ (.tail _ (.head _))))) (by intro hc; (simp only [List.length_set, List.length_append, List.length_cons, List.length_nil, List.length_replicate, List.length_take, List.length_drop, List.length_map]; omega))) ?_
          refine zq rfl (q_loadEl rfl rfl rfl (rdO (by exact .tail _ (.tail _ (.tail _ (.head _))))) (by intro hc; (simp only [List.length_set, List.length_append, List.length_cons, List.length_nil, List.length_replicate, List.length_take, List.length_drop, List.length_map]; omega))) ?_
          refine zq rfl (q_indexN rfl rfl rfl (rdO (by exact .tail _ (.tail _ (.head _)))) (by intro hc; (simp only [List.length_set, List.length_append, List.length_cons, List.length_nil, List.length_replicate, List.length_take, List.length_drop, List.length_map]; omega))) ?_
          refine zq rfl (q_loadEl rfl rfl rfl (rdO (by exact .tail _ (.tail _ (.head _)))) (by intro hc; (simp only [List.length_set, List.length_append, List.length_cons, List.length_nil, List.length_replicate, List.length_take, List.length_drop, List.length_map]; omega))) ?_
          refine zq rfl (q_assign rfl rfl) (zq rfl (q_assign rfl rfl) (qw_end (post_then (cw_ret (post_ret2 rfl (resOk_tmp rfl) (resOk_tmp rfl) ?_)))))
          refine fun w' hw => ⟨(so, vs2), ?_, trivial, ?_⟩
          · rw [← hD00, ← h00]; rfl
          · rw [hpt2]
            have h12 : Cl w [] (frz (fun w => RdL so.v vs2 w ∧ RdR vs2 ll w) :: (ownL 3 (nth V 0).v (F 0) :: ownL 116 s25.v V :: rowsO 3 V F 0)) w' := Cl.frz (H := [ownL 23 so.v vs2, frz (RdR vs2 ll)]) hw fun w' bs ⟨b1, _, _, k1, b2, _, _, k2, _⟩ => ⟨ownL.rd k1, frz_here k2⟩
            exact Cl.sel (.take 0 rfl (.nil _)) w' h12
end Go.Proofs.YtkmbliojafefdaaGreatDoor

set_option autoImplicit false
set_option maxRecDepth 100000
namespace Go.Proofs.YtkmbliojafefdaaGreatDoor
open Go.Sx
open Enc (enc val)
def exR (sw : SlV) (vs : List SlV) (ws : List Rn) (P : List (List ByteArray)) (i : Nat) : XR := ⟨sw, i, nth vs i, ws, nth P i⟩
theorem evR_exR (sw : SlV) (vs : List SlV) (ws : List Rn) (P : List (List ByteArray)) (n : Nat) : evR ((List.range n).map (exR sw vs ws P)) = (List.range n).map (evAt ws P) := by
  unfold evR
  rw [List.map_map]
  rfl
theorem examples_spec (sp : SlV) (p : List Pr) (u : Sp) (hpn : p.length ≤ 100000) (hcost : CostOk p) (hpl : ∀ x ∈ p, x.pl.length ≤ 1000) (hwk : wordOk u.word = true) (hwn : u.word.size ≤ 60) (hm : u.pl.length ≤ 800) (w : World) (hT : Stb w [] Tab) (hp : Stb w [] (RdL sp.v p)) (hpi : Stb w [] fun w' => ∀ u ∈ p, PrIn u w') (hu : Stb w [] (SpIn u)) :
    Calls Tryz.prog 34 #[sp.v, val u] w fun e w' => ∃ y : SlV × List XR, e = .returned y.1.v ∧ (evR y.2 = evU p u ∧ ∀ e ∈ y.2, RxOk e) ∧ Cl w [] [Sx.frz fun w => RdL y.1.v y.2 w ∧ ∀ e ∈ y.2, RxIn e w] w' := by
  obtain ⟨ws, hws⟩ : ∃ ws, runes u.word = ws := ⟨_, rfl⟩
  have hwl : ws.length ≤ 60 := by rw [← hws]; have := runes_len_le u.word; omega
  have hlr := lettersR_ok hwk
  refine calls_cw (vs := [_, _]) Tryz.func34 rfl Tryz.ntmps34 rfl (Cl.start0 w) (cw_seq (cw_region ?_))
  refine sw_x rfl rfl rfl (e_box rfl rfl rfl) (fun b3 => ?_)
  refine zS rfl (q_assign rfl rfl) (sw_nil (post_then (cw_seq (cw_region (zS rfl (q_fieldAddr rfl rfl) ?_)))))
  refine zS rfl (q_loadC rfl rfl (by exact .head _) rfl) ?_
  refine sw_x rfl rfl rfl (e_call (CanCall.mk Tryz.call21) rfl (.k rfl (.nil)) (fun w1 hw => refLetters_spec u.word w1 (by omega) (stb_arg hw hT))) (fun sw => ?_)
  refine sw_imp fun _ => ?_
  rw [hlr, hws]
  refine zS rfl (q_move rfl rfl) (zS rfl (q_extract rfl rfl rfl) (zS rfl (q_extract rfl rfl rfl) (zS rfl (q_assign rfl rfl) (zS rfl (q_assign rfl rfl) (sw_nil (post_then (cw_seq (cw_region (zS rfl (q_move rfl rfl) (zS rfl (q_move rfl rfl) (zS rfl (q_fieldAddr rfl rfl) ?_)))))))))))
  refine zS rfl (q_loadC rfl rfl (by exact .tail _ (.head _)) rfl) ?_
  refine sw_x rfl rfl rfl (e_call (CanCall.mk Tryz.call24) rfl (.k rfl (.k rfl (.k rfl (.nil)))) (fun w1 hw => refAlign_spec2 sp sw u.p p ws u.pl (by omega) (by omega) hpn hcost hpl w1 (stb_arg hw hp) (stb_arg hw hpi) (by exact stb_own hw (by exact .head _)) (stb_arg hw hu))) (fun y => ?_)
  refine sw_imp fun _ => ?_
  obtain ⟨sa, vs⟩ := y
  dsimp only
  obtain ⟨P, hP⟩ : ∃ P, (if 0 ≤ leastC p ws u.pl then pathC p ws u.pl else []) = P := ⟨_, rfl⟩
  rw [hP]
  have hPn : P.length ≤ ws.length ∧ (0 < P.length → 0 ≤ leastC p ws u.pl ∧ P.length = ws.length) ∧ (∀ q ∈ P, q.length ≤ 1000) := by
    rw [← hP]
    split
    · rename_i h0
      obtain ⟨k1, k2⟩ := path_ok h0
      exact ⟨by omega, fun _ => ⟨h0, k1⟩, fun q hq => by obtain ⟨x, hx, rfl⟩ := k2 q hq; exact hpl x hx⟩
    · exact ⟨Nat.zero_le _, fun h => by simp at h, fun q hq => by simp at hq⟩
  have hPe : (List.range P.length).map (evAt ws P) = evU p u := by
    unfold evU alOk
    rw [hws]
    by_cases h0 : 0 ≤ leastC p ws u.pl
    · rw [if_pos h0] at hP
      rw [if_pos (by simpa using h0)]
      unfold evOf alP alOk
      rw [hws, if_pos (by simpa using h0), hP]
      rw [← hP, (path_ok h0).1]
    · rw [if_neg h0] at hP
      rw [if_neg (by simpa using h0), ← hP]; rfl
  obtain ⟨k1, k2, k3⟩ := hPn
  refine sw_pureP (p := vs.length = P.length) (fun w1 h1 => (rd_frz (R := fun w => RdL sa.v vs w ∧ RdR vs P w) h1 (.head _)).2.1) fun hvl => (zS rfl (q_move rfl rfl) (zS rfl (q_extract rfl rfl rfl) (zS rfl (q_extract rfl rfl rfl) (zS rfl (q_assign rfl rfl) (zS rfl (q_assign rfl rfl) (sw_nil (post_then (cw_seq (cw_region (zS rfl (q_assign rfl rfl) (sw_nil (post_then (cw_seq (cw_seq (cw_region (zS rfl (q_assign rfl rfl) (sw_nil (post_then (cw_block ?_)))))))))))))))))))
  refine cw_loop (S := Nat × SlV) (fun y => [(3, [], .pointer (some ⟨b3, 0, none⟩)), (5, [], sw.v), (7, [], sa.v), (8, [], .int .i64 (leastC p ws u.pl)), (9, [], y.2.v), (10, [], .int .i64 y.1)]) (fun y => Cl w [] [ownL 58 y.2.v ((List.range y.1).map (exR sw vs ws P)), Sx.frz (fun w => RdL sa.v vs w ∧ RdR vs P w), ownL 21 sw.v ws, blk b3 (enc u) 56]) (fun y => y.1 ≤ P.length) (fun y => P.length - y.1) (0, ⟨none, 0, 0⟩) (Nat.zero_le _) (by exact .cons rfl (.cons rfl (.cons rfl (.cons rfl (.cons rfl (.cons rfl .nil)))))) (fun w' h => Cl.addNil (α := XR) 58 ((Cl.sel (by exact .take 0 rfl (.take 0 rfl (.take 0 rfl (.nil _))))) _ h)) ?_
  rintro ⟨i, so⟩ hi
  dsimp only at hi ⊢
  have hvs : ∀ w1, Cl w [] [ownL 58 so.v ((List.range i).map (exR sw vs ws P)), Sx.frz (fun w => RdL sa.v vs w ∧ RdR vs P w), ownL 21 sw.v ws, blk b3 (enc u) 56] w1 → RdL sa.v vs w1 := fun w1 h => (rd_frz (R := fun w => RdL sa.v vs w ∧ RdR vs P w) h (by exact .tail _ (.head _))).1
  refine cw_seq (cw_seq (cw_region (zS rfl (q_move rfl rfl) (zS rfl (q_move rfl rfl) ?_))))
  refine zS rfl (q_len rfl (.k rfl (.nil)) (by assumption)) ?_
  refine zS rfl (q_lss rfl rfl rfl) (zS rfl (q_move rfl rfl) (zS rfl (q_move rfl rfl) (zS rfl (q_geq rfl rfl rfl) (zS rfl (q_and2 rfl rfl rfl) (sw_nil (post_then ?_))))))
  refine cw_cond rfl (fun h => ?_) (fun h => ?_)
  · have hi' : i < P.length := by simp at h; omega
    have hck := k2 (by omega)
    refine cw_skip (post_then (cw_seq (cw_block (cw_region (zS rfl (q_move rfl rfl) (zS rfl (q_move rfl rfl) (zS rfl (q_move rfl rfl) (zS rfl (q_move rfl rfl) (zS rfl (q_move rfl rfl) ?_)))))))))
    refine zS rfl (q_indexN rfl rfl rfl (by assumption) (by intro hc; omega)) ?_
    refine zS rfl (q_loadEl rfl rfl rfl (by assumption) (by intro hc; omega)) ?_
    refine zS rfl (q_build rfl (.k rfl (.k rfl (.k rfl (.nil)))) rfl) ?_
    refine sw_x rfl rfl rfl (e_buildL (α := XR) (l := [exR sw vs ws P i]) rfl (.k rfl (.nil)) rfl rfl rfl rfl) (fun s43 => ?_)
    refine sw_x rfl rfl rfl (e_append (α := XR) (i := 1) rfl (.k rfl (.k rfl (.nil))) rfl rfl (rdO (by exact .head _)) (by simp; omega) rfl) (fun s44 => ?_)
    refine zS rfl (q_assign rfl rfl) (sw_nil (post_blk (post_then (cw_region (zS rfl (q_move rfl rfl) ?_)))))
    refine zS rfl (q_add rfl rfl rfl (by intro hc; omega)) ?_
    refine zS rfl (q_assign rfl rfl) (sw_nil ?_)
    refine post_next (i + 1, s44) (by exact .cons rfl (.cons rfl (.cons rfl (.cons rfl (.cons rfl (.cons rfl .nil)))))) (fun w' h => ?_) (by simp only; omega) (by simp only; omega)
    dsimp only
    rw [List.range_succ, List.map_append]
    exact (Cl.sel (by exact .take 1 rfl (.take 1 rfl (.take 1 rfl (.take 1 rfl (.nil _)))))) _ h
  · have hi' : i = P.length := by
      simp at h
      rcases Nat.eq_or_lt_of_le hi with e | e
      · exact e
      · have := (k2 (by omega)).1; omega
    subst hi'
    refine cw_exit (post_then_x (post_then_x (post_blk_eq (post_then (cw_seq (cw_region (zS rfl (q_move rfl rfl) (zS rfl (q_assign rfl rfl) (sw_nil (post_then (cw_ret (post_ret1 rfl (resOk_tmp rfl) ?_))))))))))))
    refine fun w' h => ⟨(so, (List.range P.length).map (exR sw vs ws P)), rfl, ⟨by rw [evR_exR, hPe], fun e he => ?_⟩, ?_⟩
    · obtain ⟨i, hi, rfl⟩ := List.mem_map.1 he
      rw [List.mem_range] at hi
      exact ⟨k3 _ (nth_mem hi), ⟨by show (0 : Int) ≤ (i : Int); omega, by show (i : Int) ≤ 1000; omega⟩, by show (i : Int) < ws.length; omega⟩
    · have h1 : Cl w [] ([ownL 58 so.v ((List.range P.length).map (exR sw vs ws P)), Sx.frz (fun w => RdL sa.v vs w ∧ RdR vs P w), ownL 21 sw.v ws] ++ []) w' := (Cl.sel (by exact .take 0 rfl (.take 0 rfl (.take 0 rfl (.nil _))))) _ h
      exact Cl.frz h1 fun w bs ⟨_, _, _, j1, _, _, _, j2, _, _, _, j3, _⟩ => ⟨ownL.rd j1, fun e he => by
        obtain ⟨i, hi, rfl⟩ := List.mem_map.1 he
        rw [List.mem_range] at hi
        exact ⟨ownL.rd j3, (frz_here j2).2.2 i hi⟩⟩
theorem refLearn_spec (sl sp : SlV) (l : List Sp) (p : List Pr) (o : Lrn) (ho : LrnOk o) (hln : l.length ≤ 1000) (hpn : p.length ≤ 100000) (hcost : CostOk p) (hpl : ∀ x ∈ p, x.pl.length ≤ 1000) (hl : ∀ u ∈ l, wordOk u.word = true ∧ u.word.size ≤ 60 ∧ u.pl.length ≤ 800) (w : World) (hT : Stb w [] Tab) (hs : Stb w [] (RdL sl.v l)) (hsi : Stb w [] fun w' => ∀ u ∈ l, SpIn u w') (hp : Stb w [] (RdL sp.v p)) (hpi : Stb w [] fun w' => ∀ u ∈ p, PrIn u w') :
    Calls Tryz.prog 32 #[sl.v, sp.v, val o] w fun e w' => ∃ b : Bk, e = .returned (val b) ∧ bkP b.bl = teachP (l.flatMap (evU p)) o ∧ Cl w [] [Sx.frz (BkIn b)] w' := by
  have hL := rd_len hs.here
  refine calls_cw (vs := [_, _, _]) Tryz.func32 rfl Tryz.ntmps32 rfl (Cl.start0 w) (cw_seq (cw_region ?_))
  refine sw_x rfl rfl rfl (e_box rfl rfl rfl) (fun b5 => ?_)
  refine sw_x rfl rfl rfl (e_alloc rfl) (fun b6 => ?_)
  refine sw_nil (post_then (cw_seq (cw_region (zS rfl (q_assign rfl rfl) (sw_nil (post_then (cw_seq (cw_seq (cw_region (zS rfl (q_assign rfl rfl) (sw_nil (post_then (cw_block ?_)))))))))))))
  refine cw_loop (S := Nat × SlV × List XR) (fun y => [(0, [], sl.v), (1, [], sp.v), (5, [], .pointer (some ⟨b5, 0, none⟩)), (6, [], .pointer (some ⟨b6, 0, none⟩)), (7, [], y.2.1.v), (8, [], .int .i64 y.1)]) (fun y => Cl w [] [ownL 58 y.2.1.v y.2.2, Sx.frz (fun w => ∀ e ∈ y.2.2, RxIn e w), blk b6 (enc (default : Bk)) 45, blk b5 (enc o) 40]) (fun y => y.1 ≤ l.length ∧ evR y.2.2 = (l.take y.1).flatMap (evU p) ∧ (∀ e ∈ y.2.2, RxOk e) ∧ y.2.2.length ≤ y.1 * 60) (fun y => l.length - y.1) (0, ⟨none, 0, 0⟩, []) ⟨Nat.zero_le _, rfl, fun e he => by simp at he, by simp⟩ (by exact .cons rfl (.cons rfl (.cons rfl (.cons rfl (.cons rfl (.cons rfl .nil)))))) (fun w' h => ?_) ?_
  · have h1 : Cl w [] [blk b6 (enc (default : Bk)) 45, blk b5 (enc o) 40] w' := (Cl.sel (by exact .take 0 rfl (.take 0 rfl (.nil _)))) _ h
    exact (Cl.sel (by exact .take 1 rfl (.take 0 rfl (.take 0 rfl (.take 0 rfl (.nil _)))))) _ (Cl.frz (H := []) (R := fun w => ∀ e ∈ ([] : List XR), RxIn e w) (Cl.addNil (α := XR) 58 h1) fun w _ _ e he => by simp at he)
  rintro ⟨i, so, xs⟩ ⟨hi, hev, hxo, hxn⟩
  dsimp only at hi hev hxo hxn ⊢
  refine cw_seq (cw_seq (cw_region (zS rfl (q_move rfl rfl) (zS rfl (q_move rfl rfl) ?_))))
  refine zS rfl (q_len rfl (.k rfl (.nil)) (stA (by assumption))) ?_
  refine zS rfl (q_lss rfl rfl rfl) (sw_nil (post_then ?_))
  refine cw_cond rfl (fun h => ?_) (fun h => ?_)
  · have hi' : i < l.length := by simp at h; omega
    obtain ⟨g1, g2, g3⟩ := hl _ (nth_mem hi')
    have gu : Stb w [] (SpIn (nth l i)) := stb_map hsi fun _ h => h _ (nth_mem hi')
    refine cw_skip (post_then (cw_seq (cw_block (cw_region (zS rfl (q_move rfl rfl) (zS rfl (q_move rfl rfl) (zS rfl (q_move rfl rfl) (zS rfl (q_move rfl rfl) ?_))))))))
    refine zS rfl (q_indexN rfl rfl rfl (stA (by assumption)) (by intro hc; omega)) ?_
    refine zS rfl (q_loadEl rfl rfl rfl (stA (by assumption)) (by intro hc; omega)) ?_
    refine sw_x rfl rfl rfl (e_call (CanCall.mk Tryz.call34) rfl (.k rfl (.k rfl (.nil))) (fun w1 hw => examples_spec sp p (nth l i) hpn hcost hpl g1 g2 g3 w1 (stb_arg hw hT) (stb_arg hw hp) (stb_arg hw hpi) (stb_arg hw gu))) (fun y => ?_)
    refine sw_imp fun hy => ?_
    obtain ⟨sy, ys⟩ := y
    obtain ⟨hy1, hy2⟩ := hy
    dsimp only at hy1 hy2 ⊢
    have hyl : ys.length ≤ 60 := by
      have e1 := congrArg List.length hy1
      rw [evR_len] at e1
      have e2 := evU_len p (nth l i)
      have e3 := runes_len_le (nth l i).word
      omega
    refine sw_x rfl rfl rfl (e_append (α := XR) (i := 1) (r := ys) rfl (.k rfl (.k rfl (.nil))) rfl rfl (fun w1 h1 => (rd_frz (R := fun w => RdL sy.v ys w ∧ ∀ e ∈ ys, RxIn e w) h1 (.head _)).1) (by omega) rfl) (fun s22 => ?_)
    refine zS rfl (q_assign rfl rfl) (sw_nil (post_blk (post_then (cw_region (zS rfl (q_move rfl rfl) ?_)))))
    refine zS rfl (q_add rfl rfl rfl (by intro hc; omega)) ?_
    refine zS rfl (q_assign rfl rfl) (sw_nil ?_)
    refine post_next (i + 1, s22, xs ++ ys) (by exact .cons rfl (.cons rfl (.cons rfl (.cons rfl (.cons rfl (.cons rfl .nil)))))) (fun w' h => ?_) ⟨by simp only; omega, ?_, fun e he => ?_, by simp only [List.length_append]; omega⟩ (by simp only; omega)
    · have h1 : Cl w [] ([Sx.frz (fun w => RdL sy.v ys w ∧ ∀ e ∈ ys, RxIn e w), Sx.frz (fun w => ∀ e ∈ xs, RxIn e w)] ++ [ownL 58 s22.v (xs ++ ys), blk b6 (enc (default : Bk)) 45, blk b5 (enc o) 40]) w' := (Cl.sel (by exact .take 0 rfl (.take 1 rfl (.take 0 rfl (.take 0 rfl (.take 0 rfl (.nil _))))))) _ h
      exact (Cl.sel (by exact .take 1 rfl (.take 0 rfl (.take 0 rfl (.take 0 rfl (.nil _)))))) _ (Cl.frz (R := fun w => ∀ e ∈ xs ++ ys, RxIn e w) h1 fun w bs ⟨_, _, _, j1, _, _, _, j2, _⟩ e he => by
        rcases List.mem_append.1 he with he | he
        · exact frz_here j2 e he
        · exact (frz_here j1).2 e he)
    · simp only
      rw [List.take_succ_eq_append_getElem hi', List.flatMap_append, ← hev, ← nth_get hi']
      unfold evR at hy1 ⊢
      rw [List.map_append, hy1]; simp
    · rcases List.mem_append.1 he with he | he
      · exact hxo e he
      · exact hy2 e he
  · have hi' : i = l.length := by simp at h; omega
    subst hi'
    rw [List.take_length] at hev
    refine cw_exit (post_then_x (post_then_x (post_blk_eq (post_then (cw_seq (cw_region (zS rfl (q_move rfl rfl) ?_)))))))
    refine zS rfl (q_loadA rfl rfl (by exact .tail _ (.tail _ (.tail _ (.head _)))) rfl) ?_
    refine sw_x rfl rfl rfl (e_call (CanCall.mk Tryz.call72) rfl (.k rfl (.k rfl (.nil))) (fun w1 hw => teach_spec so xs o ho (by omega) hxo w1 (by exact stb_own hw (by exact .head _)) (stb_frz hw (by exact .tail _ (.head _))))) (fun b => ?_)
    refine sw_imp fun hb => (sw_eff0 rfl rfl (e_store (i := 3) rfl rfl rfl rfl rfl rfl rfl rfl) (sw_nil (post_then (cw_ret ?_))))
    refine post_ret1 rfl (resOk_blk (x := b) rfl (by exact .tail _ (.tail _ (.tail _ (.head _)))) (by rfl)) ?_
    refine fun w' h => ⟨b, rfl, ?_, (Cl.sel (by exact .take 0 rfl (.nil _))) _ h⟩
    rw [hb, hev]; rfl
end Go.Proofs.YtkmbliojafefdaaGreatDoor

set_option autoImplicit false
set_option maxRecDepth 100000
namespace Go.Proofs.YtkmbliojafefdaaGreatDoor
open Go.Sx
open Enc (enc val)
theorem map_eq_iff {α β : Type} [Inhabited α] (f : α → β) {a b : List α} : a.map f = b.map f ↔ a.length = b.length ∧ ∀ k, k < a.length → f (nth a k) = f (nth b k) := by
  constructor
  · intro h
    have hl : a.length = b.length := by simpa using congrArg List.length h
    refine ⟨hl, fun k hk => ?_⟩
    have h1 := congrArg (fun z => z[k]?) h
    simp only [List.getElem?_map, List.getElem?_eq_getElem hk, List.getElem?_eq_getElem (show k < b.length by omega), Option.map_some, Option.some.injEq] at h1
    rw [nth_get hk, nth_get (by omega)]; exact h1
  · intro ⟨hl, h⟩
    refine List.ext_getElem (by simpa using hl) fun k h1 h2 => ?_
    have := h k (by simpa using h1)
    rw [nth_get (by simpa using h1), nth_get (by simpa using h2)] at this
    simpa using this
def rlP (rl : List Chc) : List (List Cond × List ByteArray) := rl.map fun u => (u.tl, u.pl)
theorem bkP_iff {a b : List Let} : bkP a = bkP b ↔ a.length = b.length ∧ ∀ k, k < a.length → (nth a k).c = (nth b k).c ∧ rlP (nth a k).rl = rlP (nth b k).rl := by
  unfold bkP
  rw [map_eq_iff]
  simp only [Prod.mk.injEq]
  rfl
theorem rlP_iff {a b : List Chc} : rlP a = rlP b ↔ a.length = b.length ∧ ∀ k, k < a.length → (nth a k).tl = (nth b k).tl ∧ (nth a k).pl = (nth b k).pl := by
  unfold rlP
  rw [map_eq_iff]
  simp only [Prod.mk.injEq]
theorem sameBooks_spec (a b : Bk) (w : World) (ha : Stb w [] (BkIn a)) (hb : Stb w [] (BkIn b)) : Calls Tryz.prog 31 #[val a, val b] w fun e w' => e = .returned (.bool (decide (bkP a.bl = bkP b.bl))) ∧ Cl w [] [] w' := by
  have hA := rd_stb ha.here.1
  have hLa := rd_len hA.here
  have hB := rd_stb hb.here.1
  have hLb := rd_len hB.here
  refine calls_cw (vs := [_, _]) Tryz.func31 rfl Tryz.ntmps31 rfl (Cl.start0 w) ?_
  have hI : ∀ k, k < a.bl.length → LetIn (nth a.bl k) w := fun k hk => ha.here.2 _ (nth_mem hk)
  have hJ : ∀ k, k < b.bl.length → LetIn (nth b.bl k) w := fun k hk => hb.here.2 _ (nth_mem hk)
  refine cw_seq (cw_region ?_)
  refine sw_x rfl rfl rfl (e_box rfl rfl rfl) (fun b2 => ?_)
  refine sw_x rfl rfl rfl (e_box rfl rfl rfl) (fun b3 => ?_)
  refine zS rfl (q_assign rfl rfl) (sw_nil (post_then (cw_seq (cw_seq (cw_region (zS rfl (q_fieldAddr rfl rfl) ?_))))))
  refine zS rfl (q_loadC rfl rfl (by exact .tail _ (.head _)) rfl) ?_
  refine zS rfl (q_len rfl (.k rfl (.nil)) (stA (by assumption))) ?_
  refine zS rfl (q_fieldAddr rfl rfl) ?_
  refine zS rfl (q_loadC rfl rfl (by exact .head _) rfl) ?_
  refine zS rfl (q_len rfl (.k rfl (.nil)) (stA (by assumption))) ?_
  refine zS rfl (q_neq rfl rfl rfl) (sw_nil (post_then ?_))
  refine cw_cond rfl (fun h => ?_) (fun h => ?_)
  · have h2 : ¬ bkP a.bl = bkP b.bl := fun e => by
      have := (bkP_iff.1 e).1
      simp at h; omega
    refine cw_seq (cw_region (zS rfl (q_assign rfl rfl) (sw_nil (post_then (cw_ret (post_then_r (post_ret1 rfl (resOk_tmp rfl) ?_)))))))
    exact fun w' hw => ⟨by rw [decide_eq_false h2], (Cl.sel (by exact .nil _)) _ hw⟩
  · have hl : a.bl.length = b.bl.length := by simp at h; omega
    refine cw_skip (post_then (cw_seq (cw_seq (cw_region (zS rfl (q_assign rfl rfl) (sw_nil (post_then (cw_block ?_))))))))
    refine cw_loop (S := Nat) (fun k => [(2, [], .pointer (some ⟨b2, 0, none⟩)), (3, [], .pointer (some ⟨b3, 0, none⟩)), (5, [], .int .i64 k)]) (fun _ => Cl w [] [blk b2 [a.b.v] 45, blk b3 [b.b.v] 45]) (fun k => k ≤ a.bl.length ∧ ∀ j, j < k → (nth a.bl j).c = (nth b.bl j).c ∧ rlP (nth a.bl j).rl = rlP (nth b.bl j).rl) (fun k => a.bl.length - k) 0 ⟨Nat.zero_le _, fun j hj => by omega⟩ (by exact .cons rfl (.cons rfl (.cons rfl .nil))) (Cl.sel (by exact .take 1 rfl (.take 0 rfl (.nil _)))) ?_
    rintro k ⟨hk, hbe⟩
    refine cw_seq (cw_seq (cw_region (zS rfl (q_move rfl rfl) (zS rfl (q_fieldAddr rfl rfl) ?_))))
    refine zS rfl (q_loadC rfl rfl (by exact .head _) rfl) ?_
    refine zS rfl (q_len rfl (.k rfl (.nil)) (stA (by assumption))) ?_
    refine zS rfl (q_lss rfl rfl rfl) (sw_nil (post_then ?_))
    refine cw_cond rfl (fun h2 => ?_) (fun h2 => ?_)
    · have hk' : k < a.bl.length := by simp at h2; omega
      have hkb : k < b.bl.length := by omega
      have hno : ¬ ((nth a.bl k).c = (nth b.bl k).c ∧ rlP (nth a.bl k).rl = rlP (nth b.bl k).rl) → ¬ bkP a.bl = bkP b.bl := fun hn e => hn ((bkP_iff.1 e).2 k hk')
      obtain ⟨x, hx⟩ : ∃ x, nth a.bl k = x := ⟨_, rfl⟩
      obtain ⟨y, hy⟩ : ∃ y, nth b.bl k = y := ⟨_, rfl⟩
      have hIx := hI k hk'
      have hJy := hJ k hkb
      rw [hx] at hIx
      rw [hy] at hJy
      rw [hx, hy] at hno
      have rX := rd_stb hIx.1
      have rY := rd_stb hJy.1
      have lX := rd_len rX.here
      have lY := rd_len rY.here
      refine cw_skip (post_then (cw_seq (cw_block (cw_seq ?_))))
      refine cw_cut (S := Nat × Nat) (fun z => [(2, [], .pointer (some ⟨b2, 0, none⟩)), (3, [], .pointer (some ⟨b3, 0, none⟩)), (5, [], .int .i64 k), (6, [], .pointer (some ⟨z.1, 0, none⟩)), (7, [], .pointer (some ⟨z.2, 0, none⟩))]) (fun z => Cl w [] [blk z.1 (enc x) 61, blk z.2 (enc y) 61, blk b2 [a.b.v] 45, blk b3 [b.b.v] 45]) (fun _ => True) ?_ ?_
      · refine cw_region_a (Cl w [] [blk b2 [a.b.v] 45, blk b3 [b.b.v] 45]) [] mixed_Tryz ?_
        refine zk 0 (Cl.sel (by exact .take 0 rfl (.take 0 rfl (.nil _)))) rfl (q_fieldAddr rfl rfl) ?_
        refine zk 1 (Cl.sel (by exact .take 0 rfl (.take 0 rfl (.nil _)))) rfl (q_loadC rfl rfl (by exact .head _) rfl) ?_
        refine zp 2 rfl (q_move rfl rfl) ?_
        refine zk 3 (Cl.sel (by exact .take 0 rfl (.take 0 rfl (.nil _)))) rfl (q_indexN rfl rfl rfl (stA (by assumption)) (by intro hc; omega)) ?_
        refine zk 4 (Cl.sel (by exact .take 0 rfl (.take 0 rfl (.nil _)))) rfl (q_loadEl rfl rfl rfl (stA (by assumption)) (by intro hc; omega)) ?_
        refine zk 5 (Cl.sel (by exact .take 0 rfl (.take 0 rfl (.nil _)))) rfl (q_fieldAddr rfl rfl) ?_
        refine zk 6 (Cl.sel (by exact .take 0 rfl (.take 0 rfl (.nil _)))) rfl (q_loadC rfl rfl (by exact .tail _ (.head _)) rfl) ?_
        refine zp 7 rfl (q_move rfl rfl) ?_
        refine zk 8 (Cl.sel (by exact .take 0 rfl (.take 0 rfl (.nil _)))) rfl (q_indexN rfl rfl rfl (stA (by assumption)) (by intro hc; omega)) ?_
        refine zk 9 (Cl.sel (by exact .take 0 rfl (.take 0 rfl (.nil _)))) rfl (q_loadEl rfl rfl rfl (stA (by assumption)) (by intro hc; omega)) ?_
        refine aw_two 10 11 (by kernel_rfl) ?_ ?_
        · refine at_x 10 rfl rfl rfl rfl (e_alloc rfl) (by intro hb; exact fun _ => (Cl.sel (by exact .take 1 rfl (.take 1 rfl (.nil _))))) (fun b6 => ?_)
          refine aw_x 11 (by kernel_rfl) rfl rfl rfl rfl (e_alloc rfl) (by intro hb; exact fun _ => (Cl.sel (by exact .take 2 rfl (.take 2 rfl (.nil _))))) (fun b7 => ?_)
          refine aw_one0 12 (by kernel_rfl) rfl rfl rfl (e_store (i := 1) rfl rfl rfl rfl rfl rfl rfl rfl) (by intro hb; exact (Cl.sel (by exact .take 2 rfl (.take 2 rfl (.nil _))))) ?_
          refine aw_one0 13 (by kernel_rfl) rfl rfl rfl (e_store (i := 0) rfl rfl rfl rfl rfl rfl rfl rfl) (by intro hb; exact (Cl.sel (by exact .take 2 rfl (.take 2 rfl (.nil _))))) ?_
          refine aw_end (by kernel_rfl) ?_
          exact post_meet (b6, b7) (by exact .cons rfl (.cons rfl (.cons rfl (.cons rfl (.cons rfl .nil))))) (fun w' h => by rw [← hx, ← hy]; exact (Cl.sel (by exact .take 1 rfl (.take 0 rfl (.take 0 rfl (.take 0 rfl (.nil _)))))) _ h) trivial
        · refine at_x 11 rfl rfl rfl rfl (e_alloc rfl) (by intro hb; exact fun _ => (Cl.sel (by exact .take 1 rfl (.take 1 rfl (.nil _))))) (fun b7 => ?_)
          refine aw_x 10 (by kernel_rfl) rfl rfl rfl rfl (e_alloc rfl) (by intro hb; exact fun _ => (Cl.sel (by exact .take 2 rfl (.take 2 rfl (.nil _))))) (fun b6 => ?_)
          refine aw_one0 12 (by kernel_rfl) rfl rfl rfl (e_store (i := 0) rfl rfl rfl rfl rfl rfl rfl rfl) (by intro hb; exact (Cl.sel (by exact .take 2 rfl (.take 2 rfl (.nil _))))) ?_
          refine aw_one0 13 (by kernel_rfl) rfl rfl rfl (e_store (i := 1) rfl rfl rfl rfl rfl rfl rfl rfl) (by intro hb; exact (Cl.sel (by exact .take 2 rfl (.take 2 rfl (.nil _))))) ?_
          refine aw_end (by kernel_rfl) ?_
          exact post_meet (b6, b7) (by exact .cons rfl (.cons rfl (.cons rfl (.cons rfl (.cons rfl .nil))))) (fun w' h => by rw [← hx, ← hy]; exact (Cl.sel (by exact .take 0 rfl (.take 0 rfl (.take 0 rfl (.take 0 rfl (.nil _)))))) _ h) trivial
      rintro ⟨b6, b7⟩ _
      refine post_then (cw_seq (cw_seq (cw_region (zS rfl (q_fieldAddr rfl rfl) ?_))))
      refine zS rfl (q_loadC rfl rfl (by exact .head _) rfl) ?_
      refine zS rfl (q_fieldAddr rfl rfl) ?_
      refine zS rfl (q_loadC rfl rfl (by exact .tail _ (.head _)) rfl) ?_
      refine zS rfl (q_neq rfl rfl rfl) (zS rfl (q_move rfl rfl) (zS rfl (q_fieldAddr rfl rfl) ?_))
      refine zS rfl (q_loadC rfl rfl (by exact .head _) rfl) ?_
      refine zS rfl (q_len rfl (.k rfl (.nil)) (stA (by assumption))) ?_
      refine zS rfl (q_fieldAddr rfl rfl) ?_
      refine zS rfl (q_loadC rfl rfl (by exact .tail _ (.head _)) rfl) ?_
      refine zS rfl (q_len rfl (.k rfl (.nil)) (stA (by assumption))) ?_
      refine zS rfl (q_neq rfl rfl rfl) (zS rfl (q_or2 rfl rfl rfl) (sw_nil (post_then ?_)))
      refine cw_cond rfl (fun h3 => ?_) (fun h3 => ?_)
      · have h4 := hno fun e => by
          have := (rlP_iff.1 e.2).1
          have := e.1
          simp at h3; omega
        refine cw_seq (cw_region (zS rfl (q_assign rfl rfl) (sw_nil (post_then (cw_ret (post_then_r (post_blk_r (post_then_r (post_then_r (post_blk_r (post_then_r (post_ret1 rfl (resOk_tmp rfl) ?_))))))))))))
        exact fun w' hw => ⟨by rw [decide_eq_false h4], (Cl.sel (by exact .nil _)) _ hw⟩
      · have h4 : x.c = y.c ∧ x.rl.length = y.rl.length := by simp at h3; omega
        refine cw_skip (post_then (cw_seq (cw_region (zS rfl (q_assign rfl rfl) (sw_nil (post_then (cw_block ?_)))))))
        refine cw_loop (S := Nat) (fun j => [(2, [], .pointer (some ⟨b2, 0, none⟩)), (3, [], .pointer (some ⟨b3, 0, none⟩)), (5, [], .int .i64 k), (6, [], .pointer (some ⟨b6, 0, none⟩)), (7, [], .pointer (some ⟨b7, 0, none⟩)), (8, [], .int .i64 j)]) (fun _ => Cl w [] [blk b6 (enc x) 61, blk b7 (enc y) 61, blk b2 [a.b.v] 45, blk b3 [b.b.v] 45]) (fun j => j ≤ x.rl.length ∧ ∀ i, i < j → (nth x.rl i).tl = (nth y.rl i).tl ∧ (nth x.rl i).pl = (nth y.rl i).pl) (fun j => x.rl.length - j) 0 ⟨Nat.zero_le _, fun j hj => by omega⟩ (by exact .cons rfl (.cons rfl (.cons rfl (.cons rfl (.cons rfl (.cons rfl .nil)))))) (Cl.sel (by exact .take 0 rfl (.take 0 rfl (.take 0 rfl (.take 0 rfl (.nil _)))))) ?_
        rintro j ⟨hj, hbj⟩
        refine cw_seq (cw_seq (cw_region (zS rfl (q_move rfl rfl) (zS rfl (q_fieldAddr rfl rfl) ?_))))
        refine zS rfl (q_loadC rfl rfl (by exact .head _) rfl) ?_
        refine zS rfl (q_len rfl (.k rfl (.nil)) (stA (by assumption))) ?_
        refine zS rfl (q_lss rfl rfl rfl) (sw_nil (post_then ?_))
        refine cw_cond rfl (fun h5 => ?_) (fun h5 => ?_)
        · have hj' : j < x.rl.length := by simp at h5; omega
          have hjy : j < y.rl.length := by omega
          have g1 := hIx.2 _ (nth_mem hj')
          have g2 := hJy.2 _ (nth_mem hjy)
          have g1t := rd_stb g1.1
          have g1p := rd_stb g1.2
          have g2t := rd_stb g2.1
          have g2p := rd_stb g2.2
          have hno2 : ¬ ((nth x.rl j).tl = (nth y.rl j).tl ∧ (nth x.rl j).pl = (nth y.rl j).pl) → ¬ bkP a.bl = bkP b.bl := fun hn => hno fun e => hn ((rlP_iff.1 e.2).2 j hj')
          refine cw_skip (post_then (cw_seq (cw_block (cw_seq ?_))))
          refine cw_region_q mixed_Tryz (by kernel_rfl) ?_
          refine zq rfl (q_fieldAddr rfl rfl) ?_
          refine zq rfl (q_loadC rfl rfl (by exact .head _) rfl) ?_
          refine zq rfl (q_move rfl rfl) ?_
          refine zq rfl (q_indexN rfl rfl rfl (stA (by assumption)) (by intro hc; omega)) ?_
          refine zq rfl (q_fieldEl rfl rfl (stA (by assumption)) (by intro hc; omega)) ?_
          refine zq rfl (q_loadF rfl rfl rfl (stA (by assumption)) (by intro hc; omega) rfl) ?_
          refine zq rfl (q_fieldAddr rfl rfl) ?_
          refine zq rfl (q_loadC rfl rfl (by exact .tail _ (.head _)) rfl) ?_
          refine zq rfl (q_move rfl rfl) ?_
          refine zq rfl (q_indexN rfl rfl rfl (stA (by assumption)) (by intro hc; omega)) ?_
          refine zq rfl (q_fieldEl rfl rfl (stA (by assumption)) (by intro hc; omega)) ?_
          refine zq rfl (q_loadF rfl rfl rfl (stA (by assumption)) (by intro hc; omega) rfl) ?_
          refine qw_step rfl rfl rfl (q_call (CanCall.mk Tryz.call38) rfl (.k rfl (.k rfl (.nil))) (fun _ w hw => callq hw (order_spec _ _ _ _ w (by exact stb_arg hw (by assumption)) (by exact stb_arg hw (by assumption))))) ?_
          refine zq rfl (q_neq rfl rfl rfl) (zq rfl (q_move rfl rfl) (zq rfl (q_fieldAddr rfl rfl) ?_))
          refine zq rfl (q_loadC rfl rfl (by exact .head _) rfl) ?_
          refine zq rfl (q_move rfl rfl) ?_
          refine zq rfl (q_indexN rfl rfl rfl (stA (by assumption)) (by intro hc; omega)) ?_
          refine zq rfl (q_fieldEl rfl rfl (stA (by assumption)) (by intro hc; omega)) ?_
          refine zq rfl (q_loadF rfl rfl rfl (stA (by assumption)) (by intro hc; omega) rfl) ?_
          refine zq rfl (q_fieldAddr rfl rfl) ?_
          refine zq rfl (q_loadC rfl rfl (by exact .tail _ (.head _)) rfl) ?_
          refine zq rfl (q_move rfl rfl) ?_
          refine zq rfl (q_indexN rfl rfl rfl (stA (by assumption)) (by intro hc; omega)) ?_
          refine zq rfl (q_fieldEl rfl rfl (stA (by assumption)) (by intro hc; omega)) ?_
          refine zq rfl (q_loadF rfl rfl rfl (stA (by assumption)) (by intro hc; omega) rfl) ?_
          refine qw_step rfl rfl rfl (q_call (CanCall.mk Tryz.call60) rfl (.k rfl (.k rfl (.nil))) (fun _ w hw => callq hw (sameTests_spec _ _ _ _ w (by exact stb_arg hw (by assumption)) (by exact stb_arg hw (by assumption))))) ?_
          refine zq rfl (q_not rfl rfl) (zq rfl (q_or2 rfl rfl rfl) (qw_end (post_then ?_)))
          refine cw_cond rfl (fun h6 => ?_) (fun h6 => ?_)
          · have h7 := hno2 fun e => by
              rw [e.1, e.2] at h6
              simp [ordL_self] at h6
            refine cw_seq (cw_region (zS rfl (q_assign rfl rfl) (sw_nil (post_then (cw_ret (post_blk_r (post_then_r (post_then_r (post_blk_r (post_blk_r (post_then_r (post_then_r (post_blk_r (post_then_r (post_ret1 rfl (resOk_tmp rfl) ?_)))))))))))))))
            exact fun w' hw => ⟨by rw [decide_eq_false h7], (Cl.sel (by exact .nil _)) _ hw⟩
          · have h7 : (nth x.rl j).tl = (nth y.rl j).tl ∧ (nth x.rl j).pl = (nth y.rl j).pl := by
              simp at h6
              exact ⟨h6.2, (ordL_eq _ _).1 h6.1⟩
            refine cw_skip (post_blk (post_then (cw_region (zS rfl (q_move rfl rfl) ?_))))
            refine zS rfl (q_add rfl rfl rfl (by intro hc; omega)) ?_
            refine zS rfl (q_assign rfl rfl) (sw_nil ?_)
            exact post_next (j + 1) (by exact .cons rfl (.cons rfl (.cons rfl (.cons rfl (.cons rfl (.cons rfl .nil)))))) (Cl.sel (by exact .take 0 rfl (.take 0 rfl (.take 0 rfl (.take 0 rfl (.nil _)))))) ⟨by omega, fun i hi => by
              rcases Nat.lt_or_ge i j with h8 | h8
              · exact hbj i h8
              · have : i = j := by omega
                subst this; exact h7⟩ (by omega)
        · have hj' : j = x.rl.length := by simp at h5; omega
          subst hj'
          refine cw_exit (post_then_x (post_then_x (post_blk_eq (post_blk (post_then (cw_region (zS rfl (q_move rfl rfl) ?_)))))))
          refine zS rfl (q_add rfl rfl rfl (by intro hc; omega)) ?_
          refine zS rfl (q_assign rfl rfl) (sw_nil ?_)
          exact post_next (k + 1) (by exact .cons rfl (.cons rfl (.cons rfl .nil))) (Cl.sel (by exact .take 2 rfl (.take 2 rfl (.nil _)))) ⟨by omega, fun i hi => by
            rcases Nat.lt_or_ge i k with h6 | h6
            · exact hbe i h6
            · have : i = k := by omega
              subst this
              rw [hx, hy]
              exact ⟨h4.1, rlP_iff.2 ⟨h4.2, hbj⟩⟩⟩ (by omega)
    · have hk' : k = a.bl.length := by simp at h2; omega
      have h4 : bkP a.bl = bkP b.bl := bkP_iff.2 ⟨hl, fun i hi => hbe i (by omega)⟩
      refine cw_exit (post_then_x (post_then_x (post_blk_eq (post_then (cw_seq (cw_region (zS rfl (q_assign rfl rfl) (sw_nil (post_then (cw_ret (post_ret1 rfl (resOk_tmp rfl) ?_)))))))))))
      exact fun w' hw => ⟨by rw [decide_eq_true h4], (Cl.sel (by exact .nil _)) _ hw⟩
end Go.Proofs.YtkmbliojafefdaaGreatDoor

set_option autoImplicit false
set_option maxRecDepth 100000
namespace Go.Proofs.YtkmbliojafefdaaGreatDoor
open Go.Sx
open Enc (enc val)
end Go.Proofs.YtkmbliojafefdaaGreatDoor

set_option autoImplicit false
set_option maxRecDepth 100000
namespace Go.Proofs.YtkmbliojafefdaaGreatDoor
open Go.Sx
open Enc (enc val)
def brP (u : Sp) : Bool := decide (u.word.size ≤ 12) && decide (u.pl.length ≤ 20)
def brf (l : List Sp) : Bool := (l.take 21).all brP
theorem nth_take {α : Type} [Inhabited α] {l : List α} {n k : Nat} (h : k < n) : nth (l.take n) k = nth l k := by
  by_cases h1 : k < l.length
  · rw [nth_get h1, nth_get (by rw [List.length_take]; omega), List.getElem_take]
  · have e : ∀ m : List α, m.length ≤ k → nth m k = default := fun m hm => by
      unfold nth
      simp [List.getElem?_eq_none hm]
    rw [e _ (by rw [List.length_take]; omega), e _ (by omega)]
theorem brief_spec (sv : Value) (l : List Sp) (hz : ∀ u ∈ l, u.word.size ≤ 9223372036854775807) (w : World) (hs : Stb w [] (RdL sv l)) (hp : Stb w [] fun w' => ∀ u ∈ l, SpIn u w') : Calls Tryz.prog 28 #[sv] w fun e w' => e = .returned (.bool (brf l)) ∧ Cl w [] [] w' := by
  have hL := rd_len hs.here
  refine calls_cw (vs := [_]) Tryz.func28 rfl Tryz.ntmps28 rfl (Cl.start0 w) (cw_seq (cw_region (zS rfl (q_assign rfl rfl) (sw_nil (post_then (cw_seq (cw_seq (cw_region (zS rfl (q_assign rfl rfl) (sw_nil (post_then (cw_block ?_))))))))))))
  refine cw_loop (S := Nat) (fun k => [(0, [], sv), (3, [], .int .i64 k)]) (fun _ => Cl w [] []) (fun k => k ≤ l.length ∧ k ≤ 21 ∧ ∀ i, i < k → brP (nth l i) = true) (fun k => l.length - k) 0 ⟨by omega, by omega, fun j hj => by omega⟩ (by exact .cons rfl (.cons rfl .nil)) (Cl.sel (by exact .nil _)) ?_
  rintro k ⟨hk, hk21, hbe⟩
  refine cw_seq (cw_seq (cw_region (zS rfl (q_move rfl rfl) (zS rfl (q_move rfl rfl) ?_))))
  refine zS rfl (q_len rfl (.k rfl (.nil)) (stA (by assumption))) ?_
  refine zS rfl (q_lss rfl rfl rfl) (zS rfl (q_move rfl rfl) (zS rfl (q_move rfl rfl) (zS rfl (q_leq rfl rfl rfl) (zS rfl (q_and2 rfl rfl rfl) (sw_nil (post_then ?_))))))
  refine cw_cond rfl (fun h2 => ?_) (fun h2 => ?_)
  · have hk' : k < l.length ∧ k < 21 := by simp at h2; omega
    have hx := rd_stb (hp.here _ (nth_mem hk'.1))
    have hzk := hz _ (nth_mem hk'.1)
    refine cw_skip (post_then (cw_seq (cw_block (cw_seq (cw_region (zS rfl (q_move rfl rfl) (zS rfl (q_move rfl rfl) ?_)))))))
    refine zS rfl (q_indexN rfl rfl rfl (stA (by assumption)) (by intro hc; omega)) ?_
    refine zS rfl (q_fieldEl rfl rfl (stA (by assumption)) (by intro hc; omega)) ?_
    refine zS rfl (q_loadF rfl rfl rfl (stA (by assumption)) (by intro hc; omega) rfl) ?_
    refine zS rfl (q_lenS rfl (.k rfl (.nil)) Tryz.underlying9) (zS rfl (q_gtr rfl rfl rfl) (zS rfl (q_move rfl rfl) (zS rfl (q_move rfl rfl) (zS rfl (q_move rfl rfl) ?_))))
    refine zS rfl (q_indexN rfl rfl rfl (stA (by assumption)) (by intro hc; omega)) ?_
    refine zS rfl (q_fieldEl rfl rfl (stA (by assumption)) (by intro hc; omega)) ?_
    refine zS rfl (q_loadF rfl rfl rfl (stA (by assumption)) (by intro hc; omega) rfl) ?_
    refine zS rfl (q_len rfl (.k rfl (.nil)) (stA (by assumption))) ?_
    refine zS rfl (q_gtr rfl rfl rfl) (zS rfl (q_or2 rfl rfl rfl) (sw_nil (post_then ?_)))
    refine cw_cond rfl (fun h3 => ?_) (fun h3 => ?_)
    · have e0 : brP (nth l k) = false := by
        unfold brP
        simp at h3 ⊢; omega
      have e1 : brf l = false := by
        unfold brf
        exact all_no (k := k) (by rw [List.length_take]; omega) (by rw [nth_take hk'.2]; exact e0)
      refine cw_seq (cw_region (zS rfl (q_assign rfl rfl) (sw_nil (post_then (cw_ret (post_blk_r (post_then_r (post_then_r (post_blk_r (post_then_r (post_ret1 rfl (resOk_tmp rfl) ?_)))))))))))
      exact fun w' hw => ⟨by rw [e1], (Cl.sel (by exact .nil _)) _ hw⟩
    · have e1 : brP (nth l k) = true := by
        unfold brP
        simp at h3 ⊢; omega
      refine cw_skip (post_blk (post_then (cw_region (zS rfl (q_move rfl rfl) ?_))))
      refine zS rfl (q_add rfl rfl rfl (by intro hc; omega)) ?_
      refine zS rfl (q_assign rfl rfl) (sw_nil ?_)
      exact post_next (k + 1) (by exact .cons rfl (.cons rfl .nil)) (Cl.sel (by exact .nil _)) ⟨by omega, by omega, fun i hi => by
        rcases Nat.lt_or_ge i k with h6 | h6
        · exact hbe i h6
        · have : i = k := by omega
          subst this; exact e1⟩ (by omega)
  · have hk' : k = l.length ∨ k = 21 := by simp at h2; omega
    have e1 : brf l = true := by
      unfold brf
      refine all_yes fun i hi => ?_
      rw [List.length_take] at hi
      rw [nth_take (by omega)]
      exact hbe i (by omega)
    refine cw_exit (post_then_x (post_then_x (post_blk_eq (post_then (cw_seq (cw_region (zS rfl (q_assign rfl rfl) (sw_nil (post_then (cw_ret (post_ret1 rfl (resOk_tmp rfl) ?_)))))))))))
    exact fun w' hw => ⟨by rw [e1], (Cl.sel (by exact .nil _)) _ hw⟩
theorem optE_val (l : List Sp) (p : List Pr) (o : Lrn) : optE l p o = if 3000 < l.length ∨ 1000 < p.length then 4 else if lexOk l && prsOk p && lrnB o then 0 else 2 := by
  have e1 : lexE l = if 3000 < l.length then 4 else if lexOk l then 0 else 2 := by unfold lexE lexOk; rfl
  have e2 : prsE p = if 1000 < p.length then 4 else if prsOk p then 0 else 2 := by unfold prsE prsOk; rfl
  unfold optE
  rw [e1, e2]
  by_cases h1 : 3000 < l.length <;> by_cases h2 : 1000 < p.length <;> cases h3 : lexOk l <;> cases h4 : prsOk p <;> cases h5 : lrnB o <;> simp [h1, h2] <;> decide
theorem shape_spec (sl sp : SlV) (l : List Sp) (p : List Pr) (o : Lrn) (hz : ∀ u ∈ l, u.word.size ≤ 1000 ∧ ∀ b ∈ u.pl, b.size ≤ 9223372036854775807) (hzp : ∀ u ∈ p, ∀ b ∈ u.pl, b.size ≤ 9223372036854775807) (w : World) (hT : Stb w [] Tab) (hs : Stb w [] (RdL sl.v l)) (hsi : Stb w [] fun w' => ∀ u ∈ l, SpIn u w') (hp : Stb w [] (RdL sp.v p)) (hpi : Stb w [] fun w' => ∀ u ∈ p, PrIn u w') :
    Calls Tryz.prog 30 #[sl.v, sp.v, val o] w fun e w' => e = .returned (.int .i64 (optE l p o)) ∧ Cl w [] [] w' := by
  have hL1 := rd_len hs.here
  have hL2 := rd_len hp.here
  refine calls_cw (vs := [_, _, _]) Tryz.func30 rfl Tryz.ntmps30 rfl (Cl.start0 w) (cw_seq (cw_region ?_))
  refine sw_x rfl rfl rfl (e_box rfl rfl rfl) (fun b5 => ?_)
  refine zS rfl (q_assign rfl rfl) (sw_nil (post_then (cw_seq (cw_seq (cw_region (zS rfl (q_move rfl rfl) ?_))))))
  refine zS rfl (q_len rfl (.k rfl (.nil)) (stA (by assumption))) ?_
  refine zS rfl (q_gtr rfl rfl rfl) (zS rfl (q_move rfl rfl) (zS rfl (q_move rfl rfl) ?_))
  refine zS rfl (q_len rfl (.k rfl (.nil)) (stA (by assumption))) ?_
  refine zS rfl (q_gtr rfl rfl rfl) (zS rfl (q_or2 rfl rfl rfl) (sw_nil (post_then ?_)))
  refine cw_cond rfl (fun h => ?_) (fun h => ?_)
  · have e1 : optE l p o = 4 := by rw [optE_val, if_pos (by simp at h; omega)]
    refine cw_seq (cw_region (zS rfl (q_assign rfl rfl) (sw_nil (post_then (cw_ret (post_then_r (post_ret1 rfl (resOk_tmp rfl) ?_)))))))
    exact fun w' hw => ⟨by rw [e1], (Cl.sel (by exact .nil _)) _ hw⟩
  · have e0 : optE l p o = if lexOk l && prsOk p && lrnB o then 0 else 2 := by rw [optE_val, if_neg (by simp at h; omega)]
    refine cw_skip (post_then (cw_seq (cw_seq (cw_region (zS rfl (q_move rfl rfl) (sw_step rfl rfl rfl (q_call (CanCall.mk Tryz.call51) rfl (.k rfl (.nil)) (fun _ w hw => callq hw (refLexicon_spec _ l hz w (stb_arg hw hT) (stb_arg hw hs) (stb_arg hw hsi)))) (zS rfl (q_not rfl rfl) (zS rfl (q_move rfl rfl) (zS rfl (q_move rfl rfl) (sw_step rfl rfl rfl (q_call (CanCall.mk Tryz.call22) rfl (.k rfl (.nil)) (fun _ w hw => callq hw (refPairs_spec _ p hzp w (stb_arg hw hp) (stb_arg hw hpi)))) (zS rfl (q_not rfl rfl) (zS rfl (q_or2 rfl rfl rfl) (zS rfl (q_move rfl rfl) (zS rfl (q_fieldAddr rfl rfl) ?_))))))))))))))
    refine zS rfl (q_loadC rfl rfl (by exact .head _) rfl) ?_
    refine zS rfl (q_lss rfl rfl rfl) (zS rfl (q_or2 rfl rfl rfl) (zS rfl (q_move rfl rfl) (zS rfl (q_fieldAddr rfl rfl) ?_)))
    refine zS rfl (q_loadC rfl rfl (by exact .head _) rfl) ?_
    refine zS rfl (q_gtr rfl rfl rfl) (zS rfl (q_or2 rfl rfl rfl) (zS rfl (q_move rfl rfl) (zS rfl (q_fieldAddr rfl rfl) ?_)))
    refine zS rfl (q_loadC rfl rfl (by exact .head _) rfl) ?_
    refine zS rfl (q_lss rfl rfl rfl) (zS rfl (q_or2 rfl rfl rfl) (zS rfl (q_move rfl rfl) (zS rfl (q_fieldAddr rfl rfl) ?_)))
    refine zS rfl (q_loadC rfl rfl (by exact .head _) rfl) ?_
    refine zS rfl (q_gtr rfl rfl rfl) (zS rfl (q_or2 rfl rfl rfl) (zS rfl (q_move rfl rfl) (zS rfl (q_fieldAddr rfl rfl) ?_)))
    refine zS rfl (q_loadC rfl rfl (by exact .head _) rfl) ?_
    refine zS rfl (q_lss rfl rfl rfl) (zS rfl (q_or2 rfl rfl rfl) (zS rfl (q_move rfl rfl) (zS rfl (q_fieldAddr rfl rfl) ?_)))
    refine zS rfl (q_loadC rfl rfl (by exact .head _) rfl) ?_
    refine zS rfl (q_gtr rfl rfl rfl) (zS rfl (q_or2 rfl rfl rfl) (sw_nil (post_then ?_)))
    refine cw_cond rfl (fun h2 => ?_) (fun h2 => ?_)
    · have e1 : optE l p o = 2 := by
        rw [e0, if_neg]
        unfold lrnB
        intro h3
        simp only [Bool.and_eq_true, decide_eq_true_eq] at h3
        simp [h3.1.1, h3.1.2] at h2
        omega
      refine cw_seq (cw_region (zS rfl (q_assign rfl rfl) (sw_nil (post_then (cw_ret (post_then_r (post_ret1 rfl (resOk_tmp rfl) ?_)))))))
      exact fun w' hw => ⟨by rw [e1], (Cl.sel (by exact .nil _)) _ hw⟩
    · have e1 : optE l p o = 0 := by
        rw [e0, if_pos]
        unfold lrnB
        simp only [Bool.and_eq_true, decide_eq_true_eq]
        simp at h2
        exact ⟨⟨h2.1.1.1.1.1.1.1, h2.1.1.1.1.1.1.2⟩, by omega⟩
      refine cw_skip (post_then (cw_seq (cw_region (zS rfl (q_assign rfl rfl) (sw_nil (post_then (cw_ret (post_ret1 rfl (resOk_tmp rfl) ?_))))))))
      exact fun w' hw => ⟨by rw [e1], (Cl.sel (by exact .nil _)) _ hw⟩
theorem brf_z {l : List Sp} (hl : l.length ≤ 20) (h : brf l = true) : ∀ u ∈ l, u.word.size ≤ 12 ∧ u.pl.length ≤ 20 := fun u hu => by
  unfold brf at h
  rw [List.take_of_length_le (by omega), List.all_eq_true] at h
  have := h u hu
  unfold brP at this
  simpa using this
theorem abc_few {l : List Sp} {p : List Pr} {n : Nat} (hl : l.length ≤ n) (h : ∀ u ∈ l, u.word.size ≤ 12) : ((entC p l).flatMap evOf).length ≤ n * 12 ∧ (abcC ((entC p l).flatMap evOf)).length ≤ n * 12 := by
  have h1 := evs_len (p := p) (l := l) (n := 12) fun u hu => by have := h u hu; have := runes_len_le u.word; omega
  have h2 := abc_le ((entC p l).flatMap evOf)
  have h3 : l.length * 12 ≤ n * 12 := Nat.mul_le_mul_right 12 hl
  omega
theorem lawLex_len {l : List Sp} {most : Int} (h : lawLex l most = true) : (l.length : Int) ≤ most ∨ 3000 < l.length := by
  unfold lawLex at h
  simp only [Bool.and_eq_true, Bool.not_eq_true', Bool.or_eq_false_iff, Bool.and_eq_false_iff, decide_eq_false_iff_not] at h
  omega
theorem optE_long {l : List Sp} {p : List Pr} {o : Lrn} (h : optE l p o = 0) : l.length ≤ 3000 ∧ p.length ≤ 1000 := by
  rw [optE_val] at h
  split at h
  · cases h
  · omega
end Go.Proofs.YtkmbliojafefdaaGreatDoor

set_option autoImplicit false
set_option maxRecDepth 100000
namespace Go.Proofs.YtkmbliojafefdaaGreatDoor
open Go.Sx
open Enc (enc val)
theorem learns_spec (sl sp : SlV) (l : List Sp) (p : List Pr) (o : Lrn) (hz : ∀ u ∈ l, u.word.size ≤ 9223372036854775807) (w : World) (hT : Stb w [] Tab) (hs : Stb w [] (RdL sl.v l)) (hsi : Stb w [] fun w' => ∀ u ∈ l, SpIn u w') (hp : Stb w [] (RdL sp.v p)) (hpi : Stb w [] fun w' => ∀ u ∈ p, PrIn u w') :
    Calls Tryz.prog 5 #[sl.v, sp.v, val o] w fun e w' => e = .returned (.bool true) ∧ Cl w [] [] w' := by
  have hL1 := rd_len hs.here
  have hL2 := rd_len hp.here
  refine calls_cw (vs := [_, _, _]) Tryz.func5 rfl Tryz.ntmps5 rfl (Cl.start0 w) (cw_seq (cw_region ?_))
  refine sw_x rfl rfl rfl (e_box rfl rfl rfl) (fun b5 => ?_)
  refine zS rfl (q_assign rfl rfl) (sw_nil (post_then (cw_seq (cw_seq (cw_region (zS rfl (q_move rfl rfl) (sw_step rfl rfl rfl (q_call (CanCall.mk Tryz.call27) rfl (.k rfl (.k rfl (.nil))) (fun _ w hw => callq hw (lawLex_spec _ l 10 hz w (stb_arg hw hs) (stb_arg hw hsi)))) (zS rfl (q_not rfl rfl) (zS rfl (q_move rfl rfl) (zS rfl (q_move rfl rfl) (sw_step rfl rfl rfl (q_call (CanCall.mk Tryz.call28) rfl (.k rfl (.nil)) (fun _ w hw => callq hw (brief_spec _ l hz w (stb_arg hw hs) (stb_arg hw hsi)))) (zS rfl (q_not rfl rfl) (zS rfl (q_or2 rfl rfl rfl) (zS rfl (q_move rfl rfl) (zS rfl (q_move rfl rfl) (sw_step rfl rfl rfl (q_call (CanCall.mk Tryz.call17) rfl (.k rfl (.nil)) (fun _ w hw => callq hw (lawPairs_spec _ p w (stb_arg hw hp) (stb_arg hw hpi)))) (zS rfl (q_not rfl rfl) (zS rfl (q_or2 rfl rfl rfl) (sw_nil (post_then ?_))))))))))))))))))))
  refine cw_cond rfl (fun h => ?_) (fun h => ?_)
  · refine cw_seq (cw_region ?_)
    refine sw_step rfl rfl rfl (q_call (CanCall.mk Tryz.call19) rfl (.nil) (fun _ w hw => callq hw (known_spec w (stb_arg hw (by assumption))))) ?_
    refine zS rfl (q_assign rfl rfl) (sw_nil (post_then (cw_ret (post_then_r (post_ret1 rfl (resOk_tmp rfl) ?_)))))
    exact fun w' hw => ⟨rfl, (Cl.sel (by exact .nil _)) _ hw⟩
  · have h1 : lawLex l 10 = true ∧ brf l = true ∧ lawPrs p = true := by
      simp at h; exact ⟨h.1.1, h.1.2, h.2⟩
    obtain ⟨c1, c2, c3⟩ := h1
    have z1 := lawLex_z c1
    have z2 := lawPrs_z c3
    have z3 := lawLex_len c1
    have hfew : optE l p o = 0 → l.length ≤ 10 ∧ (∀ u ∈ l, u.word.size ≤ 12 ∧ u.pl.length ≤ 20) := fun h0 => by
      have := optE_long h0
      have hl : l.length ≤ 10 := by omega
      exact ⟨hl, brf_z (by omega) c2⟩
    have hsz : ∀ u ∈ l, u.word.size ≤ 1000000 := fun u hu => by have := (z1 u hu).1; omega
    refine cw_skip (post_then (cw_seq (cw_region (zS rfl (q_move rfl rfl) (zS rfl (q_move rfl rfl) ?_)))))
    refine zS rfl (q_loadA rfl rfl (by exact .head _) rfl) ?_
    refine sw_x rfl rfl rfl (e_call (CanCall.mk Tryz.call29) rfl (.k rfl (.k rfl (.k rfl (.nil)))) (fun w1 hw => learn_spec sl sp l p o hsz (fun h0 => by have := (abc_few (p := p) (hfew h0).1 fun u hu => ((hfew h0).2 u hu).1).2; omega) w1 (stb_arg hw hT) (stb_arg hw hs) (stb_arg hw hsi) (stb_arg hw hp) (stb_arg hw hpi))) (fun b => ?_)
    refine sw_imp fun hb => (zS rfl (q_move rfl rfl) (zS rfl (q_extract rfl rfl rfl) (zS rfl (q_extract rfl rfl rfl) ?_)))
    refine sw_x rfl rfl rfl (e_alloc rfl) (fun b7 => ?_)
    refine sw_eff0 rfl rfl (e_store (i := 0) rfl rfl rfl rfl rfl rfl rfl rfl) (zS rfl (q_assign rfl rfl) (sw_nil (post_then (cw_seq (cw_seq (cw_region (zS rfl (q_move rfl rfl) (zS rfl (q_move rfl rfl) ?_))))))))
    refine zS rfl (q_loadA rfl rfl (by exact .tail _ (.tail _ (.head _))) rfl) ?_
    refine sw_step rfl rfl rfl (q_call (CanCall.mk Tryz.call30) rfl (.k rfl (.k rfl (.k rfl (.nil)))) (fun _ w hw => callq hw (shape_spec sl sp l p o (fun u hu => ⟨by have := (z1 u hu).1; omega, fun b hb => by have := (z1 u hu).2.2 b hb; omega⟩) (fun u hu b hb => by have := (z2 u hu).2 b hb; omega) w (stb_arg hw hT) (stb_arg hw hs) (stb_arg hw hsi) (stb_arg hw hp) (stb_arg hw hpi)))) ?_
    refine zS rfl (q_assign rfl rfl) (sw_nil (post_then (cw_seq (cw_region (zS rfl (q_move rfl rfl) (zS rfl (q_neq rfl rfl rfl) (sw_nil (post_then ?_))))))))
    refine cw_cond rfl (fun h2 => ?_) (fun h2 => ?_)
    · have e1 : b.bl = [] := by
        unfold learnP at hb
        rw [if_neg (by simpa using h2)] at hb
        unfold bkP at hb
        simpa using hb
      refine cw_seq (cw_region (zS rfl (q_move rfl rfl) (zS rfl (q_move rfl rfl) (zS rfl (q_eql rfl rfl rfl) (zS rfl (q_move rfl rfl) (zS rfl (q_fieldAddr rfl rfl) ?_))))))
      refine zS rfl (q_loadC rfl rfl (by exact .head _) rfl) ?_
      refine zS rfl (q_len (xs := b.bl) rfl (.k rfl (.nil)) (fun w1 h1 => (rd_frz (R := BkIn b) h1 (by exact .tail _ (.head _))).1)) ?_
      refine zS rfl (q_eql rfl rfl rfl) (zS rfl (q_and2 rfl rfl rfl) (zS rfl (q_move rfl rfl) ?_))
      refine sw_step rfl rfl rfl (q_call (CanCall.mk Tryz.call19) rfl (.nil) (fun _ w hw => callq hw (known_spec w (stb_arg hw (by assumption))))) ?_
      refine zS rfl (q_and2 rfl rfl rfl) (zS rfl (q_assign rfl rfl) (sw_nil (post_then (cw_ret (post_then_r (post_ret1 rfl (resOk_tmp rfl) ?_))))))
      exact fun w' hw => ⟨by simp [e1], (Cl.sel (by exact .nil _)) _ hw⟩
    · have h0 : optE l p o = 0 := by simpa using h2
      obtain ⟨f1, f2⟩ := hfew h0
      obtain ⟨o1, o2, o3⟩ := optE_zero h0
      obtain ⟨y1, y2, y3, y4, y5⟩ := prsE_zero o2
      have o4 := (lexE_zero2 o1).2
      rw [h0]
      have hbo := learn_ok h0 hb
      refine cw_skip (post_then (cw_seq ?_))
      refine cw_reb (A := [blk b7 [b.b.v] 45, blk b5 (enc o) 40]) (F := [Sx.frz (BkIn b)]) (fun w h => (Cl.sel (by exact .take 0 rfl (.take 1 rfl (.take 0 rfl (.nil _))))) _ h) fun w1 bs R => ?_
      have hT1 := R.stb hT
      have hb1 := R.frz (R := BkIn b) (by exact .head _)
      refine cw_region_a (Cl w1 bs [blk b7 [b.b.v] 45, blk b5 (enc o) 40]) [] mixed_Tryz ?_
      refine zp 0 rfl (q_move rfl rfl) ?_
      refine zp 1 rfl (q_eql rfl rfl rfl) ?_
      refine zp 2 rfl (q_move rfl rfl) ?_
      refine zk 3 (Cl.sel (by exact .take 0 rfl (.take 0 rfl (.nil _)))) rfl (q_loadA rfl rfl (by exact .head _) rfl) ?_
      refine zp 4 rfl (q_move rfl rfl) ?_
      refine zp 5 rfl (q_move rfl rfl) ?_
      refine zk 6 (Cl.sel (by exact .take 0 rfl (.take 0 rfl (.nil _)))) rfl (q_loadA rfl rfl (by exact .tail _ (.head _)) rfl) ?_
      refine aw_xc 7 (by kernel_rfl) rfl rfl (by first | (simp [AllT]; done) | simp [AllT, *]) rfl rfl (e_callc (CanCall.mk Tryz.call32) rfl (.k rfl (.k rfl (.k rfl (.nil)))) (fun w2 hw => refLearn_spec sl sp l p o o3 (by omega) (by omega) y2 (fun x hx => by have := y3 x hx; omega) (fun u hu => ⟨(o4 u hu).1, by have := (f2 u hu).1; omega, by have := (f2 u hu).2; omega⟩) w2 (stb_arg hw hT1) (stb_arg hw (R.stb hs)) (stb_arg hw (R.stb hsi)) (stb_arg hw (R.stb hp)) (stb_arg hw (R.stb hpi)))) (by intro hb; exact fun _ w h => (Cl.sel (by exact .take 1 rfl (.take 1 rfl (.nil _)))) w h.2) (fun b2 => ?_)
      refine aw_imp fun hb2 => ?_
      have hbe : bkP b.bl = bkP b2.bl := by
        rw [hb, hb2, ← ent_ev]
        unfold learnP
        rw [if_pos h0]; rfl
      clear hb hb2
      refine aw_qc 8 (by kernel_rfl) rfl rfl (by first | (simp [AllT]; done) | simp [AllT, *]) rfl rfl (q_call (CanCall.mk Tryz.call31) rfl (.k rfl (.k rfl (.nil))) (fun _ w2 hw => callq hw (sameBooks_spec b b2 w2 (stb_arg hw hb1) (stb_frz hw (by exact .head _))))) (by intro hb; exact (Cl.sel (by exact .take 1 rfl (.take 1 rfl (.nil _))))) ?_
      refine zp 9 rfl (q_and2 rfl rfl rfl) ?_
      refine zp 10 rfl (q_move rfl rfl) ?_
      refine zk 11 (Cl.sel (by exact .take 1 rfl (.take 1 rfl (.nil _)))) rfl (q_loadA rfl rfl (by exact .head _) rfl) ?_
      refine aw_qc 12 (by kernel_rfl) rfl rfl (by first | (simp [AllT]; done) | simp [AllT, *]) rfl rfl (q_call (CanCall.mk Tryz.call33) rfl (.k rfl (.nil)) (fun _ w hw => callq hw (validBook_spec b w (stb_arg hw hb1)))) (by intro hb; exact (Cl.sel (by exact .take 1 rfl (.take 1 rfl (.nil _))))) ?_
      refine zp 13 rfl (q_and2 rfl rfl rfl) ?_
      refine zp 14 rfl (q_move rfl rfl) ?_
      refine aw_qc 15 (by kernel_rfl) rfl rfl (by first | (simp [AllT]; done) | simp [AllT, *]) rfl rfl (q_call (CanCall.mk Tryz.call19) rfl (.nil) (fun _ w hw => callq hw (known_spec w (stb_arg hw (by assumption))))) (by intro hb; exact (Cl.sel (by exact .take 1 rfl (.take 1 rfl (.nil _))))) ?_
      refine zp 16 rfl (q_and2 rfl rfl rfl) ?_
      refine zp 17 rfl (q_assign rfl rfl) ?_
      refine aw_end (by kernel_rfl) ?_
      refine post_then (cw_ret (post_ret1 rfl (resOk_tmp rfl) ?_))
      refine fun w' hw => ⟨?_, R.cl ((Cl.sel (by exact .nil _)) _ hw)⟩
      rw [decide_eq_true hbe, hbo]; rfl
end Go.Proofs.YtkmbliojafefdaaGreatDoor

set_option autoImplicit false
namespace Go.Proofs.YtkmbliojafefdaaGreatDoor.letterLearns
open Go.ChangeShapes Go.WideShapes Go.ChangeAt Go.RowKit Go.Sx
theorem own : ownKnob Tryz.prog.godebug = none := by kernel_rfl
theorem laid : laidOutB Tryz.prog = true := by kernel_rfl
theorem rowed : ∀ t ∈ Tryz.f5.params.toList, Tryz.prog.readableRec t = true ∧ t < Tryz.prog.types.size := by
  rw [Tryz.params5]
  intro t ht
  change t ∈ [38, 22, 40] at ht
  simp only [List.mem_cons, List.not_mem_nil, or_false] at ht
  rcases ht with rfl | rfl | rfl <;> exact ⟨by kernel_rfl, of_decide_eq_true (by kernel_rfl)⟩
set_option maxHeartbeats 1000000 in
set_option maxRecDepth 100000 in
theorem lifted (os : Os) (started : os.Started) (H : Type) (enc : TypeId × Value → H) :
    ReturnsInHanded {} Tryz.checked os 5 .any (fun w args => (Rows.letterLearnsSpec.pre enc Tryz.prog Tryz.f5 Rows.letterLearnsRow.domain false w args ∧ laidMetH Tryz.prog Rows.letterLearnsRow.laid w) ∧ sizedMet enc Tryz.prog Tryz.f5 (OpenSpec.ofChange Rows.letterLearnsSpec) false w args)
      (Rows.letterLearnsSpec.post enc Tryz.prog Tryz.f5 false true false false) := by
  refine returnsInHanded_of_change_and (C := Tryz.checked) (X := fun w _ => laidMetH Tryz.prog Rows.letterLearnsRow.laid w) (fun _ _ _ hh h => h.of_heap hh) own started (by kernel_rfl) Tryz.func5
    (ChangeSpec.witness_shaped (enc := enc) (C := Tryz.checked) (os := os) (X := fun w _ => laidMetH Tryz.prog Rows.letterLearnsRow.laid w) false (World.laidAll Tryz.prog os Rows.letterLearnsRow.laid) #[.slice none 0 0, .slice none 0 0, .agg #[.int .i64 0, .int .i64 0, .int .i64 0]] 8 (World.laidAll_os _ _ _)
      (World.shaped_of_ZipB (by kernel_rfl) (by kernel_rfl)) (by kernel_rfl) (by kernel_rfl) (by kernel_rfl)
      (by rw [MakeChecks.laidMetH_plain _ _ _ (by kernel_rfl)]; exact laidMet_laidAll _ (by kernel_rfl) (by kernel_rfl))) ?_
  intro W base args ds gs before hval0 hW hcnd _ hL _
  have hval : ∀ (j : Nat) t v, Tryz.f5.params[j]? = some t → args[j]? = some v → Value.okWide Tryz.prog W .any base t v := hval0
  have hW' := hW
  have hlt := hW.lt
  obtain ⟨p, q, hA0, hV, rfl, hfz, hnd⟩ := hW
  have hA : DataW.TrodAll enc Tryz.prog W 0 (fun _ => true) true Tryz.f5.params.toList args.toList ds p := hA0
  have hkeep := fun (W' : World) (hb : Below W.heap.size W W') (sp : Nat → Bool) (hsp : ∀ x ∈ p, sp x.block = true) => trodAll_keep laid hb sp rowed hA (fun x hx => hlt x (by simp [hx])) hsp
  rw [Tryz.params5] at hA hval
  obtain ⟨v0, vs0, d0, ds0, p0, q0, hargs, rfl, rfl, h0, r0⟩ := trodAll_cons hA
  obtain ⟨v1, vs1, d1, ds1, p1, q1, rfl, rfl, rfl, h1, r1⟩ := trodAll_cons r0
  obtain ⟨v2, vs2, d2, ds2, p2, q2, rfl, rfl, rfl, h2, r2⟩ := trodAll_cons r1
  obtain ⟨rfl, rfl, rfl⟩ := trodAll_nil r2
  obtain rfl : args = #[v0, v1, v2] := by cases args; simp_all
  obtain ⟨rfl, rfl⟩ := trodVars_none hV
  obtain ⟨a0, b0, rfl, k0⟩ := open_deep (hval 0 38 v0 rfl rfl) h0
  obtain ⟨a1, b1, rfl, k1⟩ := open_deep (hval 1 22 v1 rfl rfl) h1
  obtain ⟨a2, b2, rfl, k2⟩ := open_deep (hval 2 40 v2 rfl rfl) h2
  obtain rfl := k2.here
  clear hA0 hval0
  rw [MakeChecks.laidMetH_plain _ _ _ (by kernel_rfl)] at hL
  have hT : Stb W [] Tab := tab_stb (utf8Tabs_of_readsT (U8Types.of196 Tryz.lays196) ⟨by kernel_rfl, by kernel_rfl, by kernel_rfl, by kernel_rfl, by kernel_rfl, by kernel_rfl, by kernel_rfl⟩ (Pinned.utf8First_eq ▸ Lib.laidMet.reads hL (.tail _ (.head _))) (Lib.laidMet.reads hL (.head _)))
  refine (learns_spec a0 a1 b0 b1 a2 (sp_size k0.here) W hT (stb_flat (fun a b w h => h.1) k0) (sp_all k0) (stb_flat (fun a b w h => h.1) k1) (pr_all k1)).mono fun e W' ⟨he, hc⟩ => ?_
  subst he
  have hb := below_of hc
  exact ⟨_, rfl, _, _, _, [], _, [], hW', trodAll_cons_mk (shut_bool Tryz.underlying4 _) trodAll_mk0, hkeep W' hb _ (fun x hx => by simpa using hlt x (by simpa using hx)), rfl, hb.frame _, fun h => by cases h⟩
end Go.Proofs.YtkmbliojafefdaaGreatDoor.letterLearns

set_option autoImplicit false
namespace Go.Proofs.YtkmbliojafefdaaGreatDoor.letterLearns
open Go.Sx
theorem named : Tryz.prog.funcNamed "declaim/declaimlaw03.LetterLearns" = some 5 := by kernel_rfl
theorem inst : Tryz.f5.isInstance Tryz.prog Rows.letterLearnsRow.origin Rows.letterLearnsRow.targs := of_decide_eq_true (by kernel_rfl)
theorem wrap : Tryz.f5.isWrapper Tryz.prog Rows.letterLearnsRow.wrapper Rows.letterLearnsRow.mainSum := by unfold Func.isWrapper; first | (rw [if_pos (by decide +kernel)]; kernel_rfl) | (rw [if_neg (by decide +kernel)]; exact ⟨rfl, rfl⟩)
theorem over : Rows.letterLearnsRow.holds Tryz.pinned (OpenSpec.ofChange Rows.letterLearnsSpec) :=
  OpenClaim.holds_of_wide 5 Tryz.f5 rfl rfl rfl rfl rfl rfl rfl ⟨rfl, rfl, rfl, rfl, rfl⟩ rfl rfl rfl rfl rfl named Tryz.func5 closed inst wrap
    (fun os started H enc _ => lifted os started H enc)
end Go.Proofs.YtkmbliojafefdaaGreatDoor.letterLearns
