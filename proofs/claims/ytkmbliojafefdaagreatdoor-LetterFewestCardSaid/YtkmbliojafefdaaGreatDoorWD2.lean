import Derived.Test.YtkmbliojafefdaaGreatDoorWD1
import Derived.Shelf.Strings.OnBuilder
import Derived.Shelf.Small.Strs
import Derived.Shelf.Unicode.ValidAny
import Derived.Test.YtkmbliojafefdaaGreatDoorProg
import Derived.WideKeyRuns
import Derived.ChangeKeysEq

set_option autoImplicit false
set_option linter.unusedSimpArgs false
set_option linter.unusedVariables false
set_option maxRecDepth 100000
namespace Go.Proofs.YtkmbliojafefdaaGreatDoor
open Go.Sx
open Enc (enc val)
def idxP {α : Type} (p : α → Bool) (xs : List α) : Int := match xs.findIdx? p with
  | some i => i
  | none => -1
theorem idxP_at {α : Type} [Inhabited α] {p : α → Bool} {xs : List α} {k : Nat} (hk : k < xs.length) (h : ∀ j, j < k → p (nth xs j) = false) (hp : p (nth xs k) = true) : idxP p xs = k := by
  have : xs.findIdx? p = some k := by
    rw [List.findIdx?_eq_some_iff_getElem]
    refine ⟨hk, by rw [← nth_get hk]; exact hp, fun j hj => ?_⟩
    have := h j hj
    rw [nth_get (by omega)] at this
    simp [this]
  simp [idxP, this]
theorem idxP_none {α : Type} [Inhabited α] {p : α → Bool} {xs : List α} (h : ∀ j, j < xs.length → p (nth xs j) = false) : idxP p xs = -1 := by
  have : xs.findIdx? p = none := by
    rw [List.findIdx?_eq_none_iff]
    intro x hx
    obtain ⟨i, hi, rfl⟩ := List.getElem_of_mem hx
    have := h i hi
    rw [nth_get hi] at this
    exact this
  simp [idxP, this]
theorem idxP_any {α : Type} {p : α → Bool} {xs : List α} : decide (0 ≤ idxP p xs) = xs.any p := by
  unfold idxP
  cases h : xs.findIdx? p with
  | none =>
    rw [List.findIdx?_eq_none_iff] at h
    have : xs.any p = false := by rw [List.any_eq_false]; intro x hx; simp [h x hx]
    rw [this]; rfl
  | some i =>
    obtain ⟨hi, hp, _⟩ := List.findIdx?_eq_some_iff_getElem.1 h
    have : xs.any p = true := List.any_eq_true.2 ⟨_, List.getElem_mem hi, hp⟩
    rw [this]; simp
theorem nth_mem {α : Type} [Inhabited α] {l : List α} {i : Nat} (h : i < l.length) : nth l i ∈ l := by rw [nth_get h]; exact List.getElem_mem h
/-- A function value that answers p of the elements of xs. -/
def PredL (P : Program) {α : Type} [Enc α] (g : FuncId) (cap : Array Value) (p : α → Bool) (R : World → Prop) (xs : List α) : Prop := ∀ x ∈ xs, ∀ w, R w → Calls P g ([val x].toArray ++ cap) w fun e w' => e = .returned (.bool (p x)) ∧ Cl w [] [] w'
theorem hasPr_index (sv : Value) (xs : List Pr) (g : FuncId) (cap : Array Value) (p : Pr → Bool) (R : World → Prop) (w : World) (hs : Stb w [] (RdL sv xs)) (hR : Stb w [] R) (hgc : CanCall Tryz.prog g) (hg : PredL Tryz.prog g cap p R xs) :
    Calls Tryz.prog 143 #[sv, .func (.func g) #[] cap] w fun e w' => e = .returned (.int .i64 (idxP p xs)) ∧ Cl w [] [] w' := by
  have hL := rd_len hs.here
  refine calls_cw (vs := [_, _]) Tryz.func143 rfl Tryz.ntmps143 rfl (Cl.start0 w) (cw_seq (cw_region (sr rfl rfl rfl ((q_assign rfl rfl)) (sw_nil (post_then (cw_seq (cw_seq (cw_region (sr rfl rfl rfl ((q_move rfl rfl)) ?_)))))))))
  refine sr rfl rfl rfl ((q_len rfl (.cons rfl inferInstance (.nil)) (by exact fun w hw => Stb.cl (by assumption) hw))) ?_
  refine sr rfl rfl rfl ((q_move rfl rfl)) (sw_nil (post_then (cw_block ?_)))
  refine cw_loop (S := Nat) (fun k => [(0, [], sv), (1, [], .func (.func g) #[] cap), (7, [], .int .i64 xs.length), (8, [], .int .i64 k)]) (fun _ => Cl w [] []) (fun k => k ≤ xs.length ∧ ∀ j, j < k → p (nth xs j) = false) (fun k => xs.length - k) 0 ⟨by omega, fun j hj => by omega⟩ (by exact .cons rfl (.cons rfl (.cons rfl (.cons rfl .nil)))) (fun _ h => h) ?_
  rintro k ⟨hk, hbe⟩
  refine cw_seq (cw_region (sr rfl rfl rfl ((q_lss rfl rfl rfl)) (sw_nil (post_then (cw_seq ?_)))))
  refine cw_cond rfl (fun h => ?_) (fun h => ?_)
  · skip
    have hk' : k < xs.length := by simp only [decide_eq_true_eq] at h; omega
    refine cw_skip (post_then (cw_seq (cw_block (cw_seq (cw_region (sr rfl rfl rfl ((q_move rfl rfl)) (sr rfl rfl rfl ((q_assign rfl rfl)) (sw_nil (post_then (cw_seq (cw_region (sr rfl rfl rfl ((q_move rfl rfl)) (sr rfl rfl rfl ((q_move rfl rfl)) (sr rfl rfl rfl ((q_move rfl rfl)) ?_))))))))))))))
    refine sr rfl rfl rfl ((q_indexN rfl rfl rfl (by exact fun w hw => Stb.cl (by assumption) hw) (by intro hc; omega))) ?_
    refine sr rfl rfl rfl ((q_loadEl rfl rfl rfl (by exact fun w hw => Stb.cl (by assumption) hw) (by intro hc; omega))) ?_
    refine sw_step rfl rfl rfl (q_callv hgc rfl rfl (.cons rfl inferInstance (.nil)) (fun _ w' hw => callq hw (hg (nth xs k) (nth_mem hk') w' (hR.cl hw)))) (sw_nil (post_then ?_))
    refine cw_cond rfl (fun h2 => ?_) (fun h2 => ?_)
    · skip
      refine cw_seq (cw_region (sr rfl rfl rfl ((q_move rfl rfl)) (sr rfl rfl rfl ((q_assign rfl rfl)) (sw_nil (post_then (cw_ret (post_blk_r (post_then_r (post_then_r (post_blk_r (post_then_r (post_ret1 rfl (resOk_tmp rfl) ?_))))))))))))
      exact fun w' hw => ⟨by rw [idxP_at hk' hbe h2], hw⟩
    · skip
      refine cw_skip (post_blk (post_then (cw_region ?_)))
      refine sr rfl rfl rfl ((q_add rfl rfl rfl (by intro hc; omega))) ?_
      refine sr rfl rfl rfl ((q_move rfl rfl)) (sw_nil ?_)
      refine post_next (k + 1) (by exact .cons rfl (.cons rfl (.cons rfl (.cons rfl .nil)))) (fun _ h => h) ⟨by omega, fun j hj => ?_⟩ (by omega)
      by_cases hjk : j = k
      · rw [hjk]; exact h2
      · exact hbe j (by omega)
  · skip
    have hk' : k = xs.length := by simp only [decide_eq_false_iff_not] at h; omega
    subst hk'
    refine cw_exit (post_then_x (post_then_x (post_blk_eq (post_then (cw_seq (cw_region (sr rfl rfl rfl ((q_assign rfl rfl)) (sw_nil (post_then (cw_ret (post_ret1 rfl (resOk_tmp rfl) ?_)))))))))))
    exact fun w' hw => ⟨by rw [idxP_none hbe], hw⟩
theorem hasPr_spec (sv : Value) (xs : List Pr) (g : FuncId) (cap : Array Value) (p : Pr → Bool) (R : World → Prop) (w : World) (hs : Stb w [] (RdL sv xs)) (hR : Stb w [] R) (hgc : CanCall Tryz.prog g) (hg : PredL Tryz.prog g cap p R xs) :
    Calls Tryz.prog 106 #[sv, .func (.func g) #[] cap] w fun e w' => e = .returned (.bool (xs.any p)) ∧ Cl w [] [] w' := by
  refine calls_cw (vs := [_, _]) Tryz.func106 rfl Tryz.ntmps106 rfl (Cl.start0 w) (cw_seq (cw_region (sr rfl rfl rfl ((q_assign rfl rfl)) (sw_nil (post_then (cw_seq (cw_region (sr rfl rfl rfl ((q_move rfl rfl)) (sr rfl rfl rfl ((q_move rfl rfl)) ?_)))))))))
  refine sw_step rfl rfl rfl (q_call (CanCall.mk Tryz.call143) rfl (.cons rfl inferInstance (.cons rfl inferInstance (.nil))) (fun _ w hw => callq hw (hasPr_index _ _ _ _ _ _ w (by exact stb_arg hw (by assumption)) (stb_arg hw hR) hgc hg))) ?_
  refine sr rfl rfl rfl ((q_geq rfl rfl rfl)) (sr rfl rfl rfl ((q_assign rfl rfl)) (sw_nil (post_then (cw_ret (post_ret1 rfl (resOk_tmp rfl) ?_)))))
  exact fun w' hw => ⟨by rw [idxP_any], hw⟩
theorem hasJnt_index (sv : Value) (xs : List Jnt) (g : FuncId) (cap : Array Value) (p : Jnt → Bool) (R : World → Prop) (w : World) (hs : Stb w [] (RdL sv xs)) (hR : Stb w [] R) (hgc : CanCall Tryz.prog g) (hg : PredL Tryz.prog g cap p R xs) :
    Calls Tryz.prog 88 #[sv, .func (.func g) #[] cap] w fun e w' => e = .returned (.int .i64 (idxP p xs)) ∧ Cl w [] [] w' := by
  have hL := rd_len hs.here
  refine calls_cw (vs := [_, _]) Tryz.func88 rfl Tryz.ntmps88 rfl (Cl.start0 w) (cw_seq (cw_region (sr rfl rfl rfl ((q_assign rfl rfl)) (sw_nil (post_then (cw_seq (cw_seq (cw_region (sr rfl rfl rfl ((q_move rfl rfl)) ?_)))))))))
  refine sr rfl rfl rfl ((q_len rfl (.cons rfl inferInstance (.nil)) (by exact fun w hw => Stb.cl (by assumption) hw))) ?_
  refine sr rfl rfl rfl ((q_move rfl rfl)) (sw_nil (post_then (cw_block ?_)))
  refine cw_loop (S := Nat) (fun k => [(0, [], sv), (1, [], .func (.func g) #[] cap), (7, [], .int .i64 xs.length), (8, [], .int .i64 k)]) (fun _ => Cl w [] []) (fun k => k ≤ xs.length ∧ ∀ j, j < k → p (nth xs j) = false) (fun k => xs.length - k) 0 ⟨by omega, fun j hj => by omega⟩ (by exact .cons rfl (.cons rfl (.cons rfl (.cons rfl .nil)))) (fun _ h => h) ?_
  rintro k ⟨hk, hbe⟩
  refine cw_seq (cw_region (sr rfl rfl rfl ((q_lss rfl rfl rfl)) (sw_nil (post_then (cw_seq ?_)))))
  refine cw_cond rfl (fun h => ?_) (fun h => ?_)
  · skip
    have hk' : k < xs.length := by simp only [decide_eq_true_eq] at h; omega
    refine cw_skip (post_then (cw_seq (cw_block (cw_seq (cw_region (sr rfl rfl rfl ((q_move rfl rfl)) (sr rfl rfl rfl ((q_assign rfl rfl)) (sw_nil (post_then (cw_seq (cw_region (sr rfl rfl rfl ((q_move rfl rfl)) (sr rfl rfl rfl ((q_move rfl rfl)) (sr rfl rfl rfl ((q_move rfl rfl)) ?_))))))))))))))
    refine sr rfl rfl rfl ((q_indexN rfl rfl rfl (by exact fun w hw => Stb.cl (by assumption) hw) (by intro hc; omega))) ?_
    refine sr rfl rfl rfl ((q_loadEl rfl rfl rfl (by exact fun w hw => Stb.cl (by assumption) hw) (by intro hc; omega))) ?_
    refine sw_step rfl rfl rfl (q_callv hgc rfl rfl (.cons rfl inferInstance (.nil)) (fun _ w' hw => callq hw (hg (nth xs k) (nth_mem hk') w' (hR.cl hw)))) (sw_nil (post_then ?_))
    refine cw_cond rfl (fun h2 => ?_) (fun h2 => ?_)
    · skip
      refine cw_seq (cw_region (sr rfl rfl rfl ((q_move rfl rfl)) (sr rfl rfl rfl ((q_assign rfl rfl)) (sw_nil (post_then (cw_ret (post_blk_r (post_then_r (post_then_r (post_blk_r (post_then_r (post_ret1 rfl (resOk_tmp rfl) ?_))))))))))))
      exact fun w' hw => ⟨by rw [idxP_at hk' hbe h2], hw⟩
    · skip
      refine cw_skip (post_blk (post_then (cw_region ?_)))
      refine sr rfl rfl rfl ((q_add rfl rfl rfl (by intro hc; omega))) ?_
      refine sr rfl rfl rfl ((q_move rfl rfl)) (sw_nil ?_)
      refine post_next (k + 1) (by exact .cons rfl (.cons rfl (.cons rfl (.cons rfl .nil)))) (fun _ h => h) ⟨by omega, fun j hj => ?_⟩ (by omega)
      by_cases hjk : j = k
      · rw [hjk]; exact h2
      · exact hbe j (by omega)
  · skip
    have hk' : k = xs.length := by simp only [decide_eq_false_iff_not] at h; omega
    subst hk'
    refine cw_exit (post_then_x (post_then_x (post_blk_eq (post_then (cw_seq (cw_region (sr rfl rfl rfl ((q_assign rfl rfl)) (sw_nil (post_then (cw_ret (post_ret1 rfl (resOk_tmp rfl) ?_)))))))))))
    exact fun w' hw => ⟨by rw [idxP_none hbe], hw⟩
theorem hasJnt_spec (sv : Value) (xs : List Jnt) (g : FuncId) (cap : Array Value) (p : Jnt → Bool) (R : World → Prop) (w : World) (hs : Stb w [] (RdL sv xs)) (hR : Stb w [] R) (hgc : CanCall Tryz.prog g) (hg : PredL Tryz.prog g cap p R xs) :
    Calls Tryz.prog 82 #[sv, .func (.func g) #[] cap] w fun e w' => e = .returned (.bool (xs.any p)) ∧ Cl w [] [] w' := by
  refine calls_cw (vs := [_, _]) Tryz.func82 rfl Tryz.ntmps82 rfl (Cl.start0 w) (cw_seq (cw_region (sr rfl rfl rfl ((q_assign rfl rfl)) (sw_nil (post_then (cw_seq (cw_region (sr rfl rfl rfl ((q_move rfl rfl)) (sr rfl rfl rfl ((q_move rfl rfl)) ?_)))))))))
  refine sw_step rfl rfl rfl (q_call (CanCall.mk Tryz.call88) rfl (.cons rfl inferInstance (.cons rfl inferInstance (.nil))) (fun _ w hw => callq hw (hasJnt_index _ _ _ _ _ _ w (by exact stb_arg hw (by assumption)) (stb_arg hw hR) hgc hg))) ?_
  refine sr rfl rfl rfl ((q_geq rfl rfl rfl)) (sr rfl rfl rfl ((q_assign rfl rfl)) (sw_nil (post_then (cw_ret (post_ret1 rfl (resOk_tmp rfl) ?_)))))
  exact fun w' hw => ⟨by rw [idxP_any], hw⟩
theorem hasCond_index (sv : Value) (xs : List Cond) (g : FuncId) (cap : Array Value) (p : Cond → Bool) (R : World → Prop) (w : World) (hs : Stb w [] (RdL sv xs)) (hR : Stb w [] R) (hgc : CanCall Tryz.prog g) (hg : PredL Tryz.prog g cap p R xs) :
    Calls Tryz.prog 159 #[sv, .func (.func g) #[] cap] w fun e w' => e = .returned (.int .i64 (idxP p xs)) ∧ Cl w [] [] w' := by
  have hL := rd_len hs.here
  refine calls_cw (vs := [_, _]) Tryz.func159 rfl Tryz.ntmps159 rfl (Cl.start0 w) (cw_seq (cw_region (sr rfl rfl rfl ((q_assign rfl rfl)) (sw_nil (post_then (cw_seq (cw_seq (cw_region (sr rfl rfl rfl ((q_move rfl rfl)) ?_)))))))))
  refine sr rfl rfl rfl ((q_len rfl (.cons rfl inferInstance (.nil)) (by exact fun w hw => Stb.cl (by assumption) hw))) ?_
  refine sr rfl rfl rfl ((q_move rfl rfl)) (sw_nil (post_then (cw_block ?_)))
  refine cw_loop (S := Nat) (fun k => [(0, [], sv), (1, [], .func (.func g) #[] cap), (7, [], .int .i64 xs.length), (8, [], .int .i64 k)]) (fun _ => Cl w [] []) (fun k => k ≤ xs.length ∧ ∀ j, j < k → p (nth xs j) = false) (fun k => xs.length - k) 0 ⟨by omega, fun j hj => by omega⟩ (by exact .cons rfl (.cons rfl (.cons rfl (.cons rfl .nil)))) (fun _ h => h) ?_
  rintro k ⟨hk, hbe⟩
  refine cw_seq (cw_region (sr rfl rfl rfl ((q_lss rfl rfl rfl)) (sw_nil (post_then (cw_seq ?_)))))
  refine cw_cond rfl (fun h => ?_) (fun h => ?_)
  · skip
    have hk' : k < xs.length := by simp only [decide_eq_true_eq] at h; omega
    refine cw_skip (post_then (cw_seq (cw_block (cw_seq (cw_region (sr rfl rfl rfl ((q_move rfl rfl)) (sr rfl rfl rfl ((q_assign rfl rfl)) (sw_nil (post_then (cw_seq (cw_region (sr rfl rfl rfl ((q_move rfl rfl)) (sr rfl rfl rfl ((q_move rfl rfl)) (sr rfl rfl rfl ((q_move rfl rfl)) ?_))))))))))))))
    refine sr rfl rfl rfl ((q_indexN rfl rfl rfl (by exact fun w hw => Stb.cl (by assumption) hw) (by intro hc; omega))) ?_
    refine sr rfl rfl rfl ((q_loadEl rfl rfl rfl (by exact fun w hw => Stb.cl (by assumption) hw) (by intro hc; omega))) ?_
    refine sw_step rfl rfl rfl (q_callv hgc rfl rfl (.cons rfl inferInstance (.nil)) (fun _ w' hw => callq hw (hg (nth xs k) (nth_mem hk') w' (hR.cl hw)))) (sw_nil (post_then ?_))
    refine cw_cond rfl (fun h2 => ?_) (fun h2 => ?_)
    · skip
      refine cw_seq (cw_region (sr rfl rfl rfl ((q_move rfl rfl)) (sr rfl rfl rfl ((q_assign rfl rfl)) (sw_nil (post_then (cw_ret (post_blk_r (post_then_r (post_then_r (post_blk_r (post_then_r (post_ret1 rfl (resOk_tmp rfl) ?_))))))))))))
      exact fun w' hw => ⟨by rw [idxP_at hk' hbe h2], hw⟩
    · skip
      refine cw_skip (post_blk (post_then (cw_region ?_)))
      refine sr rfl rfl rfl ((q_add rfl rfl rfl (by intro hc; omega))) ?_
      refine sr rfl rfl rfl ((q_move rfl rfl)) (sw_nil ?_)
      refine post_next (k + 1) (by exact .cons rfl (.cons rfl (.cons rfl (.cons rfl .nil)))) (fun _ h => h) ⟨by omega, fun j hj => ?_⟩ (by omega)
      by_cases hjk : j = k
      · rw [hjk]; exact h2
      · exact hbe j (by omega)
  · skip
    have hk' : k = xs.length := by simp only [decide_eq_false_iff_not] at h; omega
    subst hk'
    refine cw_exit (post_then_x (post_then_x (post_blk_eq (post_then (cw_seq (cw_region (sr rfl rfl rfl ((q_assign rfl rfl)) (sw_nil (post_then (cw_ret (post_ret1 rfl (resOk_tmp rfl) ?_)))))))))))
    exact fun w' hw => ⟨by rw [idxP_none hbe], hw⟩
theorem hasCond_spec (sv : Value) (xs : List Cond) (g : FuncId) (cap : Array Value) (p : Cond → Bool) (R : World → Prop) (w : World) (hs : Stb w [] (RdL sv xs)) (hR : Stb w [] R) (hgc : CanCall Tryz.prog g) (hg : PredL Tryz.prog g cap p R xs) :
    Calls Tryz.prog 124 #[sv, .func (.func g) #[] cap] w fun e w' => e = .returned (.bool (xs.any p)) ∧ Cl w [] [] w' := by
  refine calls_cw (vs := [_, _]) Tryz.func124 rfl Tryz.ntmps124 rfl (Cl.start0 w) (cw_seq (cw_region (sr rfl rfl rfl ((q_assign rfl rfl)) (sw_nil (post_then (cw_seq (cw_region (sr rfl rfl rfl ((q_move rfl rfl)) (sr rfl rfl rfl ((q_move rfl rfl)) ?_)))))))))
  refine sw_step rfl rfl rfl (q_call (CanCall.mk Tryz.call159) rfl (.cons rfl inferInstance (.cons rfl inferInstance (.nil))) (fun _ w hw => callq hw (hasCond_index _ _ _ _ _ _ w (by exact stb_arg hw (by assumption)) (stb_arg hw hR) hgc hg))) ?_
  refine sr rfl rfl rfl ((q_geq rfl rfl rfl)) (sr rfl rfl rfl ((q_assign rfl rfl)) (sw_nil (post_then (cw_ret (post_ret1 rfl (resOk_tmp rfl) ?_)))))
  exact fun w' hw => ⟨by rw [idxP_any], hw⟩
theorem hasFgn_index (sv : Value) (xs : List Fgn) (g : FuncId) (cap : Array Value) (p : Fgn → Bool) (R : World → Prop) (w : World) (hs : Stb w [] (RdL sv xs)) (hR : Stb w [] R) (hgc : CanCall Tryz.prog g) (hg : PredL Tryz.prog g cap p R xs) :
    Calls Tryz.prog 160 #[sv, .func (.func g) #[] cap] w fun e w' => e = .returned (.int .i64 (idxP p xs)) ∧ Cl w [] [] w' := by
  have hL := rd_len hs.here
  refine calls_cw (vs := [_, _]) Tryz.func160 rfl Tryz.ntmps160 rfl (Cl.start0 w) (cw_seq (cw_region (sr rfl rfl rfl ((q_assign rfl rfl)) (sw_nil (post_then (cw_seq (cw_seq (cw_region (sr rfl rfl rfl ((q_move rfl rfl)) ?_)))))))))
  refine sr rfl rfl rfl ((q_len rfl (.cons rfl inferInstance (.nil)) (by exact fun w hw => Stb.cl (by assumption) hw))) ?_
  refine sr rfl rfl rfl ((q_move rfl rfl)) (sw_nil (post_then (cw_block ?_)))
  refine cw_loop (S := Nat) (fun k => [(0, [], sv), (1, [], .func (.func g) #[] cap), (7, [], .int .i64 xs.length), (8, [], .int .i64 k)]) (fun _ => Cl w [] []) (fun k => k ≤ xs.length ∧ ∀ j, j < k → p (nth xs j) = false) (fun k => xs.length - k) 0 ⟨by omega, fun j hj => by omega⟩ (by exact .cons rfl (.cons rfl (.cons rfl (.cons rfl .nil)))) (fun _ h => h) ?_
  rintro k ⟨hk, hbe⟩
  refine cw_seq (cw_region (sr rfl rfl rfl ((q_lss rfl rfl rfl)) (sw_nil (post_then (cw_seq ?_)))))
  refine cw_cond rfl (fun h => ?_) (fun h => ?_)
  · skip
    have hk' : k < xs.length := by simp only [decide_eq_true_eq] at h; omega
    refine cw_skip (post_then (cw_seq (cw_block (cw_seq (cw_region (sr rfl rfl rfl ((q_move rfl rfl)) (sr rfl rfl rfl ((q_assign rfl rfl)) (sw_nil (post_then (cw_seq (cw_region (sr rfl rfl rfl ((q_move rfl rfl)) (sr rfl rfl rfl ((q_move rfl rfl)) (sr rfl rfl rfl ((q_move rfl rfl)) ?_))))))))))))))
    refine sr rfl rfl rfl ((q_indexN rfl rfl rfl (by exact fun w hw => Stb.cl (by assumption) hw) (by intro hc; omega))) ?_
    refine sr rfl rfl rfl ((q_loadEl rfl rfl rfl (by exact fun w hw => Stb.cl (by assumption) hw) (by intro hc; omega))) ?_
    refine sw_step rfl rfl rfl (q_callv hgc rfl rfl (.cons rfl inferInstance (.nil)) (fun _ w' hw => callq hw (hg (nth xs k) (nth_mem hk') w' (hR.cl hw)))) (sw_nil (post_then ?_))
    refine cw_cond rfl (fun h2 => ?_) (fun h2 => ?_)
    · skip
      refine cw_seq (cw_region (sr rfl rfl rfl ((q_move rfl rfl)) (sr rfl rfl rfl ((q_assign rfl rfl)) (sw_nil (post_then (cw_ret (post_blk_r (post_then_r (post_then_r (post_blk_r (post_then_r (post_ret1 rfl (resOk_tmp rfl) ?_))))))))))))
      exact fun w' hw => ⟨by rw [idxP_at hk' hbe h2], hw⟩
    · skip
      refine cw_skip (post_blk (post_then (cw_region ?_)))
      refine sr rfl rfl rfl ((q_add rfl rfl rfl (by intro hc; omega))) ?_
      refine sr rfl rfl rfl ((q_move rfl rfl)) (sw_nil ?_)
      refine post_next (k + 1) (by exact .cons rfl (.cons rfl (.cons rfl (.cons rfl .nil)))) (fun _ h => h) ⟨by omega, fun j hj => ?_⟩ (by omega)
      by_cases hjk : j = k
      · rw [hjk]; exact h2
      · exact hbe j (by omega)
  · skip
    have hk' : k = xs.length := by simp only [decide_eq_false_iff_not] at h; omega
    subst hk'
    refine cw_exit (post_then_x (post_then_x (post_blk_eq (post_then (cw_seq (cw_region (sr rfl rfl rfl ((q_assign rfl rfl)) (sw_nil (post_then (cw_ret (post_ret1 rfl (resOk_tmp rfl) ?_)))))))))))
    exact fun w' hw => ⟨by rw [idxP_none hbe], hw⟩
theorem hasFgn_spec (sv : Value) (xs : List Fgn) (g : FuncId) (cap : Array Value) (p : Fgn → Bool) (R : World → Prop) (w : World) (hs : Stb w [] (RdL sv xs)) (hR : Stb w [] R) (hgc : CanCall Tryz.prog g) (hg : PredL Tryz.prog g cap p R xs) :
    Calls Tryz.prog 129 #[sv, .func (.func g) #[] cap] w fun e w' => e = .returned (.bool (xs.any p)) ∧ Cl w [] [] w' := by
  refine calls_cw (vs := [_, _]) Tryz.func129 rfl Tryz.ntmps129 rfl (Cl.start0 w) (cw_seq (cw_region (sr rfl rfl rfl ((q_assign rfl rfl)) (sw_nil (post_then (cw_seq (cw_region (sr rfl rfl rfl ((q_move rfl rfl)) (sr rfl rfl rfl ((q_move rfl rfl)) ?_)))))))))
  refine sw_step rfl rfl rfl (q_call (CanCall.mk Tryz.call160) rfl (.cons rfl inferInstance (.cons rfl inferInstance (.nil))) (fun _ w hw => callq hw (hasFgn_index _ _ _ _ _ _ w (by exact stb_arg hw (by assumption)) (stb_arg hw hR) hgc hg))) ?_
  refine sr rfl rfl rfl ((q_geq rfl rfl rfl)) (sr rfl rfl rfl ((q_assign rfl rfl)) (sw_nil (post_then (cw_ret (post_ret1 rfl (resOk_tmp rfl) ?_)))))
  exact fun w' hw => ⟨by rw [idxP_any], hw⟩
theorem hasSp_index (sv : Value) (xs : List Sp) (g : FuncId) (cap : Array Value) (p : Sp → Bool) (R : World → Prop) (w : World) (hs : Stb w [] (RdL sv xs)) (hR : Stb w [] R) (hgc : CanCall Tryz.prog g) (hg : PredL Tryz.prog g cap p R xs) :
    Calls Tryz.prog 162 #[sv, .func (.func g) #[] cap] w fun e w' => e = .returned (.int .i64 (idxP p xs)) ∧ Cl w [] [] w' := by
  have hL := rd_len hs.here
  refine calls_cw (vs := [_, _]) Tryz.func162 rfl Tryz.ntmps162 rfl (Cl.start0 w) (cw_seq (cw_region (sr rfl rfl rfl ((q_assign rfl rfl)) (sw_nil (post_then (cw_seq (cw_seq (cw_region (sr rfl rfl rfl ((q_move rfl rfl)) ?_)))))))))
  refine sr rfl rfl rfl ((q_len rfl (.cons rfl inferInstance (.nil)) (by exact fun w hw => Stb.cl (by assumption) hw))) ?_
  refine sr rfl rfl rfl ((q_move rfl rfl)) (sw_nil (post_then (cw_block ?_)))
  refine cw_loop (S := Nat) (fun k => [(0, [], sv), (1, [], .func (.func g) #[] cap), (7, [], .int .i64 xs.length), (8, [], .int .i64 k)]) (fun _ => Cl w [] []) (fun k => k ≤ xs.length ∧ ∀ j, j < k → p (nth xs j) = false) (fun k => xs.length - k) 0 ⟨by omega, fun j hj => by omega⟩ (by exact .cons rfl (.cons rfl (.cons rfl (.cons rfl .nil)))) (fun _ h => h) ?_
  rintro k ⟨hk, hbe⟩
  refine cw_seq (cw_region (sr rfl rfl rfl ((q_lss rfl rfl rfl)) (sw_nil (post_then (cw_seq ?_)))))
  refine cw_cond rfl (fun h => ?_) (fun h => ?_)
  · skip
    have hk' : k < xs.length := by simp only [decide_eq_true_eq] at h; omega
    refine cw_skip (post_then (cw_seq (cw_block (cw_seq (cw_region (sr rfl rfl rfl ((q_move rfl rfl)) (sr rfl rfl rfl ((q_assign rfl rfl)) (sw_nil (post_then (cw_seq (cw_region (sr rfl rfl rfl ((q_move rfl rfl)) (sr rfl rfl rfl ((q_move rfl rfl)) (sr rfl rfl rfl ((q_move rfl rfl)) ?_))))))))))))))
    refine sr rfl rfl rfl ((q_indexN rfl rfl rfl (by exact fun w hw => Stb.cl (by assumption) hw) (by intro hc; omega))) ?_
    refine sr rfl rfl rfl ((q_loadEl rfl rfl rfl (by exact fun w hw => Stb.cl (by assumption) hw) (by intro hc; omega))) ?_
    refine sw_step rfl rfl rfl (q_callv hgc rfl rfl (.cons rfl inferInstance (.nil)) (fun _ w' hw => callq hw (hg (nth xs k) (nth_mem hk') w' (hR.cl hw)))) (sw_nil (post_then ?_))
    refine cw_cond rfl (fun h2 => ?_) (fun h2 => ?_)
    · skip
      refine cw_seq (cw_region (sr rfl rfl rfl ((q_move rfl rfl)) (sr rfl rfl rfl ((q_assign rfl rfl)) (sw_nil (post_then (cw_ret (post_blk_r (post_then_r (post_then_r (post_blk_r (post_then_r (post_ret1 rfl (resOk_tmp rfl) ?_))))))))))))
      exact fun w' hw => ⟨by rw [idxP_at hk' hbe h2], hw⟩
    · skip
      refine cw_skip (post_blk (post_then (cw_region ?_)))
      refine sr rfl rfl rfl ((q_add rfl rfl rfl (by intro hc; omega))) ?_
      refine sr rfl rfl rfl ((q_move rfl rfl)) (sw_nil ?_)
      refine post_next (k + 1) (by exact .cons rfl (.cons rfl (.cons rfl (.cons rfl .nil)))) (fun _ h => h) ⟨by omega, fun j hj => ?_⟩ (by omega)
      by_cases hjk : j = k
      · rw [hjk]; exact h2
      · exact hbe j (by omega)
  · skip
    have hk' : k = xs.length := by simp only [decide_eq_false_iff_not] at h; omega
    subst hk'
    refine cw_exit (post_then_x (post_then_x (post_blk_eq (post_then (cw_seq (cw_region (sr rfl rfl rfl ((q_assign rfl rfl)) (sw_nil (post_then (cw_ret (post_ret1 rfl (resOk_tmp rfl) ?_)))))))))))
    exact fun w' hw => ⟨by rw [idxP_none hbe], hw⟩
theorem hasSp_spec (sv : Value) (xs : List Sp) (g : FuncId) (cap : Array Value) (p : Sp → Bool) (R : World → Prop) (w : World) (hs : Stb w [] (RdL sv xs)) (hR : Stb w [] R) (hgc : CanCall Tryz.prog g) (hg : PredL Tryz.prog g cap p R xs) :
    Calls Tryz.prog 135 #[sv, .func (.func g) #[] cap] w fun e w' => e = .returned (.bool (xs.any p)) ∧ Cl w [] [] w' := by
  refine calls_cw (vs := [_, _]) Tryz.func135 rfl Tryz.ntmps135 rfl (Cl.start0 w) (cw_seq (cw_region (sr rfl rfl rfl ((q_assign rfl rfl)) (sw_nil (post_then (cw_seq (cw_region (sr rfl rfl rfl ((q_move rfl rfl)) (sr rfl rfl rfl ((q_move rfl rfl)) ?_)))))))))
  refine sw_step rfl rfl rfl (q_call (CanCall.mk Tryz.call162) rfl (.cons rfl inferInstance (.cons rfl inferInstance (.nil))) (fun _ w hw => callq hw (hasSp_index _ _ _ _ _ _ w (by exact stb_arg hw (by assumption)) (stb_arg hw hR) hgc hg))) ?_
  refine sr rfl rfl rfl ((q_geq rfl rfl rfl)) (sr rfl rfl rfl ((q_assign rfl rfl)) (sw_nil (post_then (cw_ret (post_ret1 rfl (resOk_tmp rfl) ?_)))))
  exact fun w' hw => ⟨by rw [idxP_any], hw⟩
theorem chc_index (sv : Value) (xs : List Chc) (g : FuncId) (cap : Array Value) (p : Chc → Bool) (R : World → Prop) (w : World) (hs : Stb w [] (RdL sv xs)) (hR : Stb w [] R) (hgc : CanCall Tryz.prog g) (hg : PredL Tryz.prog g cap p R xs) :
    Calls Tryz.prog 167 #[sv, .func (.func g) #[] cap] w fun e w' => e = .returned (.int .i64 (idxP p xs)) ∧ Cl w [] [] w' := by
  have hL := rd_len hs.here
  refine calls_cw (vs := [_, _]) Tryz.func167 rfl Tryz.ntmps167 rfl (Cl.start0 w) (cw_seq (cw_region (sr rfl rfl rfl ((q_assign rfl rfl)) (sw_nil (post_then (cw_seq (cw_seq (cw_region (sr rfl rfl rfl ((q_move rfl rfl)) ?_)))))))))
  refine sr rfl rfl rfl ((q_len rfl (.cons rfl inferInstance (.nil)) (by exact fun w hw => Stb.cl (by assumption) hw))) ?_
  refine sr rfl rfl rfl ((q_move rfl rfl)) (sw_nil (post_then (cw_block ?_)))
  refine cw_loop (S := Nat) (fun k => [(0, [], sv), (1, [], .func (.func g) #[] cap), (7, [], .int .i64 xs.length), (8, [], .int .i64 k)]) (fun _ => Cl w [] []) (fun k => k ≤ xs.length ∧ ∀ j, j < k → p (nth xs j) = false) (fun k => xs.length - k) 0 ⟨by omega, fun j hj => by omega⟩ (by exact .cons rfl (.cons rfl (.cons rfl (.cons rfl .nil)))) (fun _ h => h) ?_
  rintro k ⟨hk, hbe⟩
  refine cw_seq (cw_region (sr rfl rfl rfl ((q_lss rfl rfl rfl)) (sw_nil (post_then (cw_seq ?_)))))
  refine cw_cond rfl (fun h => ?_) (fun h => ?_)
  · skip
    have hk' : k < xs.length := by simp only [decide_eq_true_eq] at h; omega
    refine cw_skip (post_then (cw_seq (cw_block (cw_seq (cw_region (sr rfl rfl rfl ((q_move rfl rfl)) (sr rfl rfl rfl ((q_assign rfl rfl)) (sw_nil (post_then (cw_seq (cw_region (sr rfl rfl rfl ((q_move rfl rfl)) (sr rfl rfl rfl ((q_move rfl rfl)) (sr rfl rfl rfl ((q_move rfl rfl)) ?_))))))))))))))
    refine sr rfl rfl rfl ((q_indexN rfl rfl rfl (by exact fun w hw => Stb.cl (by assumption) hw) (by intro hc; omega))) ?_
    refine sr rfl rfl rfl ((q_loadEl rfl rfl rfl (by exact fun w hw => Stb.cl (by assumption) hw) (by intro hc; omega))) ?_
    refine sw_step rfl rfl rfl (q_callv hgc rfl rfl (.cons rfl inferInstance (.nil)) (fun _ w' hw => callq hw (hg (nth xs k) (nth_mem hk') w' (hR.cl hw)))) (sw_nil (post_then ?_))
    refine cw_cond rfl (fun h2 => ?_) (fun h2 => ?_)
    · skip
      refine cw_seq (cw_region (sr rfl rfl rfl ((q_move rfl rfl)) (sr rfl rfl rfl ((q_assign rfl rfl)) (sw_nil (post_then (cw_ret (post_blk_r (post_then_r (post_then_r (post_blk_r (post_then_r (post_ret1 rfl (resOk_tmp rfl) ?_))))))))))))
      exact fun w' hw => ⟨by rw [idxP_at hk' hbe h2], hw⟩
    · skip
      refine cw_skip (post_blk (post_then (cw_region ?_)))
      refine sr rfl rfl rfl ((q_add rfl rfl rfl (by intro hc; omega))) ?_
      refine sr rfl rfl rfl ((q_move rfl rfl)) (sw_nil ?_)
      refine post_next (k + 1) (by exact .cons rfl (.cons rfl (.cons rfl (.cons rfl .nil)))) (fun _ h => h) ⟨by omega, fun j hj => ?_⟩ (by omega)
      by_cases hjk : j = k
      · rw [hjk]; exact h2
      · exact hbe j (by omega)
  · skip
    have hk' : k = xs.length := by simp only [decide_eq_false_iff_not] at h; omega
    subst hk'
    refine cw_exit (post_then_x (post_then_x (post_blk_eq (post_then (cw_seq (cw_region (sr rfl rfl rfl ((q_assign rfl rfl)) (sw_nil (post_then (cw_ret (post_ret1 rfl (resOk_tmp rfl) ?_)))))))))))
    exact fun w' hw => ⟨by rw [idxP_none hbe], hw⟩
theorem xl_index (sv : Value) (xs : List XL) (g : FuncId) (cap : Array Value) (p : XL → Bool) (R : World → Prop) (w : World) (hs : Stb w [] (RdL sv xs)) (hR : Stb w [] R) (hgc : CanCall Tryz.prog g) (hg : PredL Tryz.prog g cap p R xs) :
    Calls Tryz.prog 189 #[sv, .func (.func g) #[] cap] w fun e w' => e = .returned (.int .i64 (idxP p xs)) ∧ Cl w [] [] w' := by
  have hL := rd_len hs.here
  refine calls_cw (vs := [_, _]) Tryz.func189 rfl Tryz.ntmps189 rfl (Cl.start0 w) (cw_seq (cw_region (sr rfl rfl rfl ((q_assign rfl rfl)) (sw_nil (post_then (cw_seq (cw_seq (cw_region (sr rfl rfl rfl ((q_move rfl rfl)) ?_)))))))))
  refine sr rfl rfl rfl ((q_len rfl (.cons rfl inferInstance (.nil)) (by exact fun w hw => Stb.cl (by assumption) hw))) ?_
  refine sr rfl rfl rfl ((q_move rfl rfl)) (sw_nil (post_then (cw_block ?_)))
  refine cw_loop (S := Nat) (fun k => [(0, [], sv), (1, [], .func (.func g) #[] cap), (7, [], .int .i64 xs.length), (8, [], .int .i64 k)]) (fun _ => Cl w [] []) (fun k => k ≤ xs.length ∧ ∀ j, j < k → p (nth xs j) = false) (fun k => xs.length - k) 0 ⟨by omega, fun j hj => by omega⟩ (by exact .cons rfl (.cons rfl (.cons rfl (.cons rfl .nil)))) (fun _ h => h) ?_
  rintro k ⟨hk, hbe⟩
  refine cw_seq (cw_region (sr rfl rfl rfl ((q_lss rfl rfl rfl)) (sw_nil (post_then (cw_seq ?_)))))
  refine cw_cond rfl (fun h => ?_) (fun h => ?_)
  · skip
    have hk' : k < xs.length := by simp only [decide_eq_true_eq] at h; omega
    refine cw_skip (post_then (cw_seq (cw_block (cw_seq (cw_region (sr rfl rfl rfl ((q_move rfl rfl)) (sr rfl rfl rfl ((q_assign rfl rfl)) (sw_nil (post_then (cw_seq (cw_region (sr rfl rfl rfl ((q_move rfl rfl)) (sr rfl rfl rfl ((q_move rfl rfl)) (sr rfl rfl rfl ((q_move rfl rfl)) ?_))))))))))))))
    refine sr rfl rfl rfl ((q_indexN rfl rfl rfl (by exact fun w hw => Stb.cl (by assumption) hw) (by intro hc; omega))) ?_
    refine sr rfl rfl rfl ((q_loadEl rfl rfl rfl (by exact fun w hw => Stb.cl (by assumption) hw) (by intro hc; omega))) ?_
    refine sw_step rfl rfl rfl (q_callv hgc rfl rfl (.cons rfl inferInstance (.nil)) (fun _ w' hw => callq hw (hg (nth xs k) (nth_mem hk') w' (hR.cl hw)))) (sw_nil (post_then ?_))
    refine cw_cond rfl (fun h2 => ?_) (fun h2 => ?_)
    · skip
      refine cw_seq (cw_region (sr rfl rfl rfl ((q_move rfl rfl)) (sr rfl rfl rfl ((q_assign rfl rfl)) (sw_nil (post_then (cw_ret (post_blk_r (post_then_r (post_then_r (post_blk_r (post_then_r (post_ret1 rfl (resOk_tmp rfl) ?_))))))))))))
      exact fun w' hw => ⟨by rw [idxP_at hk' hbe h2], hw⟩
    · skip
      refine cw_skip (post_blk (post_then (cw_region ?_)))
      refine sr rfl rfl rfl ((q_add rfl rfl rfl (by intro hc; omega))) ?_
      refine sr rfl rfl rfl ((q_move rfl rfl)) (sw_nil ?_)
      refine post_next (k + 1) (by exact .cons rfl (.cons rfl (.cons rfl (.cons rfl .nil)))) (fun _ h => h) ⟨by omega, fun j hj => ?_⟩ (by omega)
      by_cases hjk : j = k
      · rw [hjk]; exact h2
      · exact hbe j (by omega)
  · skip
    have hk' : k = xs.length := by simp only [decide_eq_false_iff_not] at h; omega
    subst hk'
    refine cw_exit (post_then_x (post_then_x (post_blk_eq (post_then (cw_seq (cw_region (sr rfl rfl rfl ((q_assign rfl rfl)) (sw_nil (post_then (cw_ret (post_ret1 rfl (resOk_tmp rfl) ?_)))))))))))
    exact fun w' hw => ⟨by rw [idxP_none hbe], hw⟩
def riseB {α : Type} [Inhabited α] (c : α → α → Int) (xs : List α) : Bool := (List.range (xs.length - 1)).all fun i => decide (c (nth xs i) (nth xs (i + 1)) < 0)
theorem riseB_no {α : Type} [Inhabited α] {c : α → α → Int} {xs : List α} {k : Nat} (h0 : 1 ≤ k) (hk : k < xs.length) (h : ¬ c (nth xs (k - 1)) (nth xs k) < 0) : riseB c xs = false := by
  unfold riseB
  rw [List.all_eq_false]
  refine ⟨k - 1, List.mem_range.2 (by omega), ?_⟩
  rw [show k - 1 + 1 = k by omega]
  simp [h]
theorem riseB_yes {α : Type} [Inhabited α] {c : α → α → Int} {xs : List α} : riseB c xs = true ↔ ∀ k, 1 ≤ k → k < xs.length → c (nth xs (k - 1)) (nth xs k) < 0 := by
  unfold riseB
  rw [List.all_eq_true]
  constructor
  · intro h k h0 hk
    have := h (k - 1) (List.mem_range.2 (by omega))
    rw [show k - 1 + 1 = k by omega] at this
    simpa using this
  · intro h i hi
    rw [List.mem_range] at hi
    have := h (i + 1) (by omega) (by omega)
    rw [Nat.add_sub_cancel] at this
    simpa using this
/-- A function value that compares elements of xs. -/
def CmpL (P : Program) {α : Type} [Enc α] (g : FuncId) (cap : Array Value) (c : α → α → Int) (R : World → Prop) (xs : List α) : Prop := ∀ x ∈ xs, ∀ y ∈ xs, ∀ w, R w → Calls P g ([val x, val y].toArray ++ cap) w fun e w' => e = .returned (.int .i64 (c x y)) ∧ Cl w [] [] w'
theorem riseLet_spec (sv : Value) (xs : List Let) (g : FuncId) (cap : Array Value) (c : Let → Let → Int) (R : World → Prop) (w : World) (hs : Stb w [] (RdL sv xs)) (hR : Stb w [] R) (hgc : CanCall Tryz.prog g) (hg : CmpL Tryz.prog g cap c R xs) :
    Calls Tryz.prog 73 #[sv, .func (.func g) #[] cap] w fun e w' => e = .returned (.bool (riseB c xs)) ∧ Cl w [] [] w' := by
  have hL := rd_len hs.here
  refine calls_cw (vs := [_, _]) Tryz.func73 rfl Tryz.ntmps73 rfl (Cl.start0 w) (cw_seq (cw_region (sr rfl rfl rfl ((q_assign rfl rfl)) (sw_nil (post_then (cw_seq (cw_seq (cw_region (sr rfl rfl rfl ((q_assign rfl rfl)) (sw_nil (post_then (cw_block ?_))))))))))))
  refine cw_loop (S := Nat) (fun k => [(0, [], sv), (1, [], .func (.func g) #[] cap), (5, [], .int .i64 k)]) (fun _ => Cl w [] []) (fun k => 1 ≤ k ∧ ∀ j, 1 ≤ j → j < k → j < xs.length → c (nth xs (j - 1)) (nth xs j) < 0) (fun k => xs.length - k) 1 ⟨by omega, fun j hj => by omega⟩ (by exact .cons rfl (.cons rfl (.cons rfl .nil))) (fun _ h => h) ?_
  rintro k ⟨hk, hbe⟩
  refine cw_seq (cw_seq (cw_region (sr rfl rfl rfl ((q_move rfl rfl)) (sr rfl rfl rfl ((q_move rfl rfl)) ?_))))
  refine sr rfl rfl rfl ((q_len rfl (.cons rfl inferInstance (.nil)) (by exact fun w hw => Stb.cl (by assumption) hw))) ?_
  refine sr rfl rfl rfl ((q_lss rfl rfl rfl)) (sw_nil (post_then ?_))
  refine cw_cond rfl (fun h => ?_) (fun h => ?_)
  · skip
    have hk' : k < xs.length := by simp only [decide_eq_true_eq] at h; omega
    have e1 : ((k : Int) - 1).toNat = k - 1 := by omega
    refine cw_skip (post_then (cw_seq (cw_block (cw_seq ?_))))
    refine cw_region_q mixed_Tryz (by kernel_rfl) ?_
    refine qr rfl rfl rfl ((q_move rfl rfl)) (qr rfl rfl rfl ((q_move rfl rfl)) (qr rfl rfl rfl ((q_move rfl rfl)) ?_))
    refine qr rfl rfl rfl ((q_sub rfl rfl rfl (by intro hc; omega))) ?_
    refine qr rfl rfl rfl ((q_index rfl rfl rfl (by exact fun w hw => Stb.cl (by assumption) hw) (by intro hc; omega))) ?_
    refine qr rfl rfl rfl ((q_loadEl rfl rfl rfl (by exact fun w hw => Stb.cl (by assumption) hw) (by intro hc; omega))) ?_
    refine qr rfl rfl rfl ((q_move rfl rfl)) (qr rfl rfl rfl ((q_move rfl rfl)) ?_)
    refine qr rfl rfl rfl ((q_indexN rfl rfl rfl (by exact fun w hw => Stb.cl (by assumption) hw) (by intro hc; omega))) ?_
    refine qr rfl rfl rfl ((q_loadEl rfl rfl rfl (by exact fun w hw => Stb.cl (by assumption) hw) (by intro hc; omega))) ?_
    refine qw_step rfl rfl rfl (q_callv hgc rfl rfl (.cons rfl inferInstance (.cons rfl inferInstance (.nil))) (fun _ w' hw => callq hw (hg (nth xs ((k : Int) - 1).toNat) (by rw [e1]; exact nth_mem (by omega)) (nth xs k) (nth_mem hk') w' (hR.cl hw)))) ?_
    refine qr rfl rfl rfl ((q_geq rfl rfl rfl)) (qw_end (post_then ?_))
    rw [e1]
    refine cw_cond rfl (fun h2 => ?_) (fun h2 => ?_)
    · skip
      have h3 : riseB c xs = false := riseB_no hk hk' (by simp at h2; omega)
      refine cw_seq (cw_region (sr rfl rfl rfl ((q_assign rfl rfl)) (sw_nil (post_then (cw_ret (post_blk_r (post_then_r (post_then_r (post_blk_r (post_then_r (post_ret1 rfl (resOk_tmp rfl) ?_)))))))))))
      exact fun w' hw => ⟨by rw [h3], hw⟩
    · skip
      refine cw_skip (post_blk (post_then (cw_region (sr rfl rfl rfl ((q_move rfl rfl)) ?_))))
      refine sr rfl rfl rfl ((q_add rfl rfl rfl (by intro hc; omega))) ?_
      refine sr rfl rfl rfl ((q_assign rfl rfl)) (sw_nil ?_)
      refine post_next (k + 1) (by exact .cons rfl (.cons rfl (.cons rfl .nil))) (fun _ h => h) ⟨by omega, fun j hj hj2 hj3 => ?_⟩ (by omega)
      by_cases hjk : j = k
      · rw [hjk]; simp at h2; omega
      · exact hbe j hj (by omega) hj3
  · skip
    have hk' : xs.length ≤ k := by simp only [decide_eq_false_iff_not] at h; omega
    have h3 : riseB c xs = true := riseB_yes.2 fun j h1 h2 => hbe j h1 (by omega) h2
    refine cw_exit (post_then_x (post_then_x (post_blk_eq (post_then (cw_seq (cw_region (sr rfl rfl rfl ((q_assign rfl rfl)) (sw_nil (post_then (cw_ret (post_ret1 rfl (resOk_tmp rfl) ?_)))))))))))
    exact fun w' hw => ⟨by rw [h3], hw⟩
theorem riseCond_spec (sv : Value) (xs : List Cond) (g : FuncId) (cap : Array Value) (c : Cond → Cond → Int) (R : World → Prop) (w : World) (hs : Stb w [] (RdL sv xs)) (hR : Stb w [] R) (hgc : CanCall Tryz.prog g) (hg : CmpL Tryz.prog g cap c R xs) :
    Calls Tryz.prog 122 #[sv, .func (.func g) #[] cap] w fun e w' => e = .returned (.bool (riseB c xs)) ∧ Cl w [] [] w' := by
  have hL := rd_len hs.here
  refine calls_cw (vs := [_, _]) Tryz.func122 rfl Tryz.ntmps122 rfl (Cl.start0 w) (cw_seq (cw_region (sr rfl rfl rfl ((q_assign rfl rfl)) (sw_nil (post_then (cw_seq (cw_seq (cw_region (sr rfl rfl rfl ((q_assign rfl rfl)) (sw_nil (post_then (cw_block ?_))))))))))))
  refine cw_loop (S := Nat) (fun k => [(0, [], sv), (1, [], .func (.func g) #[] cap), (5, [], .int .i64 k)]) (fun _ => Cl w [] []) (fun k => 1 ≤ k ∧ ∀ j, 1 ≤ j → j < k → j < xs.length → c (nth xs (j - 1)) (nth xs j) < 0) (fun k => xs.length - k) 1 ⟨by omega, fun j hj => by omega⟩ (by exact .cons rfl (.cons rfl (.cons rfl .nil))) (fun _ h => h) ?_
  rintro k ⟨hk, hbe⟩
  refine cw_seq (cw_seq (cw_region (sr rfl rfl rfl ((q_move rfl rfl)) (sr rfl rfl rfl ((q_move rfl rfl)) ?_))))
  refine sr rfl rfl rfl ((q_len rfl (.cons rfl inferInstance (.nil)) (by exact fun w hw => Stb.cl (by assumption) hw))) ?_
  refine sr rfl rfl rfl ((q_lss rfl rfl rfl)) (sw_nil (post_then ?_))
  refine cw_cond rfl (fun h => ?_) (fun h => ?_)
  · skip
    have hk' : k < xs.length := by simp only [decide_eq_true_eq] at h; omega
    have e1 : ((k : Int) - 1).toNat = k - 1 := by omega
    refine cw_skip (post_then (cw_seq (cw_block (cw_seq ?_))))
    refine cw_region_q mixed_Tryz (by kernel_rfl) ?_
    refine qr rfl rfl rfl ((q_move rfl rfl)) (qr rfl rfl rfl ((q_move rfl rfl)) (qr rfl rfl rfl ((q_move rfl rfl)) ?_))
    refine qr rfl rfl rfl ((q_sub rfl rfl rfl (by intro hc; omega))) ?_
    refine qr rfl rfl rfl ((q_index rfl rfl rfl (by exact fun w hw => Stb.cl (by assumption) hw) (by intro hc; omega))) ?_
    refine qr rfl rfl rfl ((q_loadEl rfl rfl rfl (by exact fun w hw => Stb.cl (by assumption) hw) (by intro hc; omega))) ?_
    refine qr rfl rfl rfl ((q_move rfl rfl)) (qr rfl rfl rfl ((q_move rfl rfl)) ?_)
    refine qr rfl rfl rfl ((q_indexN rfl rfl rfl (by exact fun w hw => Stb.cl (by assumption) hw) (by intro hc; omega))) ?_
    refine qr rfl rfl rfl ((q_loadEl rfl rfl rfl (by exact fun w hw => Stb.cl (by assumption) hw) (by intro hc; omega))) ?_
    refine qw_step rfl rfl rfl (q_callv hgc rfl rfl (.cons rfl inferInstance (.cons rfl inferInstance (.nil))) (fun _ w' hw => callq hw (hg (nth xs ((k : Int) - 1).toNat) (by rw [e1]; exact nth_mem (by omega)) (nth xs k) (nth_mem hk') w' (hR.cl hw)))) ?_
    refine qr rfl rfl rfl ((q_geq rfl rfl rfl)) (qw_end (post_then ?_))
    rw [e1]
    refine cw_cond rfl (fun h2 => ?_) (fun h2 => ?_)
    · skip
      have h3 : riseB c xs = false := riseB_no hk hk' (by simp at h2; omega)
      refine cw_seq (cw_region (sr rfl rfl rfl ((q_assign rfl rfl)) (sw_nil (post_then (cw_ret (post_blk_r (post_then_r (post_then_r (post_blk_r (post_then_r (post_ret1 rfl (resOk_tmp rfl) ?_)))))))))))
      exact fun w' hw => ⟨by rw [h3], hw⟩
    · skip
      refine cw_skip (post_blk (post_then (cw_region (sr rfl rfl rfl ((q_move rfl rfl)) ?_))))
      refine sr rfl rfl rfl ((q_add rfl rfl rfl (by intro hc; omega))) ?_
      refine sr rfl rfl rfl ((q_assign rfl rfl)) (sw_nil ?_)
      refine post_next (k + 1) (by exact .cons rfl (.cons rfl (.cons rfl .nil))) (fun _ h => h) ⟨by omega, fun j hj hj2 hj3 => ?_⟩ (by omega)
      by_cases hjk : j = k
      · rw [hjk]; simp at h2; omega
      · exact hbe j hj (by omega) hj3
  · skip
    have hk' : xs.length ≤ k := by simp only [decide_eq_false_iff_not] at h; omega
    have h3 : riseB c xs = true := riseB_yes.2 fun j h1 h2 => hbe j h1 (by omega) h2
    refine cw_exit (post_then_x (post_then_x (post_blk_eq (post_then (cw_seq (cw_region (sr rfl rfl rfl ((q_assign rfl rfl)) (sw_nil (post_then (cw_ret (post_ret1 rfl (resOk_tmp rfl) ?_)))))))))))
    exact fun w' hw => ⟨by rw [h3], hw⟩
theorem riseFgn_spec (sv : Value) (xs : List Fgn) (g : FuncId) (cap : Array Value) (c : Fgn → Fgn → Int) (R : World → Prop) (w : World) (hs : Stb w [] (RdL sv xs)) (hR : Stb w [] R) (hgc : CanCall Tryz.prog g) (hg : CmpL Tryz.prog g cap c R xs) :
    Calls Tryz.prog 127 #[sv, .func (.func g) #[] cap] w fun e w' => e = .returned (.bool (riseB c xs)) ∧ Cl w [] [] w' := by
  have hL := rd_len hs.here
  refine calls_cw (vs := [_, _]) Tryz.func127 rfl Tryz.ntmps127 rfl (Cl.start0 w) (cw_seq (cw_region (sr rfl rfl rfl ((q_assign rfl rfl)) (sw_nil (post_then (cw_seq (cw_seq (cw_region (sr rfl rfl rfl ((q_assign rfl rfl)) (sw_nil (post_then (cw_block ?_))))))))))))
  refine cw_loop (S := Nat) (fun k => [(0, [], sv), (1, [], .func (.func g) #[] cap), (5, [], .int .i64 k)]) (fun _ => Cl w [] []) (fun k => 1 ≤ k ∧ ∀ j, 1 ≤ j → j < k → j < xs.length → c (nth xs (j - 1)) (nth xs j) < 0) (fun k => xs.length - k) 1 ⟨by omega, fun j hj => by omega⟩ (by exact .cons rfl (.cons rfl (.cons rfl .nil))) (fun _ h => h) ?_
  rintro k ⟨hk, hbe⟩
  refine cw_seq (cw_seq (cw_region (sr rfl rfl rfl ((q_move rfl rfl)) (sr rfl rfl rfl ((q_move rfl rfl)) ?_))))
  refine sr rfl rfl rfl ((q_len rfl (.cons rfl inferInstance (.nil)) (by exact fun w hw => Stb.cl (by assumption) hw))) ?_
  refine sr rfl rfl rfl ((q_lss rfl rfl rfl)) (sw_nil (post_then ?_))
  refine cw_cond rfl (fun h => ?_) (fun h => ?_)
  · skip
    have hk' : k < xs.length := by simp only [decide_eq_true_eq] at h; omega
    have e1 : ((k : Int) - 1).toNat = k - 1 := by omega
    refine cw_skip (post_then (cw_seq (cw_block (cw_seq ?_))))
    refine cw_region_q mixed_Tryz (by kernel_rfl) ?_
    refine qr rfl rfl rfl ((q_move rfl rfl)) (qr rfl rfl rfl ((q_move rfl rfl)) (qr rfl rfl rfl ((q_move rfl rfl)) ?_))
    refine qr rfl rfl rfl ((q_sub rfl rfl rfl (by intro hc; omega))) ?_
    refine qr rfl rfl rfl ((q_index rfl rfl rfl (by exact fun w hw => Stb.cl (by assumption) hw) (by intro hc; omega))) ?_
    refine qr rfl rfl rfl ((q_loadEl rfl rfl rfl (by exact fun w hw => Stb.cl (by assumption) hw) (by intro hc; omega))) ?_
    refine qr rfl rfl rfl ((q_move rfl rfl)) (qr rfl rfl rfl ((q_move rfl rfl)) ?_)
    refine qr rfl rfl rfl ((q_indexN rfl rfl rfl (by exact fun w hw => Stb.cl (by assumption) hw) (by intro hc; omega))) ?_
    refine qr rfl rfl rfl ((q_loadEl rfl rfl rfl (by exact fun w hw => Stb.cl (by assumption) hw) (by intro hc; omega))) ?_
    refine qw_step rfl rfl rfl (q_callv hgc rfl rfl (.cons rfl inferInstance (.cons rfl inferInstance (.nil))) (fun _ w' hw => callq hw (hg (nth xs ((k : Int) - 1).toNat) (by rw [e1]; exact nth_mem (by omega)) (nth xs k) (nth_mem hk') w' (hR.cl hw)))) ?_
    refine qr rfl rfl rfl ((q_geq rfl rfl rfl)) (qw_end (post_then ?_))
    rw [e1]
    refine cw_cond rfl (fun h2 => ?_) (fun h2 => ?_)
    · skip
      have h3 : riseB c xs = false := riseB_no hk hk' (by simp at h2; omega)
      refine cw_seq (cw_region (sr rfl rfl rfl ((q_assign rfl rfl)) (sw_nil (post_then (cw_ret (post_blk_r (post_then_r (post_then_r (post_blk_r (post_then_r (post_ret1 rfl (resOk_tmp rfl) ?_)))))))))))
      exact fun w' hw => ⟨by rw [h3], hw⟩
    · skip
      refine cw_skip (post_blk (post_then (cw_region (sr rfl rfl rfl ((q_move rfl rfl)) ?_))))
      refine sr rfl rfl rfl ((q_add rfl rfl rfl (by intro hc; omega))) ?_
      refine sr rfl rfl rfl ((q_assign rfl rfl)) (sw_nil ?_)
      refine post_next (k + 1) (by exact .cons rfl (.cons rfl (.cons rfl .nil))) (fun _ h => h) ⟨by omega, fun j hj hj2 hj3 => ?_⟩ (by omega)
      by_cases hjk : j = k
      · rw [hjk]; simp at h2; omega
      · exact hbe j hj (by omega) hj3
  · skip
    have hk' : xs.length ≤ k := by simp only [decide_eq_false_iff_not] at h; omega
    have h3 : riseB c xs = true := riseB_yes.2 fun j h1 h2 => hbe j h1 (by omega) h2
    refine cw_exit (post_then_x (post_then_x (post_blk_eq (post_then (cw_seq (cw_region (sr rfl rfl rfl ((q_assign rfl rfl)) (sw_nil (post_then (cw_ret (post_ret1 rfl (resOk_tmp rfl) ?_)))))))))))
    exact fun w' hw => ⟨by rw [h3], hw⟩
theorem riseSp_spec (sv : Value) (xs : List Sp) (g : FuncId) (cap : Array Value) (c : Sp → Sp → Int) (R : World → Prop) (w : World) (hs : Stb w [] (RdL sv xs)) (hR : Stb w [] R) (hgc : CanCall Tryz.prog g) (hg : CmpL Tryz.prog g cap c R xs) :
    Calls Tryz.prog 133 #[sv, .func (.func g) #[] cap] w fun e w' => e = .returned (.bool (riseB c xs)) ∧ Cl w [] [] w' := by
  have hL := rd_len hs.here
  refine calls_cw (vs := [_, _]) Tryz.func133 rfl Tryz.ntmps133 rfl (Cl.start0 w) (cw_seq (cw_region (sr rfl rfl rfl ((q_assign rfl rfl)) (sw_nil (post_then (cw_seq (cw_seq (cw_region (sr rfl rfl rfl ((q_assign rfl rfl)) (sw_nil (post_then (cw_block ?_))))))))))))
  refine cw_loop (S := Nat) (fun k => [(0, [], sv), (1, [], .func (.func g) #[] cap), (5, [], .int .i64 k)]) (fun _ => Cl w [] []) (fun k => 1 ≤ k ∧ ∀ j, 1 ≤ j → j < k → j < xs.length → c (nth xs (j - 1)) (nth xs j) < 0) (fun k => xs.length - k) 1 ⟨by omega, fun j hj => by omega⟩ (by exact .cons rfl (.cons rfl (.cons rfl .nil))) (fun _ h => h) ?_
  rintro k ⟨hk, hbe⟩
  refine cw_seq (cw_seq (cw_region (sr rfl rfl rfl ((q_move rfl rfl)) (sr rfl rfl rfl ((q_move rfl rfl)) ?_))))
  refine sr rfl rfl rfl ((q_len rfl (.cons rfl inferInstance (.nil)) (by exact fun w hw => Stb.cl (by assumption) hw))) ?_
  refine sr rfl rfl rfl ((q_lss rfl rfl rfl)) (sw_nil (post_then ?_))
  refine cw_cond rfl (fun h => ?_) (fun h => ?_)
  · skip
    have hk' : k < xs.length := by simp only [decide_eq_true_eq] at h; omega
    have e1 : ((k : Int) - 1).toNat = k - 1 := by omega
    refine cw_skip (post_then (cw_seq (cw_block (cw_seq ?_))))
    refine cw_region_q mixed_Tryz (by kernel_rfl) ?_
    refine qr rfl rfl rfl ((q_move rfl rfl)) (qr rfl rfl rfl ((q_move rfl rfl)) (qr rfl rfl rfl ((q_move rfl rfl)) ?_))
    refine qr rfl rfl rfl ((q_sub rfl rfl rfl (by intro hc; omega))) ?_
    refine qr rfl rfl rfl ((q_index rfl rfl rfl (by exact fun w hw => Stb.cl (by assumption) hw) (by intro hc; omega))) ?_
    refine qr rfl rfl rfl ((q_loadEl rfl rfl rfl (by exact fun w hw => Stb.cl (by assumption) hw) (by intro hc; omega))) ?_
    refine qr rfl rfl rfl ((q_move rfl rfl)) (qr rfl rfl rfl ((q_move rfl rfl)) ?_)
    refine qr rfl rfl rfl ((q_indexN rfl rfl rfl (by exact fun w hw => Stb.cl (by assumption) hw) (by intro hc; omega))) ?_
    refine qr rfl rfl rfl ((q_loadEl rfl rfl rfl (by exact fun w hw => Stb.cl (by assumption) hw) (by intro hc; omega))) ?_
    refine qw_step rfl rfl rfl (q_callv hgc rfl rfl (.cons rfl inferInstance (.cons rfl inferInstance (.nil))) (fun _ w' hw => callq hw (hg (nth xs ((k : Int) - 1).toNat) (by rw [e1]; exact nth_mem (by omega)) (nth xs k) (nth_mem hk') w' (hR.cl hw)))) ?_
    refine qr rfl rfl rfl ((q_geq rfl rfl rfl)) (qw_end (post_then ?_))
    rw [e1]
    refine cw_cond rfl (fun h2 => ?_) (fun h2 => ?_)
    · skip
      have h3 : riseB c xs = false := riseB_no hk hk' (by simp at h2; omega)
      refine cw_seq (cw_region (sr rfl rfl rfl ((q_assign rfl rfl)) (sw_nil (post_then (cw_ret (post_blk_r (post_then_r (post_then_r (post_blk_r (post_then_r (post_ret1 rfl (resOk_tmp rfl) ?_)))))))))))
      exact fun w' hw => ⟨by rw [h3], hw⟩
    · skip
      refine cw_skip (post_blk (post_then (cw_region (sr rfl rfl rfl ((q_move rfl rfl)) ?_))))
      refine sr rfl rfl rfl ((q_add rfl rfl rfl (by intro hc; omega))) ?_
      refine sr rfl rfl rfl ((q_assign rfl rfl)) (sw_nil ?_)
      refine post_next (k + 1) (by exact .cons rfl (.cons rfl (.cons rfl .nil))) (fun _ h => h) ⟨by omega, fun j hj hj2 hj3 => ?_⟩ (by omega)
      by_cases hjk : j = k
      · rw [hjk]; simp at h2; omega
      · exact hbe j hj (by omega) hj3
  · skip
    have hk' : xs.length ≤ k := by simp only [decide_eq_false_iff_not] at h; omega
    have h3 : riseB c xs = true := riseB_yes.2 fun j h1 h2 => hbe j h1 (by omega) h2
    refine cw_exit (post_then_x (post_then_x (post_blk_eq (post_then (cw_seq (cw_region (sr rfl rfl rfl ((q_assign rfl rfl)) (sw_nil (post_then (cw_ret (post_ret1 rfl (resOk_tmp rfl) ?_)))))))))))
    exact fun w' hw => ⟨by rw [h3], hw⟩
theorem risePr_spec (sv : Value) (xs : List Pr) (g : FuncId) (cap : Array Value) (c : Pr → Pr → Int) (R : World → Prop) (w : World) (hs : Stb w [] (RdL sv xs)) (hR : Stb w [] R) (hgc : CanCall Tryz.prog g) (hg : CmpL Tryz.prog g cap c R xs) :
    Calls Tryz.prog 104 #[sv, .func (.func g) #[] cap] w fun e w' => e = .returned (.bool (riseB c xs)) ∧ Cl w [] [] w' := by
  have hL := rd_len hs.here
  refine calls_cw (vs := [_, _]) Tryz.func104 rfl Tryz.ntmps104 rfl (Cl.start0 w) (cw_seq (cw_region (sr rfl rfl rfl ((q_assign rfl rfl)) (sw_nil (post_then (cw_seq (cw_seq (cw_region (sr rfl rfl rfl ((q_assign rfl rfl)) (sw_nil (post_then (cw_block ?_))))))))))))
  refine cw_loop (S := Nat) (fun k => [(0, [], sv), (1, [], .func (.func g) #[] cap), (5, [], .int .i64 k)]) (fun _ => Cl w [] []) (fun k => 1 ≤ k ∧ ∀ j, 1 ≤ j → j < k → j < xs.length → c (nth xs (j - 1)) (nth xs j) < 0) (fun k => xs.length - k) 1 ⟨by omega, fun j hj => by omega⟩ (by exact .cons rfl (.cons rfl (.cons rfl .nil))) (fun _ h => h) ?_
  rintro k ⟨hk, hbe⟩
  refine cw_seq (cw_seq (cw_region (sr rfl rfl rfl ((q_move rfl rfl)) (sr rfl rfl rfl ((q_move rfl rfl)) ?_))))
  refine sr rfl rfl rfl ((q_len rfl (.cons rfl inferInstance (.nil)) (by exact fun w hw => Stb.cl (by assumption) hw))) ?_
  refine sr rfl rfl rfl ((q_lss rfl rfl rfl)) (sw_nil (post_then ?_))
  refine cw_cond rfl (fun h => ?_) (fun h => ?_)
  · skip
    have hk' : k < xs.length := by simp only [decide_eq_true_eq] at h; omega
    have e1 : ((k : Int) - 1).toNat = k - 1 := by omega
    refine cw_skip (post_then (cw_seq (cw_block (cw_seq ?_))))
    refine cw_region_q mixed_Tryz (by kernel_rfl) ?_
    refine qr rfl rfl rfl ((q_move rfl rfl)) (qr rfl rfl rfl ((q_move rfl rfl)) (qr rfl rfl rfl ((q_move rfl rfl)) ?_))
    refine qr rfl rfl rfl ((q_sub rfl rfl rfl (by intro hc; omega))) ?_
    refine qr rfl rfl rfl ((q_index rfl rfl rfl (by exact fun w hw => Stb.cl (by assumption) hw) (by intro hc; omega))) ?_
    refine qr rfl rfl rfl ((q_loadEl rfl rfl rfl (by exact fun w hw => Stb.cl (by assumption) hw) (by intro hc; omega))) ?_
    refine qr rfl rfl rfl ((q_move rfl rfl)) (qr rfl rfl rfl ((q_move rfl rfl)) ?_)
    refine qr rfl rfl rfl ((q_indexN rfl rfl rfl (by exact fun w hw => Stb.cl (by assumption) hw) (by intro hc; omega))) ?_
    refine qr rfl rfl rfl ((q_loadEl rfl rfl rfl (by exact fun w hw => Stb.cl (by assumption) hw) (by intro hc; omega))) ?_
    refine qw_step rfl rfl rfl (q_callv hgc rfl rfl (.cons rfl inferInstance (.cons rfl inferInstance (.nil))) (fun _ w' hw => callq hw (hg (nth xs ((k : Int) - 1).toNat) (by rw [e1]; exact nth_mem (by omega)) (nth xs k) (nth_mem hk') w' (hR.cl hw)))) ?_
    refine qr rfl rfl rfl ((q_geq rfl rfl rfl)) (qw_end (post_then ?_))
    rw [e1]
    refine cw_cond rfl (fun h2 => ?_) (fun h2 => ?_)
    · skip
      have h3 : riseB c xs = false := riseB_no hk hk' (by simp at h2; omega)
      refine cw_seq (cw_region (sr rfl rfl rfl ((q_assign rfl rfl)) (sw_nil (post_then (cw_ret (post_blk_r (post_then_r (post_then_r (post_blk_r (post_then_r (post_ret1 rfl (resOk_tmp rfl) ?_)))))))))))
      exact fun w' hw => ⟨by rw [h3], hw⟩
    · skip
      refine cw_skip (post_blk (post_then (cw_region (sr rfl rfl rfl ((q_move rfl rfl)) ?_))))
      refine sr rfl rfl rfl ((q_add rfl rfl rfl (by intro hc; omega))) ?_
      refine sr rfl rfl rfl ((q_assign rfl rfl)) (sw_nil ?_)
      refine post_next (k + 1) (by exact .cons rfl (.cons rfl (.cons rfl .nil))) (fun _ h => h) ⟨by omega, fun j hj hj2 hj3 => ?_⟩ (by omega)
      by_cases hjk : j = k
      · rw [hjk]; simp at h2; omega
      · exact hbe j hj (by omega) hj3
  · skip
    have hk' : xs.length ≤ k := by simp only [decide_eq_false_iff_not] at h; omega
    have h3 : riseB c xs = true := riseB_yes.2 fun j h1 h2 => hbe j h1 (by omega) h2
    refine cw_exit (post_then_x (post_then_x (post_blk_eq (post_then (cw_seq (cw_region (sr rfl rfl rfl ((q_assign rfl rfl)) (sw_nil (post_then (cw_ret (post_ret1 rfl (resOk_tmp rfl) ?_)))))))))))
    exact fun w' hw => ⟨by rw [h3], hw⟩
end Go.Proofs.YtkmbliojafefdaaGreatDoor

set_option autoImplicit false
set_option maxRecDepth 100000
namespace Go.Proofs.YtkmbliojafefdaaGreatDoor
open Go.Sx
open Enc (enc val)
def lowB {α : Type} (c : α → Int) (xs : List α) : Nat := (xs.takeWhile fun x => decide (c x < 0)).length
theorem lowB_at {α : Type} [Inhabited α] {c : α → Int} : ∀ {xs : List α} {k : Nat}, k ≤ xs.length → (∀ i, i < k → c (nth xs i) < 0) → (k < xs.length → ¬ c (nth xs k) < 0) → lowB c xs = k
  | [], k, h, _, _ => by simp at h; simp [lowB, h]
  | x :: xs, 0, _, _, h => by
    have : ¬ c x < 0 := h (by simp)
    unfold lowB
    rw [List.takeWhile_cons_of_neg (by simpa using this)]; rfl
  | x :: xs, k + 1, h, h1, h2 => by
    have h3 : c x < 0 := h1 0 (by omega)
    have ih := lowB_at (c := c) (xs := xs) (k := k) (by simpa using h) (fun i hi => h1 (i + 1) (by omega)) (fun hk => h2 (by simpa using hk))
    unfold lowB at ih ⊢
    rw [List.takeWhile_cons_of_pos (by simpa using h3), List.length_cons, ih]
/-- Below comes first. -/
def Halves {α : Type} [Inhabited α] (c : α → Int) (xs : List α) : Prop := ∀ i j, i < j → j < xs.length → c (nth xs j) < 0 → c (nth xs i) < 0
/-- A function value that holds elements of xs against a target. -/
def CmpT (P : Program) {α : Type} [Enc α] (g : FuncId) (cap : Array Value) (tv : Value) (c : α → Int) (R : World → Prop) (xs : List α) : Prop := ∀ x ∈ xs, ∀ w, R w → Calls P g ([val x, tv].toArray ++ cap) w fun e w' => e = .returned (.int .i64 (c x)) ∧ Cl w [] [] w'
theorem half_wrap {i j : Nat} (h : i + j < 18446744073709551616) : IntKind.i64.wrap (IntKind.u64.wrap (IntKind.i64.wrap ((i : Int) + j)) / 2 ^ (1 : Int).toNat) = (((i + j) / 2 : Nat) : Int) := by
  simp [IntKind.wrap, IntKind.bits, IntKind.signed]
  omega
section
variable {P : Program} {n : Fr} {E : Env} {o : Oper} {C : World → Prop} {cs : List Bool}
theorem q_convE {s t : TypeId} {x : Operand} {cx : List Bool} {k k' : IntKind} {a r : Int} (he : k'.wrap a = r) (ho : o.op = .convert s t x) (hx : evl E x = some (cx, .int k a)) [hs : Sub cx cs] [h1 : IntT P s k] [h2 : IntT P t k'] : OpR P n E C cs o (.int k' r) := by
  subst he; exact q_conv ho hx
end
theorem searchPr_spec (sv : Value) (xs : List Pr) (t : Int) (g : FuncId) (cap : Array Value) (c : Pr → Int) (R : World → Prop) (w : World) (hs : Stb w [] (RdL sv xs)) (hR : Stb w [] R) (hgc : CanCall Tryz.prog g) (hg : CmpT Tryz.prog g cap (.int .i32 t) c R xs) (hm : Halves c xs) :
    Calls Tryz.prog 113 #[sv, .int .i32 t, .func (.func g) #[] cap] w fun e w' => e = .returned (.tuple #[.int .i64 (lowB c xs), .bool (decide (lowB c xs < xs.length ∧ c (nth xs (lowB c xs)) = 0))]) ∧ Cl w [] [] w' := by
  have hL := rd_len hs.here
  refine calls_cw (vs := [_, _, _]) Tryz.func113 rfl Tryz.ntmps113 rfl (Cl.start0 w) (cw_seq (cw_region (sr rfl rfl rfl ((q_assign rfl rfl)) (sr rfl rfl rfl ((q_assign rfl rfl)) (sw_nil (post_then (cw_seq (cw_region (sr rfl rfl rfl ((q_move rfl rfl)) ?_)))))))))
  refine sr rfl rfl rfl ((q_len rfl (.cons rfl inferInstance (.nil)) (by exact fun w hw => Stb.cl (by assumption) hw))) ?_
  refine sr rfl rfl rfl ((q_assign rfl rfl)) (sw_nil (post_then (cw_seq (cw_region (sr rfl rfl rfl ((q_move rfl rfl)) (sr rfl rfl rfl ((q_assign rfl rfl)) (sr rfl rfl rfl ((q_assign rfl rfl)) (sw_nil (post_then (cw_seq (cw_block ?_)))))))))))
  refine cw_loop (S := Nat × Nat) (fun y => [(0, [], sv), (1, [], .int .i32 t), (2, [], .func (.func g) #[] cap), (8, [], .int .i64 xs.length), (9, [], .int .i64 y.1), (10, [], .int .i64 y.2)]) (fun _ => Cl w [] []) (fun y => y.1 ≤ y.2 ∧ y.2 ≤ xs.length ∧ (∀ i, i < y.1 → c (nth xs i) < 0) ∧ ∀ i, y.2 ≤ i → i < xs.length → ¬ c (nth xs i) < 0) (fun y => y.2 - y.1) (0, xs.length) ⟨by simp, by simp, fun i hi => by simp at hi, fun i h1 h2 => by simp at h1; omega⟩ (by exact .cons rfl (.cons rfl (.cons rfl (.cons rfl (.cons rfl (.cons rfl .nil)))))) (fun _ h => h) ?_
  rintro ⟨i, j⟩ ⟨hij, hj, hlo, hhi⟩
  dsimp only at hij hj hlo hhi ⊢
  refine cw_seq (cw_seq (cw_region (sr rfl rfl rfl ((q_move rfl rfl)) (sr rfl rfl rfl ((q_move rfl rfl)) (sr rfl rfl rfl ((q_lss rfl rfl rfl)) (sw_nil (post_then ?_)))))))
  refine cw_cond rfl (fun h => ?_) (fun h => ?_)
  · skip
    have hlt : i < j := by simp at h; omega
    have e1 := half_wrap (i := i) (j := j) (by omega)
    have hk : (i + j) / 2 < xs.length := by omega
    refine cw_skip (post_then (cw_block (cw_seq (cw_region (sr rfl rfl rfl ((q_move rfl rfl)) (sr rfl rfl rfl ((q_move rfl rfl)) (sr rfl rfl rfl ((q_add_w rfl rfl rfl)) (sr rfl rfl rfl ((q_conv rfl rfl)) ?_))))))))
    refine sr rfl rfl rfl ((q_shr rfl rfl rfl (by exact fun _ => ⟨by decide, by decide⟩))) ?_
    refine sr rfl rfl rfl ((q_convE e1 rfl rfl)) (sr rfl rfl rfl ((q_assign rfl rfl)) (sw_nil (post_then (cw_seq (cw_region (sr rfl rfl rfl ((q_move rfl rfl)) (sr rfl rfl rfl ((q_move rfl rfl)) (sr rfl rfl rfl ((q_move rfl rfl)) ?_))))))))
    refine sr rfl rfl rfl ((q_indexN rfl rfl rfl (by exact fun w hw => Stb.cl (by assumption) hw) (by intro hc; omega))) ?_
    refine sr rfl rfl rfl ((q_loadEl rfl rfl rfl (by exact fun w hw => Stb.cl (by assumption) hw) (by intro hc; omega))) ?_
    refine sr rfl rfl rfl ((q_move rfl rfl)) (sw_step rfl rfl rfl (q_callv hgc rfl rfl (.cons rfl inferInstance (.cons rfl inferInstance (.nil))) (fun _ w' hw => callq hw (hg (nth xs ((i + j) / 2)) (nth_mem hk) w' (hR.cl hw)))) (sr rfl rfl rfl ((q_lss rfl rfl rfl)) (sw_nil (post_then ?_))))
    refine cw_cond rfl (fun h2 => ?_) (fun h2 => ?_)
    · skip
      refine cw_region (sr rfl rfl rfl ((q_move rfl rfl)) ?_)
      refine sr rfl rfl rfl ((q_add rfl rfl rfl (by intro hc; omega))) ?_
      refine sr rfl rfl rfl ((q_assign rfl rfl)) (sw_nil (post_blk ?_))
      refine post_next ((i + j) / 2 + 1, j) (by exact .cons rfl (.cons rfl (.cons rfl (.cons rfl (.cons rfl (.cons rfl .nil)))))) (fun _ h => h) ⟨by simp only; omega, by simp only; omega, fun a ha => ?_, hhi⟩ (by simp only; omega)
      simp at h2 ha
      rcases Nat.lt_or_ge a ((i + j) / 2) with h3 | h3
      · exact hm a _ h3 hk h2
      · have : a = (i + j) / 2 := by omega
        rw [this]; exact h2
    · skip
      refine cw_region (sr rfl rfl rfl ((q_move rfl rfl)) (sr rfl rfl rfl ((q_assign rfl rfl)) (sw_nil (post_blk ?_))))
      refine post_next (i, (i + j) / 2) (by exact .cons rfl (.cons rfl (.cons rfl (.cons rfl (.cons rfl (.cons rfl .nil)))))) (fun _ h => h) ⟨by simp only; omega, by simp only; omega, hlo, fun a ha ha2 => ?_⟩ (by simp only; omega)
      simp at h2 ha
      rcases Nat.lt_or_ge ((i + j) / 2) a with h3 | h3
      · intro h4
        have := hm _ _ h3 ha2 h4
        omega
      · have : a = (i + j) / 2 := by omega
        rw [this]; omega
  · skip
    have hlt : i = j := by simp at h; omega
    subst hlt
    have e2 : lowB c xs = i := lowB_at hj hlo fun h1 => hhi i (Nat.le_refl _) h1
    refine cw_exit (post_then_x (post_then_x (post_blk_eq (post_then (cw_seq (cw_region (sr rfl rfl rfl ((q_move rfl rfl)) (sr rfl rfl rfl ((q_move rfl rfl)) (sr rfl rfl rfl ((q_move rfl rfl)) (sr rfl rfl rfl ((q_lss rfl rfl rfl)) (sr rfl rfl rfl ((q_move rfl rfl)) (sr rfl rfl rfl ((q_move rfl rfl)) (sr rfl rfl rfl ((q_move rfl rfl)) (sr rfl rfl rfl ((q_move rfl rfl)) ?_))))))))))))))
    refine sr rfl rfl rfl ((q_indexN rfl rfl rfl (by exact fun w hw => Stb.cl (by assumption) hw) (by intro hc; (simp only [AllT.iff, List.all_cons, List.all_nil, id, Bool.and_eq_true, Bool.not_eq_true', decide_eq_true_eq, decide_eq_false_iff_not, and_true] at hc; omega)))) ?_
    refine sr rfl rfl rfl ((q_loadEl rfl rfl rfl (by exact fun w hw => Stb.cl (by assumption) hw) (by intro hc; (simp only [AllT.iff, List.all_cons, List.all_nil, id, Bool.and_eq_true, Bool.not_eq_true', decide_eq_true_eq, decide_eq_false_iff_not, and_true] at hc; omega)))) ?_
    refine sr rfl rfl rfl ((q_move rfl rfl)) ?_
    refine sw_step rfl rfl rfl (q_callv hgc rfl rfl (.cons rfl inferInstance (.cons rfl inferInstance (.nil))) (fun hc w' hw => callq hw (hg (nth xs i) (nth_mem (by simp [AllT] at hc; omega)) w' (hR.cl hw)))) ?_
    refine sr rfl rfl rfl ((q_eql rfl rfl rfl)) (sr rfl rfl rfl ((q_and2 rfl rfl rfl)) (sr rfl rfl rfl ((q_assign rfl rfl)) (sr rfl rfl rfl ((q_assign rfl rfl)) (sw_nil (post_then (cw_ret (post_ret2 rfl (resOk_tmp rfl) (resOk_tmp rfl) ?_)))))))
    refine fun w' hw => ⟨?_, hw⟩
    rw [e2]
    congr 6
    rw [Bool.eq_iff_iff]; simp
theorem searchFgn_spec (sv : Value) (xs : List Fgn) (t : ByteArray) (g : FuncId) (cap : Array Value) (c : Fgn → Int) (R : World → Prop) (w : World) (hs : Stb w [] (RdL sv xs)) (hR : Stb w [] R) (hgc : CanCall Tryz.prog g) (hg : CmpT Tryz.prog g cap (.string t) c R xs) (hm : Halves c xs) :
    Calls Tryz.prog 92 #[sv, .string t, .func (.func g) #[] cap] w fun e w' => e = .returned (.tuple #[.int .i64 (lowB c xs), .bool (decide (lowB c xs < xs.length ∧ c (nth xs (lowB c xs)) = 0))]) ∧ Cl w [] [] w' := by
  have hL := rd_len hs.here
  refine calls_cw (vs := [_, _, _]) Tryz.func92 rfl Tryz.ntmps92 rfl (Cl.start0 w) (cw_seq (cw_region (sr rfl rfl rfl ((q_assign rfl rfl)) (sr rfl rfl rfl ((q_assign rfl rfl)) (sw_nil (post_then (cw_seq (cw_region (sr rfl rfl rfl ((q_move rfl rfl)) ?_)))))))))
  refine sr rfl rfl rfl ((q_len rfl (.cons rfl inferInstance (.nil)) (by exact fun w hw => Stb.cl (by assumption) hw))) ?_
  refine sr rfl rfl rfl ((q_assign rfl rfl)) (sw_nil (post_then (cw_seq (cw_region (sr rfl rfl rfl ((q_move rfl rfl)) (sr rfl rfl rfl ((q_assign rfl rfl)) (sr rfl rfl rfl ((q_assign rfl rfl)) (sw_nil (post_then (cw_seq (cw_block ?_)))))))))))
  refine cw_loop (S := Nat × Nat) (fun y => [(0, [], sv), (1, [], .string t), (2, [], .func (.func g) #[] cap), (8, [], .int .i64 xs.length), (9, [], .int .i64 y.1), (10, [], .int .i64 y.2)]) (fun _ => Cl w [] []) (fun y => y.1 ≤ y.2 ∧ y.2 ≤ xs.length ∧ (∀ i, i < y.1 → c (nth xs i) < 0) ∧ ∀ i, y.2 ≤ i → i < xs.length → ¬ c (nth xs i) < 0) (fun y => y.2 - y.1) (0, xs.length) ⟨by simp, by simp, fun i hi => by simp at hi, fun i h1 h2 => by simp at h1; omega⟩ (by exact .cons rfl (.cons rfl (.cons rfl (.cons rfl (.cons rfl (.cons rfl .nil)))))) (fun _ h => h) ?_
  rintro ⟨i, j⟩ ⟨hij, hj, hlo, hhi⟩
  dsimp only at hij hj hlo hhi ⊢
  refine cw_seq (cw_seq (cw_region (sr rfl rfl rfl ((q_move rfl rfl)) (sr rfl rfl rfl ((q_move rfl rfl)) (sr rfl rfl rfl ((q_lss rfl rfl rfl)) (sw_nil (post_then ?_)))))))
  refine cw_cond rfl (fun h => ?_) (fun h => ?_)
  · skip
    have hlt : i < j := by simp at h; omega
    have e1 := half_wrap (i := i) (j := j) (by omega)
    have hk : (i + j) / 2 < xs.length := by omega
    refine cw_skip (post_then (cw_block (cw_seq (cw_region (sr rfl rfl rfl ((q_move rfl rfl)) (sr rfl rfl rfl ((q_move rfl rfl)) (sr rfl rfl rfl ((q_add_w rfl rfl rfl)) (sr rfl rfl rfl ((q_conv rfl rfl)) ?_))))))))
    refine sr rfl rfl rfl ((q_shr rfl rfl rfl (by exact fun _ => ⟨by decide, by decide⟩))) ?_
    refine sr rfl rfl rfl ((q_convE e1 rfl rfl)) (sr rfl rfl rfl ((q_assign rfl rfl)) (sw_nil (post_then (cw_seq (cw_region (sr rfl rfl rfl ((q_move rfl rfl)) (sr rfl rfl rfl ((q_move rfl rfl)) (sr rfl rfl rfl ((q_move rfl rfl)) ?_))))))))
    refine sr rfl rfl rfl ((q_indexN rfl rfl rfl (by exact fun w hw => Stb.cl (by assumption) hw) (by intro hc; omega))) ?_
    refine sr rfl rfl rfl ((q_loadEl rfl rfl rfl (by exact fun w hw => Stb.cl (by assumption) hw) (by intro hc; omega))) ?_
    refine sr rfl rfl rfl ((q_move rfl rfl)) (sw_step rfl rfl rfl (q_callv hgc rfl rfl (.cons rfl inferInstance (.cons rfl inferInstance (.nil))) (fun _ w' hw => callq hw (hg (nth xs ((i + j) / 2)) (nth_mem hk) w' (hR.cl hw)))) (sr rfl rfl rfl ((q_lss rfl rfl rfl)) (sw_nil (post_then ?_))))
    refine cw_cond rfl (fun h2 => ?_) (fun h2 => ?_)
    · skip
      refine cw_region (sr rfl rfl rfl ((q_move rfl rfl)) ?_)
      refine sr rfl rfl rfl ((q_add rfl rfl rfl (by intro hc; omega))) ?_
      refine sr rfl rfl rfl ((q_assign rfl rfl)) (sw_nil (post_blk ?_))
      refine post_next ((i + j) / 2 + 1, j) (by exact .cons rfl (.cons rfl (.cons rfl (.cons rfl (.cons rfl (.cons rfl .nil)))))) (fun _ h => h) ⟨by simp only; omega, by simp only; omega, fun a ha => ?_, hhi⟩ (by simp only; omega)
      simp at h2 ha
      rcases Nat.lt_or_ge a ((i + j) / 2) with h3 | h3
      · exact hm a _ h3 hk h2
      · have : a = (i + j) / 2 := by omega
        rw [this]; exact h2
    · skip
      refine cw_region (sr rfl rfl rfl ((q_move rfl rfl)) (sr rfl rfl rfl ((q_assign rfl rfl)) (sw_nil (post_blk ?_))))
      refine post_next (i, (i + j) / 2) (by exact .cons rfl (.cons rfl (.cons rfl (.cons rfl (.cons rfl (.cons rfl .nil)))))) (fun _ h => h) ⟨by simp only; omega, by simp only; omega, hlo, fun a ha ha2 => ?_⟩ (by simp only; omega)
      simp at h2 ha
      rcases Nat.lt_or_ge ((i + j) / 2) a with h3 | h3
      · intro h4
        have := hm _ _ h3 ha2 h4
        omega
      · have : a = (i + j) / 2 := by omega
        rw [this]; omega
  · skip
    have hlt : i = j := by simp at h; omega
    subst hlt
    have e2 : lowB c xs = i := lowB_at hj hlo fun h1 => hhi i (Nat.le_refl _) h1
    refine cw_exit (post_then_x (post_then_x (post_blk_eq (post_then (cw_seq (cw_region (sr rfl rfl rfl ((q_move rfl rfl)) (sr rfl rfl rfl ((q_move rfl rfl)) (sr rfl rfl rfl ((q_move rfl rfl)) (sr rfl rfl rfl ((q_lss rfl rfl rfl)) (sr rfl rfl rfl ((q_move rfl rfl)) (sr rfl rfl rfl ((q_move rfl rfl)) (sr rfl rfl rfl ((q_move rfl rfl)) (sr rfl rfl rfl ((q_move rfl rfl)) ?_))))))))))))))
    refine sr rfl rfl rfl ((q_indexN rfl rfl rfl (by exact fun w hw => Stb.cl (by assumption) hw) (by intro hc; (simp only [AllT.iff, List.all_cons, List.all_nil, id, Bool.and_eq_true, Bool.not_eq_true', decide_eq_true_eq, decide_eq_false_iff_not, and_true] at hc; omega)))) ?_
    refine sr rfl rfl rfl ((q_loadEl rfl rfl rfl (by exact fun w hw => Stb.cl (by assumption) hw) (by intro hc; (simp only [AllT.iff, List.all_cons, List.all_nil, id, Bool.and_eq_true, Bool.not_eq_true', decide_eq_true_eq, decide_eq_false_iff_not, and_true] at hc; omega)))) ?_
    refine sr rfl rfl rfl ((q_move rfl rfl)) ?_
    refine sw_step rfl rfl rfl (q_callv hgc rfl rfl (.cons rfl inferInstance (.cons rfl inferInstance (.nil))) (fun hc w' hw => callq hw (hg (nth xs i) (nth_mem (by simp [AllT] at hc; omega)) w' (hR.cl hw)))) ?_
    refine sr rfl rfl rfl ((q_eql rfl rfl rfl)) (sr rfl rfl rfl ((q_and2 rfl rfl rfl)) (sr rfl rfl rfl ((q_assign rfl rfl)) (sr rfl rfl rfl ((q_assign rfl rfl)) (sw_nil (post_then (cw_ret (post_ret2 rfl (resOk_tmp rfl) (resOk_tmp rfl) ?_)))))))
    refine fun w' hw => ⟨?_, hw⟩
    rw [e2]
    congr 6
    rw [Bool.eq_iff_iff]; simp
theorem searchSp_spec (sv : Value) (xs : List Sp) (t : ByteArray) (g : FuncId) (cap : Array Value) (c : Sp → Int) (R : World → Prop) (w : World) (hs : Stb w [] (RdL sv xs)) (hR : Stb w [] R) (hgc : CanCall Tryz.prog g) (hg : CmpT Tryz.prog g cap (.string t) c R xs) (hm : Halves c xs) :
    Calls Tryz.prog 163 #[sv, .string t, .func (.func g) #[] cap] w fun e w' => e = .returned (.tuple #[.int .i64 (lowB c xs), .bool (decide (lowB c xs < xs.length ∧ c (nth xs (lowB c xs)) = 0))]) ∧ Cl w [] [] w' := by
  have hL := rd_len hs.here
  refine calls_cw (vs := [_, _, _]) Tryz.func163 rfl Tryz.ntmps163 rfl (Cl.start0 w) (cw_seq (cw_region (sr rfl rfl rfl ((q_assign rfl rfl)) (sr rfl rfl rfl ((q_assign rfl rfl)) (sw_nil (post_then (cw_seq (cw_region (sr rfl rfl rfl ((q_move rfl rfl)) ?_)))))))))
  refine sr rfl rfl rfl ((q_len rfl (.cons rfl inferInstance (.nil)) (by exact fun w hw => Stb.cl (by assumption) hw))) ?_
  refine sr rfl rfl rfl ((q_assign rfl rfl)) (sw_nil (post_then (cw_seq (cw_region (sr rfl rfl rfl ((q_move rfl rfl)) (sr rfl rfl rfl ((q_assign rfl rfl)) (sr rfl rfl rfl ((q_assign rfl rfl)) (sw_nil (post_then (cw_seq (cw_block ?_)))))))))))
  refine cw_loop (S := Nat × Nat) (fun y => [(0, [], sv), (1, [], .string t), (2, [], .func (.func g) #[] cap), (8, [], .int .i64 xs.length), (9, [], .int .i64 y.1), (10, [], .int .i64 y.2)]) (fun _ => Cl w [] []) (fun y => y.1 ≤ y.2 ∧ y.2 ≤ xs.length ∧ (∀ i, i < y.1 → c (nth xs i) < 0) ∧ ∀ i, y.2 ≤ i → i < xs.length → ¬ c (nth xs i) < 0) (fun y => y.2 - y.1) (0, xs.length) ⟨by simp, by simp, fun i hi => by simp at hi, fun i h1 h2 => by simp at h1; omega⟩ (by exact .cons rfl (.cons rfl (.cons rfl (.cons rfl (.cons rfl (.cons rfl .nil)))))) (fun _ h => h) ?_
  rintro ⟨i, j⟩ ⟨hij, hj, hlo, hhi⟩
  dsimp only at hij hj hlo hhi ⊢
  refine cw_seq (cw_seq (cw_region (sr rfl rfl rfl ((q_move rfl rfl)) (sr rfl rfl rfl ((q_move rfl rfl)) (sr rfl rfl rfl ((q_lss rfl rfl rfl)) (sw_nil (post_then ?_)))))))
  refine cw_cond rfl (fun h => ?_) (fun h => ?_)
  · skip
    have hlt : i < j := by simp at h; omega
    have e1 := half_wrap (i := i) (j := j) (by omega)
    have hk : (i + j) / 2 < xs.length := by omega
    refine cw_skip (post_then (cw_block (cw_seq (cw_region (sr rfl rfl rfl ((q_move rfl rfl)) (sr rfl rfl rfl ((q_move rfl rfl)) (sr rfl rfl rfl ((q_add_w rfl rfl rfl)) (sr rfl rfl rfl ((q_conv rfl rfl)) ?_))))))))
    refine sr rfl rfl rfl ((q_shr rfl rfl rfl (by exact fun _ => ⟨by decide, by decide⟩))) ?_
    refine sr rfl rfl rfl ((q_convE e1 rfl rfl)) (sr rfl rfl rfl ((q_assign rfl rfl)) (sw_nil (post_then (cw_seq (cw_region (sr rfl rfl rfl ((q_move rfl rfl)) (sr rfl rfl rfl ((q_move rfl rfl)) (sr rfl rfl rfl ((q_move rfl rfl)) ?_))))))))
    refine sr rfl rfl rfl ((q_indexN rfl rfl rfl (by exact fun w hw => Stb.cl (by assumption) hw) (by intro hc; omega))) ?_
    refine sr rfl rfl rfl ((q_loadEl rfl rfl rfl (by exact fun w hw => Stb.cl (by assumption) hw) (by intro hc; omega))) ?_
    refine sr rfl rfl rfl ((q_move rfl rfl)) (sw_step rfl rfl rfl (q_callv hgc rfl rfl (.cons rfl inferInstance (.cons rfl inferInstance (.nil))) (fun _ w' hw => callq hw (hg (nth xs ((i + j) / 2)) (nth_mem hk) w' (hR.cl hw)))) (sr rfl rfl rfl ((q_lss rfl rfl rfl)) (sw_nil (post_then ?_))))
    refine cw_cond rfl (fun h2 => ?_) (fun h2 => ?_)
    · skip
      refine cw_region (sr rfl rfl rfl ((q_move rfl rfl)) ?_)
      refine sr rfl rfl rfl ((q_add rfl rfl rfl (by intro hc; omega))) ?_
      refine sr rfl rfl rfl ((q_assign rfl rfl)) (sw_nil (post_blk ?_))
      refine post_next ((i + j) / 2 + 1, j) (by exact .cons rfl (.cons rfl (.cons rfl (.cons rfl (.cons rfl (.cons rfl .nil)))))) (fun _ h => h) ⟨by simp only; omega, by simp only; omega, fun a ha => ?_, hhi⟩ (by simp only; omega)
      simp at h2 ha
      rcases Nat.lt_or_ge a ((i + j) / 2) with h3 | h3
      · exact hm a _ h3 hk h2
      · have : a = (i + j) / 2 := by omega
        rw [this]; exact h2
    · skip
      refine cw_region (sr rfl rfl rfl ((q_move rfl rfl)) (sr rfl rfl rfl ((q_assign rfl rfl)) (sw_nil (post_blk ?_))))
      refine post_next (i, (i + j) / 2) (by exact .cons rfl (.cons rfl (.cons rfl (.cons rfl (.cons rfl (.cons rfl .nil)))))) (fun _ h => h) ⟨by simp only; omega, by simp only; omega, hlo, fun a ha ha2 => ?_⟩ (by simp only; omega)
      simp at h2 ha
      rcases Nat.lt_or_ge ((i + j) / 2) a with h3 | h3
      · intro h4
        have := hm _ _ h3 ha2 h4
        omega
      · have : a = (i + j) / 2 := by omega
        rw [this]; omega
  · skip
    have hlt : i = j := by simp at h; omega
    subst hlt
    have e2 : lowB c xs = i := lowB_at hj hlo fun h1 => hhi i (Nat.le_refl _) h1
    refine cw_exit (post_then_x (post_then_x (post_blk_eq (post_then (cw_seq (cw_region (sr rfl rfl rfl ((q_move rfl rfl)) (sr rfl rfl rfl ((q_move rfl rfl)) (sr rfl rfl rfl ((q_move rfl rfl)) (sr rfl rfl rfl ((q_lss rfl rfl rfl)) (sr rfl rfl rfl ((q_move rfl rfl)) (sr rfl rfl rfl ((q_move rfl rfl)) (sr rfl rfl rfl ((q_move rfl rfl)) (sr rfl rfl rfl ((q_move rfl rfl)) ?_))))))))))))))
    refine sr rfl rfl rfl ((q_indexN rfl rfl rfl (by exact fun w hw => Stb.cl (by assumption) hw) (by intro hc; (simp only [AllT.iff, List.all_cons, List.all_nil, id, Bool.and_eq_true, Bool.not_eq_true', decide_eq_true_eq, decide_eq_false_iff_not, and_true] at hc; omega)))) ?_
    refine sr rfl rfl rfl ((q_loadEl rfl rfl rfl (by exact fun w hw => Stb.cl (by assumption) hw) (by intro hc; (simp only [AllT.iff, List.all_cons, List.all_nil, id, Bool.and_eq_true, Bool.not_eq_true', decide_eq_true_eq, decide_eq_false_iff_not, and_true] at hc; omega)))) ?_
    refine sr rfl rfl rfl ((q_move rfl rfl)) ?_
    refine sw_step rfl rfl rfl (q_callv hgc rfl rfl (.cons rfl inferInstance (.cons rfl inferInstance (.nil))) (fun hc w' hw => callq hw (hg (nth xs i) (nth_mem (by simp [AllT] at hc; omega)) w' (hR.cl hw)))) ?_
    refine sr rfl rfl rfl ((q_eql rfl rfl rfl)) (sr rfl rfl rfl ((q_and2 rfl rfl rfl)) (sr rfl rfl rfl ((q_assign rfl rfl)) (sr rfl rfl rfl ((q_assign rfl rfl)) (sw_nil (post_then (cw_ret (post_ret2 rfl (resOk_tmp rfl) (resOk_tmp rfl) ?_)))))))
    refine fun w' hw => ⟨?_, hw⟩
    rw [e2]
    congr 6
    rw [Bool.eq_iff_iff]; simp
theorem searchLet_spec (sv : Value) (xs : List Let) (t : Int) (g : FuncId) (cap : Array Value) (c : Let → Int) (R : World → Prop) (w : World) (hs : Stb w [] (RdL sv xs)) (hR : Stb w [] R) (hgc : CanCall Tryz.prog g) (hg : CmpT Tryz.prog g cap (.int .i32 t) c R xs) (hm : Halves c xs) :
    Calls Tryz.prog 165 #[sv, .int .i32 t, .func (.func g) #[] cap] w fun e w' => e = .returned (.tuple #[.int .i64 (lowB c xs), .bool (decide (lowB c xs < xs.length ∧ c (nth xs (lowB c xs)) = 0))]) ∧ Cl w [] [] w' := by
  have hL := rd_len hs.here
  refine calls_cw (vs := [_, _, _]) Tryz.func165 rfl Tryz.ntmps165 rfl (Cl.start0 w) (cw_seq (cw_region (sr rfl rfl rfl ((q_assign rfl rfl)) (sr rfl rfl rfl ((q_assign rfl rfl)) (sw_nil (post_then (cw_seq (cw_region (sr rfl rfl rfl ((q_move rfl rfl)) ?_)))))))))
  refine sr rfl rfl rfl ((q_len rfl (.cons rfl inferInstance (.nil)) (by exact fun w hw => Stb.cl (by assumption) hw))) ?_
  refine sr rfl rfl rfl ((q_assign rfl rfl)) (sw_nil (post_then (cw_seq (cw_region (sr rfl rfl rfl ((q_move rfl rfl)) (sr rfl rfl rfl ((q_assign rfl rfl)) (sr rfl rfl rfl ((q_assign rfl rfl)) (sw_nil (post_then (cw_seq (cw_block ?_)))))))))))
  refine cw_loop (S := Nat × Nat) (fun y => [(0, [], sv), (1, [], .int .i32 t), (2, [], .func (.func g) #[] cap), (8, [], .int .i64 xs.length), (9, [], .int .i64 y.1), (10, [], .int .i64 y.2)]) (fun _ => Cl w [] []) (fun y => y.1 ≤ y.2 ∧ y.2 ≤ xs.length ∧ (∀ i, i < y.1 → c (nth xs i) < 0) ∧ ∀ i, y.2 ≤ i → i < xs.length → ¬ c (nth xs i) < 0) (fun y => y.2 - y.1) (0, xs.length) ⟨by simp, by simp, fun i hi => by simp at hi, fun i h1 h2 => by simp at h1; omega⟩ (by exact .cons rfl (.cons rfl (.cons rfl (.cons rfl (.cons rfl (.cons rfl .nil)))))) (fun _ h => h) ?_
  rintro ⟨i, j⟩ ⟨hij, hj, hlo, hhi⟩
  dsimp only at hij hj hlo hhi ⊢
  refine cw_seq (cw_seq (cw_region (sr rfl rfl rfl ((q_move rfl rfl)) (sr rfl rfl rfl ((q_move rfl rfl)) (sr rfl rfl rfl ((q_lss rfl rfl rfl)) (sw_nil (post_then ?_)))))))
  refine cw_cond rfl (fun h => ?_) (fun h => ?_)
  · skip
    have hlt : i < j := by simp at h; omega
    have e1 := half_wrap (i := i) (j := j) (by omega)
    have hk : (i + j) / 2 < xs.length := by omega
    refine cw_skip (post_then (cw_block (cw_seq (cw_region (sr rfl rfl rfl ((q_move rfl rfl)) (sr rfl rfl rfl ((q_move rfl rfl)) (sr rfl rfl rfl ((q_add_w rfl rfl rfl)) (sr rfl rfl rfl ((q_conv rfl rfl)) ?_))))))))
    refine sr rfl rfl rfl ((q_shr rfl rfl rfl (by exact fun _ => ⟨by decide, by decide⟩))) ?_
    refine sr rfl rfl rfl ((q_convE e1 rfl rfl)) (sr rfl rfl rfl ((q_assign rfl rfl)) (sw_nil (post_then (cw_seq (cw_region (sr rfl rfl rfl ((q_move rfl rfl)) (sr rfl rfl rfl ((q_move rfl rfl)) (sr rfl rfl rfl ((q_move rfl rfl)) ?_))))))))
    refine sr rfl rfl rfl ((q_indexN rfl rfl rfl (by exact fun w hw => Stb.cl (by assumption) hw) (by intro hc; omega))) ?_
    refine sr rfl rfl rfl ((q_loadEl rfl rfl rfl (by exact fun w hw => Stb.cl (by assumption) hw) (by intro hc; omega))) ?_
    refine sr rfl rfl rfl ((q_move rfl rfl)) (sw_step rfl rfl rfl (q_callv hgc rfl rfl (.cons rfl inferInstance (.cons rfl inferInstance (.nil))) (fun _ w' hw => callq hw (hg (nth xs ((i + j) / 2)) (nth_mem hk) w' (hR.cl hw)))) (sr rfl rfl rfl ((q_lss rfl rfl rfl)) (sw_nil (post_then ?_))))
    refine cw_cond rfl (fun h2 => ?_) (fun h2 => ?_)
    · skip
      refine cw_region (sr rfl rfl rfl ((q_move rfl rfl)) ?_)
      refine sr rfl rfl rfl ((q_add rfl rfl rfl (by intro hc; omega))) ?_
      refine sr rfl rfl rfl ((q_assign rfl rfl)) (sw_nil (post_blk ?_))
      refine post_next ((i + j) / 2 + 1, j) (by exact .cons rfl (.cons rfl (.cons rfl (.cons rfl (.cons rfl (.cons rfl .nil)))))) (fun _ h => h) ⟨by simp only; omega, by simp only; omega, fun a ha => ?_, hhi⟩ (by simp only; omega)
      simp at h2 ha
      rcases Nat.lt_or_ge a ((i + j) / 2) with h3 | h3
      · exact hm a _ h3 hk h2
      · have : a = (i + j) / 2 := by omega
        rw [this]; exact h2
    · skip
      refine cw_region (sr rfl rfl rfl ((q_move rfl rfl)) (sr rfl rfl rfl ((q_assign rfl rfl)) (sw_nil (post_blk ?_))))
      refine post_next (i, (i + j) / 2) (by exact .cons rfl (.cons rfl (.cons rfl (.cons rfl (.cons rfl (.cons rfl .nil)))))) (fun _ h => h) ⟨by simp only; omega, by simp only; omega, hlo, fun a ha ha2 => ?_⟩ (by simp only; omega)
      simp at h2 ha
      rcases Nat.lt_or_ge ((i + j) / 2) a with h3 | h3
      · intro h4
        have := hm _ _ h3 ha2 h4
        omega
      · have : a = (i + j) / 2 := by omega
        rw [this]; omega
  · skip
    have hlt : i = j := by simp at h; omega
    subst hlt
    have e2 : lowB c xs = i := lowB_at hj hlo fun h1 => hhi i (Nat.le_refl _) h1
    refine cw_exit (post_then_x (post_then_x (post_blk_eq (post_then (cw_seq (cw_region (sr rfl rfl rfl ((q_move rfl rfl)) (sr rfl rfl rfl ((q_move rfl rfl)) (sr rfl rfl rfl ((q_move rfl rfl)) (sr rfl rfl rfl ((q_lss rfl rfl rfl)) (sr rfl rfl rfl ((q_move rfl rfl)) (sr rfl rfl rfl ((q_move rfl rfl)) (sr rfl rfl rfl ((q_move rfl rfl)) (sr rfl rfl rfl ((q_move rfl rfl)) ?_))))))))))))))
    refine sr rfl rfl rfl ((q_indexN rfl rfl rfl (by exact fun w hw => Stb.cl (by assumption) hw) (by intro hc; (simp only [AllT.iff, List.all_cons, List.all_nil, id, Bool.and_eq_true, Bool.not_eq_true', decide_eq_true_eq, decide_eq_false_iff_not, and_true] at hc; omega)))) ?_
    refine sr rfl rfl rfl ((q_loadEl rfl rfl rfl (by exact fun w hw => Stb.cl (by assumption) hw) (by intro hc; (simp only [AllT.iff, List.all_cons, List.all_nil, id, Bool.and_eq_true, Bool.not_eq_true', decide_eq_true_eq, decide_eq_false_iff_not, and_true] at hc; omega)))) ?_
    refine sr rfl rfl rfl ((q_move rfl rfl)) ?_
    refine sw_step rfl rfl rfl (q_callv hgc rfl rfl (.cons rfl inferInstance (.cons rfl inferInstance (.nil))) (fun hc w' hw => callq hw (hg (nth xs i) (nth_mem (by simp [AllT] at hc; omega)) w' (hR.cl hw)))) ?_
    refine sr rfl rfl rfl ((q_eql rfl rfl rfl)) (sr rfl rfl rfl ((q_and2 rfl rfl rfl)) (sr rfl rfl rfl ((q_assign rfl rfl)) (sr rfl rfl rfl ((q_assign rfl rfl)) (sw_nil (post_then (cw_ret (post_ret2 rfl (resOk_tmp rfl) (resOk_tmp rfl) ?_)))))))
    refine fun w' hw => ⟨?_, hw⟩
    rw [e2]
    congr 6
    rw [Bool.eq_iff_iff]; simp
theorem equalL_spec (sa sb : Value) (a b : List ByteArray) (w : World) (ha : Stb w [] (RdL sa a)) (hb : Stb w [] (RdL sb b)) : Calls Tryz.prog 100 #[sa, sb] w fun e w' => e = .returned (.bool (decide (a = b))) ∧ Cl w [] [] w' := by
  have hLa := rd_len ha.here
  have hLb := rd_len hb.here
  refine calls_cw (vs := [_, _]) Tryz.func100 rfl Tryz.ntmps100 rfl (Cl.start0 w) (cw_seq (cw_region (sr rfl rfl rfl ((q_assign rfl rfl)) (sw_nil (post_then (cw_seq (cw_seq (cw_region (sr rfl rfl rfl ((q_move rfl rfl)) ?_)))))))))
  refine sr rfl rfl rfl ((q_len rfl (.cons rfl inferInstance (.nil)) (by exact fun w hw => Stb.cl (by assumption) hw))) ?_
  refine sr rfl rfl rfl ((q_move rfl rfl)) ?_
  refine sr rfl rfl rfl ((q_len rfl (.cons rfl inferInstance (.nil)) (by exact fun w hw => Stb.cl (by assumption) hw))) ?_
  refine sr rfl rfl rfl ((q_neq rfl rfl rfl)) (sw_nil (post_then ?_))
  refine cw_cond rfl (fun h => ?_) (fun h => ?_)
  · skip
    have h2 : ¬ a = b := fun e => by subst e; simp at h
    refine cw_seq (cw_region (sr rfl rfl rfl ((q_assign rfl rfl)) (sw_nil (post_then (cw_ret (post_then_r (post_ret1 rfl (resOk_tmp rfl) ?_)))))))
    exact fun w' hw => ⟨by rw [decide_eq_false h2], hw⟩
  · skip
    have hl : a.length = b.length := by simp at h; omega
    refine cw_skip (post_then (cw_seq (cw_seq (cw_region (sr rfl rfl rfl ((q_move rfl rfl)) ?_)))))
    refine sr rfl rfl rfl ((q_len rfl (.cons rfl inferInstance (.nil)) (by exact fun w hw => Stb.cl (by assumption) hw))) ?_
    refine sr rfl rfl rfl ((q_move rfl rfl)) (sw_nil (post_then (cw_block ?_)))
    refine cw_loop (S := Nat) (fun k => [(0, [], sa), (1, [], sb), (12, [], .int .i64 a.length), (13, [], .int .i64 k)]) (fun _ => Cl w [] []) (fun k => k ≤ a.length ∧ ∀ j, j < k → nth a j = nth b j) (fun k => a.length - k) 0 ⟨Nat.zero_le _, fun j hj => by omega⟩ (by exact .cons rfl (.cons rfl (.cons rfl (.cons rfl .nil)))) (fun _ h => h) ?_
    rintro k ⟨hk, hbe⟩
    refine cw_seq (cw_region (sr rfl rfl rfl ((q_lss rfl rfl rfl)) (sw_nil (post_then (cw_seq ?_)))))
    refine cw_cond rfl (fun h2 => ?_) (fun h2 => ?_)
    · skip
      have hk' : k < a.length := by simp at h2; omega
      refine cw_skip (post_then (cw_seq (cw_block (cw_seq (cw_region (sr rfl rfl rfl ((q_move rfl rfl)) (sr rfl rfl rfl ((q_assign rfl rfl)) (sw_nil (post_then (cw_seq ?_))))))))))
      refine cw_region_q mixed_Tryz (by kernel_rfl) ?_
      refine qr rfl rfl rfl ((q_move rfl rfl)) (qr rfl rfl rfl ((q_move rfl rfl)) ?_)
      refine qr rfl rfl rfl ((q_indexN rfl rfl rfl (by exact fun w hw => Stb.cl (by assumption) hw) (by intro hc; omega))) ?_
      refine qr rfl rfl rfl ((q_loadEl rfl rfl rfl (by exact fun w hw => Stb.cl (by assumption) hw) (by intro hc; omega))) ?_
      refine qr rfl rfl rfl ((q_move rfl rfl)) (qr rfl rfl rfl ((q_move rfl rfl)) ?_)
      refine qr rfl rfl rfl ((q_indexN rfl rfl rfl (by exact fun w hw => Stb.cl (by assumption) hw) (by intro hc; omega))) ?_
      refine qr rfl rfl rfl ((q_loadEl rfl rfl rfl (by exact fun w hw => Stb.cl (by assumption) hw) (by intro hc; omega))) ?_
      refine qr rfl rfl rfl ((q_neqStr rfl rfl rfl Tryz.underlying9)) (qw_end (post_then ?_))
      refine cw_cond rfl (fun h3 => ?_) (fun h3 => ?_)
      · skip
        have h4 : ¬ a = b := fun e => by subst e; simp at h3
        refine cw_seq (cw_region (sr rfl rfl rfl ((q_assign rfl rfl)) (sw_nil (post_then (cw_ret (post_blk_r (post_then_r (post_then_r (post_blk_r (post_then_r (post_ret1 rfl (resOk_tmp rfl) ?_)))))))))))
        exact fun w' hw => ⟨by rw [decide_eq_false h4], hw⟩
      · skip
        have h4 : nth a k = nth b k := by simpa using h3
        refine cw_skip (post_blk (post_then (cw_region ?_)))
        refine sr rfl rfl rfl ((q_add rfl rfl rfl (by intro hc; omega))) ?_
        refine sr rfl rfl rfl ((q_move rfl rfl)) (sw_nil ?_)
        exact post_next (k + 1) (by exact .cons rfl (.cons rfl (.cons rfl (.cons rfl .nil)))) (fun _ h => h) ⟨by omega, fun j hj => by
          rcases Nat.lt_or_ge j k with h5 | h5
          · exact hbe j h5
          · have : j = k := by omega
            subst this; exact h4⟩ (by omega)
    · skip
      have hk' : k = a.length := by simp at h2; omega
      have h4 : a = b := List.ext_getElem hl fun i h5 h6 => by
        have := hbe i (by omega)
        rwa [nth_get h5, nth_get h6] at this
      refine cw_exit (post_then_x (post_then_x (post_blk_eq (post_then (cw_seq (cw_region (sr rfl rfl rfl ((q_assign rfl rfl)) (sw_nil (post_then (cw_ret (post_ret1 rfl (resOk_tmp rfl) ?_)))))))))))
      exact fun w' hw => ⟨by rw [decide_eq_true h4], hw⟩
theorem cloneL_spec (s : SlV) (l : List ByteArray) (hlen : l.length ≤ 1000000) (w : World) (hs : Stb w [] (RdL s.v l)) : Calls Tryz.prog 87 #[s.v] w fun e w' => ∃ r : SlV, e = .returned r.v ∧ (l = [] → r.len = 0) ∧ Cl w [] [ownL 9 r.v l] w' := by
  have hL := rd_len hs.here
  refine calls_cw (vs := [_]) Tryz.func87 rfl Tryz.ntmps87 rfl (Cl.start0 w) (cw_seq (cw_region (sr rfl rfl rfl ((q_assign rfl rfl)) (sw_nil (post_then (cw_seq (cw_seq (cw_region (sr rfl rfl rfl ((q_move rfl rfl)) (sr rfl rfl rfl ((q_eqlNil rfl rfl)) (sw_nil (post_then ?_))))))))))))
  refine cw_cond rfl (fun h => ?_) (fun h => ?_)
  · skip
    have h1 : l = [] := rd_nil hs.here (by simpa using h)
    refine cw_seq (cw_region (sr rfl rfl rfl ((q_assign rfl rfl)) (sw_nil (post_then (cw_ret (post_then_r (post_ret1 rfl (resOk_tmp rfl) ?_)))))))
    exact fun w' hw => ⟨⟨none, 0, 0⟩, rfl, fun _ => rfl, by rw [h1]; exact Cl.addNil 9 hw⟩
  · skip
    refine cw_skip (post_then (cw_seq (cw_region ?_)))
    refine sw_x rfl rfl rfl (e_buildL (α := ByteArray) (l := []) rfl (.nil) rfl rfl rfl rfl) (fun s5 => ?_)
    refine sr rfl rfl rfl ((q_move rfl rfl)) ?_
    refine sw_x rfl rfl rfl (e_append (i := 0) rfl (.cons rfl inferInstance (.cons rfl inferInstance (.nil))) rfl rfl (by exact fun w hw => Stb.cl (by assumption) hw) (by first | omega | (simp only [List.length_set, List.length_append, List.length_cons, List.length_nil, List.length_replicate, List.length_take, List.length_drop, List.length_map]; omega)) rfl) (fun s7 => ?_)
    refine sr rfl rfl rfl ((q_assign rfl rfl)) (sw_nil (post_then (cw_ret (post_ret1 rfl (resOk_tmp rfl) ?_))))
    refine fun w' hw => ⟨s7, rfl, fun h1 => ?_, (fun w h => Cl.sel (by exact .take 0 rfl (.nil _)) w h) _ hw⟩
    have := rd_own (e := 9) hw (.head _)
    have := this.len
    simp [h1] at this; omega
end Go.Proofs.YtkmbliojafefdaaGreatDoor

/-
  DERIVED: THE SHELF's CONTRACTS AT THIS DUMP, IN PLAIN WORDS (tools/lay-plain.mjs out of 'TryzShelf.lean', which tools/lay-shelf.mjs wrote): THE SAME DECLARATIONS UNDER THE SAME NAMES: 'import', 'namespace', 'open', 'def', 'theorem' AND NOTHING ELSE: no command of the shelf's: FOR A HAND-IN. Each laying: the table of numbers ('.._ren') and one theorem, a field a fact of the dump's own or the kernel's comparison; each contract: ONE APPLICATION.
-/
namespace Go.Proofs
open Go.Shelf
def Tryz.lays156_ren : Go.Shelf.Ren := ⟨fun | 156 => 185 | 165 => 199 | 166 => 200 | 169 => 201 | 240 => 209 | 241 => 210 | 276 => 212 | 277 => 213 | n => n, fun | 31 => 23 | 9 => 9 | 3 => 3 | 4 => 4 | 0 => 0 | 20 => 20 | 72 => 269 | 76 => 273 | 70 => 266 | 37 => 267 | 75 => 272 | 127 => 282 | 164 => 284 | 5 => 5 | 80 => 275 | n => n, fun | n => n⟩
theorem Tryz.lays156 : Go.Proofs.Lays.n156 Tryz.prog Tryz.lays156_ren := {
  mixed := by kernel_rfl
  f156 := Tryz.func185.trans (congrArg some (by kernel_rfl))
  f165 := Tryz.func199.trans (congrArg some (by kernel_rfl))
  f166 := Tryz.func200.trans (congrArg some (by kernel_rfl))
  f169 := Tryz.func201.trans (congrArg some (by kernel_rfl))
  f240 := Tryz.func209.trans (congrArg some (by kernel_rfl))
  f241 := Tryz.func210.trans (congrArg some (by kernel_rfl))
  f276 := Tryz.func212.trans (congrArg some (by kernel_rfl))
  f277 := Tryz.func213.trans (congrArg some (by kernel_rfl))
  t0 := Tryz.underlying0
  a0 := Tryz.isAgg0
  z0 := Tryz.sizeOf0
  v0 := Tryz.zeroValue0
  t3 := Tryz.underlying3
  a3 := Tryz.isAgg3
  z3 := Tryz.sizeOf3
  v3 := Tryz.zeroValue3
  t4 := Tryz.underlying4
  a4 := Tryz.isAgg4
  z4 := Tryz.sizeOf4
  v4 := Tryz.zeroValue4
  t9 := Tryz.underlying9
  a9 := Tryz.isAgg9
  z9 := Tryz.sizeOf9
  v9 := Tryz.zeroValue9
  t20 := Tryz.underlying20
  a20 := Tryz.isAgg20
  z20 := Tryz.sizeOf20
  v20 := Tryz.zeroValue20
  t31 := Tryz.underlying23
  a31 := Tryz.isAgg23
  z31 := Tryz.sizeOf23
  v31 := Tryz.zeroValue23
  t37 := Tryz.underlying267
  a37 := Tryz.isAgg267
  z37 := Tryz.sizeOf267
  v37 := Tryz.zeroValue267
  t70 := Tryz.underlying266
  a70 := Tryz.isAgg266
  z70 := Tryz.sizeOf266
  v70 := Tryz.zeroValue266
  t72 := Tryz.underlying269
  a72 := Tryz.isAgg269
  z72 := Tryz.sizeOf269
  v72 := Tryz.zeroValue269
  t75 := Tryz.underlying272
  a75 := Tryz.isAgg272
  z75 := Tryz.sizeOf272
  v75 := Tryz.zeroValue272
  t76 := Tryz.underlying273
  a76 := Tryz.isAgg273
  z76 := Tryz.sizeOf273
  v76 := Tryz.zeroValue273
  t127 := Tryz.underlying282
  a127 := Tryz.isAgg282
  z127 := Tryz.sizeOf282
  v127 := Tryz.zeroValue282
  t164 := Tryz.underlying284
  a164 := Tryz.isAgg284
  z164 := Tryz.sizeOf284
  v164 := Tryz.zeroValue284 }
theorem Tryz.Builder_Extra_156 : Builder.Extra Tryz.prog Tryz.lays156_ren := {
  sizeBuilder := by kernel_rfl
  liesBuilder := by kernel_rfl
  t5 := Tryz.underlying5
  a5 := Tryz.isAgg5
  z5 := Tryz.sizeOf5
  v5 := Tryz.zeroValue5
  infoByte := by kernel_rfl
  cellsByte := by kernel_rfl
  sizeByte := by kernel_rfl
  neB5 := by decide }
open Go.RowKit in
/-- No element: the empty string; the world is as it was. (Whatever the slice's address and capacity: a nil slice too.) (LAID: no walk: one application.) -/
theorem Tryz.strings_Join_none (a : Option Addr) (c : Nat) (sep : ByteArray) (w : World) :
    Calls Tryz.prog 185 #[.slice a 0 c, .string sep] w fun e w' => e = .returned (.string ⟨#[]⟩) ∧ w' = w := Any.strings_Join_none Tryz.lays156 Tryz.Builder_Extra_156 a c sep w
open Go.RowKit in
/-- strings.Join: "Join concatenates the elements of its first argument to create a single string. The separator string sep is placed between elements in the resulting string.": HOWEVER MANY ELEMENTS. Below the heap's end the world is as it was. (LAID: no walk: one application.) -/
theorem Tryz.strings_Join (bk o c : Nat) (xs : List ByteArray) (sep : ByteArray) (w : World) (hcells : ∀ (j : Nat) x, xs[j]? = some x → w.cell? ⟨bk, o + j, none⟩ = some (.string x)) (hbk : bk < w.heap.size) (hN : xs.length ≤ 140737488355328) (hcap : xs.length ≤ c) (hlen : (Lib.join (xs.map (·.data.toList)) sep.data.toList).length ≤ 140737488355328) :
    Calls Tryz.prog 185 #[.slice (some ⟨bk, o, none⟩) xs.length c, .string sep] w fun e w' => e = .returned (.string ⟨(Lib.join (xs.map (·.data.toList)) sep.data.toList).toArray⟩) ∧ Below w.heap.size w w' := Any.strings_Join Tryz.lays156 Tryz.Builder_Extra_156 bk o c xs sep w hcells hbk hN hcap hlen
def Tryz.lays106_ren : Go.Shelf.Ren := ⟨fun | 106 => 94 | 213 => 132 | 265 => 161 | n => n, fun | 9 => 9 | 3 => 3 | n => n, fun | n => n⟩
theorem Tryz.lays106 : Go.Proofs.Lays.n106 Tryz.prog Tryz.lays106_ren := {
  mixed := by kernel_rfl
  f106 := Tryz.func94.trans (congrArg some (by kernel_rfl))
  f213 := Tryz.func132.trans (congrArg some (by kernel_rfl))
  f265 := Tryz.func161.trans (congrArg some (by kernel_rfl))
  t3 := Tryz.underlying3
  a3 := Tryz.isAgg3
  z3 := Tryz.sizeOf3
  v3 := Tryz.zeroValue3
  t9 := Tryz.underlying9
  a9 := Tryz.isAgg9
  z9 := Tryz.sizeOf9
  v9 := Tryz.zeroValue9 }
open Go.RowKit in
/-- strings.Compare: "Compare returns an integer comparing two strings lexicographically. The result will be 0 if a == b, -1 if a < b, and +1 if a > b.": IT RETURNS 'Lib.compareBytes a b'; the world is as it was. (LAID: no walk: one application.) -/
theorem Tryz.strings_Compare (a b : ByteArray) (w : World) :
    Calls Tryz.prog 94 #[.string a, .string b] w fun e w' => e = .returned (.int .i64 (Lib.compareBytes a.data.toList b.data.toList)) ∧ w' = w := Any.strings_Compare Tryz.lays106 a b w
def Tryz.lays196_ren : Go.Shelf.Ren := ⟨fun | 196 => 65 | 259 => 115 | n => n, fun | 9 => 9 | 4 => 4 | 3 => 3 | 5 => 5 | 12 => 12 | 119 => 170 | 0 => 0 | 46 => 174 | 139 => 173 | 138 => 172 | 53 => 203 | n => n, fun | 3 => 0 | 4 => 1 | n => n⟩
theorem Tryz.lays196 : Go.Proofs.Lays.n196 Tryz.prog Tryz.lays196_ren := {
  mixed := by kernel_rfl
  f196 := Tryz.func65.trans (congrArg some (by kernel_rfl))
  f259 := Tryz.func115.trans (congrArg some (by kernel_rfl))
  t0 := Tryz.underlying0
  a0 := Tryz.isAgg0
  z0 := Tryz.sizeOf0
  v0 := Tryz.zeroValue0
  t3 := Tryz.underlying3
  a3 := Tryz.isAgg3
  z3 := Tryz.sizeOf3
  v3 := Tryz.zeroValue3
  t4 := Tryz.underlying4
  a4 := Tryz.isAgg4
  z4 := Tryz.sizeOf4
  v4 := Tryz.zeroValue4
  t5 := Tryz.underlying5
  a5 := Tryz.isAgg5
  z5 := Tryz.sizeOf5
  v5 := Tryz.zeroValue5
  t9 := Tryz.underlying9
  a9 := Tryz.isAgg9
  z9 := Tryz.sizeOf9
  v9 := Tryz.zeroValue9
  t12 := Tryz.underlying12
  a12 := Tryz.isAgg12
  z12 := Tryz.sizeOf12
  v12 := Tryz.zeroValue12
  t46 := Tryz.underlying174
  a46 := Tryz.isAgg174
  z46 := Tryz.sizeOf174
  v46 := Tryz.zeroValue174
  t53 := Tryz.underlying203
  a53 := Tryz.isAgg203
  z53 := Tryz.sizeOf203
  v53 := Tryz.zeroValue203
  t119 := Tryz.underlying170
  a119 := Tryz.isAgg170
  z119 := Tryz.sizeOf170
  t138 := Tryz.underlying172
  a138 := Tryz.isAgg172
  z138 := Tryz.sizeOf172
  v138 := Tryz.zeroValue172
  t139 := Tryz.underlying173
  a139 := Tryz.isAgg173
  z139 := Tryz.sizeOf173
  v139 := Tryz.zeroValue173
  g3 := by kernel_rfl
  g4 := by kernel_rfl }
open Go.RowKit in
/-- utf8.ValidString -/
theorem Tryz.utf8_ValidString (s : ByteArray) (w : World) (hs : s.size ≤ 9223372036854775807) (hT : Lib.Utf8Tabs (Tryz.lays196_ren.g 3) (Tryz.lays196_ren.g 4) w) :
    Calls Tryz.prog 65 #[.string s] w fun e w' => e = .returned (.bool (Lib.validD s.data.toList)) ∧ Below w.heap.size w w' := Any.utf8_ValidString Tryz.lays196 s w hs hT
end Go.Proofs

set_option autoImplicit false
set_option maxRecDepth 100000
namespace Go.Proofs.YtkmbliojafefdaaGreatDoor
open Go.Sx
open Enc (enc val)
/-- The tables of unicode/utf8 are laid. -/
def Tab (w : World) : Prop := Lib.Utf8Tabs 0 1 w
theorem tab_stb {w : World} (h : Tab w) : Stb w [] Tab := ⟨fun w' k => Utf8Tabs_below h (k.below)⟩
theorem cl_below {w w' : World} (h : RowKit.Below w.heap.size w w') : Cl w [] [] w' := ⟨Chg.of_below h, [], rfl, List.nodup_nil, fun b hb => by simp at hb⟩
def vstr (s : ByteArray) : Bool := Lib.validD s.data.toList
theorem validStr_spec (s : ByteArray) (w : World) (hs : s.size ≤ 9223372036854775807) (hT : Tab w) : Calls Tryz.prog 65 #[.string s] w fun e w' => e = .returned (.bool (vstr s)) ∧ Cl w [] [] w' :=
  (Tryz.utf8_ValidString s w hs hT).mono fun e w' ⟨h1, h2⟩ => ⟨h1, cl_below h2⟩
theorem strCmp_spec (a b : ByteArray) (w : World) : Calls Tryz.prog 94 #[.string a, .string b] w fun e w' => e = .returned (.int .i64 (cmpS a b)) ∧ Cl w [] [] w' :=
  (Tryz.strings_Compare a b w).mono fun e w' ⟨h1, h2⟩ => ⟨by rw [h1, cmpS_eq], by rw [h2]; exact Cl.start0 w⟩
/-- A word's letters. -/
def wordOk (s : ByteArray) : Bool := vstr s && (runes s).all (fun c => possC c.v) && (decide (1 ≤ (runes s).length) && decide ((runes s).length ≤ 40))
theorem runes_map (s : ByteArray) : runes s = (runesP s 0).map fun x => ⟨x.2⟩ := rfl
theorem isWord_spec (s : ByteArray) (w : World) (hs : s.size ≤ 9223372036854775806) (hT : Stb w [] Tab) : Calls Tryz.prog 62 #[.string s] w fun e w' => e = .returned (.bool (wordOk s)) ∧ Cl w [] [] w' := by
  have hs2 : s.size ≤ 9223372036854775807 := by omega
  refine calls_cw (vs := [_]) Tryz.func62 rfl Tryz.ntmps62 rfl (Cl.start0 w) (cw_seq (cw_region (sr rfl rfl rfl ((q_assign rfl rfl)) (sw_nil (post_then (cw_seq (cw_seq (cw_region (sr rfl rfl rfl ((q_move rfl rfl)) ?_)))))))))
  refine sw_step rfl rfl rfl (q_call (CanCall.mk Tryz.call65) rfl (.cons rfl inferInstance (.nil)) (fun _ w hw => callq hw (validStr_spec _ w (by assumption) (stb_arg hw (by assumption)).here))) ?_
  refine sr rfl rfl rfl ((q_not rfl rfl)) (sw_nil (post_then ?_))
  refine cw_cond rfl (fun h => ?_) (fun h => ?_)
  · skip
    have e : wordOk s = false := by simp at h; simp [wordOk, h]
    refine cw_seq (cw_region (sr rfl rfl rfl ((q_assign rfl rfl)) (sw_nil (post_then (cw_ret (post_then_r (post_ret1 rfl (resOk_tmp rfl) ?_)))))))
    exact fun w' hw => ⟨by rw [e], hw⟩
  · skip
    have hv : vstr s = true := by simpa using h
    refine cw_skip (post_then (cw_seq (cw_region (sr rfl rfl rfl ((q_assign rfl rfl)) (sw_nil (post_then (cw_seq (cw_seq (cw_region (sr rfl rfl rfl ((q_move rfl rfl)) ?_))))))))))
    refine sw_x rfl rfl rfl (e_rangeS rfl rfl Tryz.underlying9) (fun r10 => ?_)
    refine sw_nil (post_then (cw_block ?_))
    refine cw_loop (S := Nat × Nat) (fun y => [(3, [], .int .i64 y.2), (10, [], .pointer (some ⟨r10, 0, none⟩))]) (fun y => Cl w [] [obj r10 (.stringIter s y.1)]) (fun y => y.2 ≤ y.1 ∧ y.2 ≤ s.size ∧ (runesP s 0).length = y.2 + (runesP s y.1).length ∧ ((runesP s 0).all fun x => possC x.2) = ((runesP s y.1).all fun x => possC x.2)) (fun y => s.size - y.1) (0, 0) ⟨by simp, by simp, by simp, rfl⟩ (by exact .cons rfl (.cons rfl .nil)) (fun _ h => h) ?_
    rintro ⟨k, m⟩ ⟨hmk, hms, hlen, hall⟩
    dsimp only at hmk hms hlen hall ⊢
    refine cw_seq (cw_region ?_)
    refine sw_x rfl rfl rfl (e_nextS (i := 0) rfl rfl rfl) (fun y11 => ?_)
    refine sr rfl rfl rfl ((q_extract rfl rfl (nextSV_0 _ _))) (sw_nil (post_then (cw_seq ?_)))
    refine cw_cond rfl (fun h2 => ?_) (fun h2 => ?_)
    · skip
      have hk : k < s.size := by simpa using h2
      have hp := decode_pos s k
      have hst := runesP_step hk
      have hnp : nextSP s k = k + (Utf8.decode s k).2 := by simp [nextSP, hk]
      refine cw_skip (post_then (cw_block (cw_seq (cw_region ?_))))
      refine sr rfl rfl rfl ((q_extract rfl rfl (nextSV_2 (by assumption)))) ?_
      refine sr rfl rfl rfl ((q_assign rfl rfl)) (sw_nil (post_then (cw_seq (cw_seq (cw_region (sr rfl rfl rfl ((q_move rfl rfl)) (sw_step rfl rfl rfl (q_call (CanCall.mk Tryz.call76) rfl (.cons rfl inferInstance (.nil)) (fun _ w hw => callq hw (possible_spec _ w))) (sr rfl rfl rfl ((q_not rfl rfl)) (sw_nil (post_then ?_))))))))))
      refine cw_cond rfl (fun h3 => ?_) (fun h3 => ?_)
      · skip
        have e : wordOk s = false := by
          have h5 : ((runes s).all fun c => possC c.v) = false := by
            rw [runes_map, List.all_map]
            show ((runesP s 0).all fun x => possC x.2) = false
            rw [hall, hst]; simp at h3; simp [h3]
          simp [wordOk, h5]
        refine cw_seq (cw_region (sr rfl rfl rfl ((q_assign rfl rfl)) (sw_nil (post_then (cw_ret (post_then_r (post_blk_r (post_then_r (post_blk_r (post_then_r (post_ret1 rfl (resOk_tmp rfl) ?_)))))))))))
        exact fun w' hw => ⟨by rw [e], (fun w h => Cl.sel (by exact .nil _) w h) _ hw⟩
      · skip
        refine cw_skip (post_then (cw_region (sr rfl rfl rfl ((q_move rfl rfl)) ?_)))
        refine sr rfl rfl rfl ((q_add rfl rfl rfl (by intro hc; omega))) ?_
        refine sr rfl rfl rfl ((q_assign rfl rfl)) (sw_nil (post_blk ?_))
        refine post_next (k + (Utf8.decode s k).2, m + 1) (by exact .cons rfl (.cons rfl .nil)) (by rw [← hnp]; exact fun _ h => h) ⟨by simp only; omega, by simp only; omega, by rw [hlen, hst]; simp; omega, by rw [hall, hst]; simp at h3; simp [h3]⟩ (by simp only; omega)
    · skip
      have hk : ¬ k < s.size := by simpa using h2
      have he := runesP_end hk
      have h5 : ((runes s).all fun c => possC c.v) = true := by
        rw [runes_map, List.all_map]
        show ((runesP s 0).all fun x => possC x.2) = true
        rw [hall, he]; rfl
      have h6 : (runes s).length = m := by rw [runes_map, List.length_map, hlen, he]; rfl
      refine cw_exit (post_then_x (post_then_x (post_blk_eq (post_then (cw_seq (cw_region (sr rfl rfl rfl ((q_move rfl rfl)) (sr rfl rfl rfl ((q_geq rfl rfl rfl)) (sr rfl rfl rfl ((q_move rfl rfl)) (sr rfl rfl rfl ((q_move rfl rfl)) (sr rfl rfl rfl ((q_leq rfl rfl rfl)) (sr rfl rfl rfl ((q_and2 rfl rfl rfl)) (sr rfl rfl rfl ((q_assign rfl rfl)) (sw_nil (post_then (cw_ret (post_ret1 rfl (resOk_tmp rfl) ?_)))))))))))))))))
      refine fun w' hw => ⟨?_, (fun w h => Cl.sel (by exact .nil _) w h) _ hw⟩
      congr 2
      rw [Bool.eq_iff_iff]
      simp [wordOk, hv, h5, h6]
      omega
theorem letters_spec (s : ByteArray) (w : World) (hs : s.size ≤ 1000000) : Calls Tryz.prog 110 #[.string s] w fun e w' => ∃ r : SlV, e = .returned r.v ∧ True ∧ Cl w [] [ownL 21 r.v (runes s)] w' := by
  refine calls_cw (vs := [_]) Tryz.func110 rfl Tryz.ntmps110 rfl (Cl.start0 w) (cw_seq (cw_region (sr rfl rfl rfl ((q_assign rfl rfl)) (sw_nil (post_then (cw_seq (cw_region (sr rfl rfl rfl ((q_assign rfl rfl)) (sw_nil (post_then (cw_seq (cw_seq (cw_region (sr rfl rfl rfl ((q_move rfl rfl)) ?_))))))))))))))
  refine sw_x rfl rfl rfl (e_rangeS rfl rfl Tryz.underlying9) (fun r7 => ?_)
  refine sw_nil (post_then (cw_block ?_))
  refine cw_loop (S := Nat × SlV × List Rn) (fun y => [(3, [], y.2.1.v), (7, [], .pointer (some ⟨r7, 0, none⟩))]) (fun y => Cl w [] [ownL 21 y.2.1.v y.2.2, obj r7 (.stringIter s y.1)]) (fun y => y.2.2.length ≤ y.1 ∧ y.2.2.length ≤ s.size ∧ runes s = y.2.2 ++ (runesP s y.1).map fun x => ⟨x.2⟩) (fun y => s.size - y.1) (0, ⟨none, 0, 0⟩, []) ⟨by simp, by simp, rfl⟩ (by exact .cons rfl (.cons rfl .nil)) (fun _ h => Cl.addNil 21 h) ?_
  rintro ⟨k, so, l⟩ ⟨hlk, hls, hall⟩
  dsimp only at hlk hls hall ⊢
  refine cw_seq (cw_region ?_)
  refine sw_x rfl rfl rfl (e_nextS (i := 1) rfl rfl rfl) (fun y11 => ?_)
  refine sr rfl rfl rfl ((q_extract rfl rfl (nextSV_0 _ _))) (sw_nil (post_then (cw_seq ?_)))
  refine cw_cond rfl (fun h2 => ?_) (fun h2 => ?_)
  · skip
    have hk : k < s.size := by simpa using h2
    have hp := decode_pos s k
    have hst := runesP_step hk
    have hnp : nextSP s k = k + (Utf8.decode s k).2 := by simp [nextSP, hk]
    refine cw_skip (post_then (cw_block (cw_seq (cw_region ?_))))
    refine sr rfl rfl rfl ((q_extract rfl rfl (nextSV_2 (by assumption)))) ?_
    refine sr rfl rfl rfl ((q_assign rfl rfl)) (sw_nil (post_then (cw_region (sr rfl rfl rfl ((q_move rfl rfl)) (sr rfl rfl rfl ((q_move rfl rfl)) ?_)))))
    refine sw_x rfl rfl rfl (e_build1 (α := Rn) (x := ⟨(Utf8.decode s k).1⟩) rfl rfl rfl rfl) (fun s13 => ?_)
    refine sw_x rfl rfl rfl (e_append (i := 1) rfl (.cons rfl inferInstance (.cons rfl inferInstance (.nil))) rfl rfl (by exact fun w hw => rd_own hw (by exact .head _)) (by first | omega | (simp only [List.length_set, List.length_append, List.length_cons, List.length_nil, List.length_replicate, List.length_take, List.length_drop, List.length_map]; omega)) rfl) (fun s14 => ?_)
    refine sr rfl rfl rfl ((q_assign rfl rfl)) (sw_nil (post_blk ?_))
    refine post_next (k + (Utf8.decode s k).2, s14, l ++ [⟨(Utf8.decode s k).1⟩]) (by exact .cons rfl (.cons rfl .nil)) (fun w' hw' => ?_) ⟨by simp; omega, by simp; omega, by rw [hall, hst]; simp⟩ (by simp only; omega)
    rw [← hnp]
    exact (fun w h => Cl.sel (by exact .take 1 rfl (.take 1 rfl (.nil _))) w h) _ hw'
  · skip
    have hk : ¬ k < s.size := by simpa using h2
    have he := runesP_end hk
    have e : l = runes s := by rw [hall, he]; simp
    refine cw_exit (post_then_x (post_then_x (post_blk_eq (post_then (cw_seq (cw_region (sr rfl rfl rfl ((q_move rfl rfl)) (sr rfl rfl rfl ((q_assign rfl rfl)) (sw_nil (post_then (cw_ret (post_ret1 rfl (resOk_tmp rfl) ?_))))))))))))
    exact fun w' hw => ⟨so, rfl, trivial, by rw [← e]; exact (fun w h => Cl.sel (by exact .take 0 rfl (.nil _)) w h) _ hw⟩
end Go.Proofs.YtkmbliojafefdaaGreatDoor

set_option autoImplicit false
set_option maxRecDepth 100000
namespace Go.Proofs.YtkmbliojafefdaaGreatDoor
open Go.Sx
open Enc (enc val)
def lettersR (s : ByteArray) : List Rn := if vstr s = true ∧ (runes s).all (fun c => possC c.v) = true then runes s else []
theorem lettersR_ok {s : ByteArray} (h : wordOk s = true) : lettersR s = runes s := by
  simp only [wordOk, Bool.and_eq_true] at h
  unfold lettersR
  rw [if_pos ⟨h.1.1, h.1.2⟩]
theorem refLetters_spec (s : ByteArray) (w : World) (hs : s.size ≤ 1000000) (hT : Stb w [] Tab) : Calls Tryz.prog 21 #[.string s] w fun e w' => ∃ r : SlV, e = .returned (.tuple #[r.v, .bool (wordOk s)]) ∧ True ∧ Cl w [] [ownL 21 r.v (lettersR s)] w' := by
  have hs2 : s.size ≤ 9223372036854775807 := by omega
  have hrl := runes_len_le s
  refine calls_cw (vs := [_]) Tryz.func21 rfl Tryz.ntmps21 rfl (Cl.start0 w) (cw_seq (cw_region (sr rfl rfl rfl ((q_assign rfl rfl)) (sr rfl rfl rfl ((q_assign rfl rfl)) (sw_nil (post_then (cw_seq (cw_seq (cw_region (sr rfl rfl rfl ((q_move rfl rfl)) ?_))))))))))
  refine sw_step rfl rfl rfl (q_call (CanCall.mk Tryz.call65) rfl (.cons rfl inferInstance (.nil)) (fun _ w hw => callq hw (validStr_spec _ w (by assumption) (stb_arg hw (by assumption)).here))) ?_
  refine sr rfl rfl rfl ((q_not rfl rfl)) (sw_nil (post_then ?_))
  refine cw_cond rfl (fun h => ?_) (fun h => ?_)
  · skip
    have e : wordOk s = false := by simp at h; simp [wordOk, h]
    have e2 : lettersR s = [] := by simp at h; simp [lettersR, h]
    refine cw_seq (cw_region (sr rfl rfl rfl ((q_assign rfl rfl)) (sr rfl rfl rfl ((q_assign rfl rfl)) (sw_nil (post_then (cw_ret (post_then_r (post_ret2 rfl (resOk_tmp rfl) (resOk_tmp rfl) ?_))))))))
    exact fun w' hw => ⟨⟨none, 0, 0⟩, by rw [e]; rfl, trivial, by rw [e2]; exact Cl.addNil 21 hw⟩
  · skip
    have hv : vstr s = true := by simpa using h
    refine cw_skip (post_then (cw_seq (cw_region (sr rfl rfl rfl ((q_move rfl rfl)) ?_))))
    refine sw_x rfl rfl rfl (e_runes rfl rfl Tryz.underlying9 Tryz.underlying21 (by omega)) (fun s10 => ?_)
    refine sr rfl rfl rfl ((q_assign rfl rfl)) (sw_nil (post_then (cw_seq (cw_seq (cw_region (sr rfl rfl rfl ((q_assign rfl rfl)) (sw_nil (post_then (cw_block ?_)))))))))
    refine cw_loop (S := Nat) (fun k => [(4, [], s10.v), (5, [], .int .i64 k)]) (fun k => Cl w [] [ownL 21 s10.v (runes s)]) (fun k => k ≤ (runes s).length ∧ ∀ j, j < k → possC (nth (runes s) j).v = true) (fun k => (runes s).length - k) 0 ⟨by simp, fun j hj => by omega⟩ (by exact .cons rfl (.cons rfl .nil)) (fun _ h => h) ?_
    rintro k ⟨hk, hbe⟩
    refine cw_seq (cw_seq (cw_region (sr rfl rfl rfl ((q_move rfl rfl)) (sr rfl rfl rfl ((q_move rfl rfl)) ?_))))
    refine sr rfl rfl rfl ((q_len rfl (.cons rfl inferInstance (.nil)) (by exact fun w hw => rd_own hw (by exact .head _)))) ?_
    refine sr rfl rfl rfl ((q_lss rfl rfl rfl)) (sw_nil (post_then ?_))
    refine cw_cond rfl (fun h2 => ?_) (fun h2 => ?_)
    · skip
      have hk' : k < (runes s).length := by simp at h2; omega
      refine cw_skip (post_then (cw_seq (cw_block (cw_seq (cw_region (sr rfl rfl rfl ((q_move rfl rfl)) (sr rfl rfl rfl ((q_move rfl rfl)) ?_)))))))
      refine sr rfl rfl rfl ((q_indexN rfl rfl rfl (by exact fun w hw => rd_own hw (by exact .head _)) (by intro hc; omega))) ?_
      refine sr rfl rfl rfl ((q_loadF rfl rfl rfl (by exact fun w hw => rd_own hw (by exact .head _)) (by intro hc; omega) rfl)) ?_
      refine sw_step rfl rfl rfl (q_call (CanCall.mk Tryz.call66) rfl (.cons rfl inferInstance (.nil)) (fun _ w hw => callq hw (refLetter_spec _ w))) (sr rfl rfl rfl ((q_not rfl rfl)) (sw_nil (post_then ?_)))
      refine cw_cond rfl (fun h3 => ?_) (fun h3 => ?_)
      · skip
        have h5 : ((runes s).all fun c => possC c.v) = false := by
          rw [List.all_eq_false]
          refine ⟨nth (runes s) k, nth_mem hk', ?_⟩
          simp at h3; simp [h3]
        have e : wordOk s = false := by simp [wordOk, h5]
        have e2 : lettersR s = [] := by simp [lettersR, h5]
        refine cw_seq (cw_region (sr rfl rfl rfl ((q_assign rfl rfl)) (sr rfl rfl rfl ((q_assign rfl rfl)) (sw_nil (post_then (cw_ret (post_blk_r (post_then_r (post_then_r (post_blk_r (post_then_r (post_ret2 rfl (resOk_tmp rfl) (resOk_tmp rfl) ?_))))))))))))
        exact fun w' hw => ⟨⟨none, 0, 0⟩, by rw [e]; rfl, trivial, by rw [e2]; exact Cl.addNil 21 ((fun w h => Cl.sel (by exact .nil _) w h) _ hw)⟩
      · skip
        refine cw_skip (post_blk (post_then (cw_region (sr rfl rfl rfl ((q_move rfl rfl)) ?_))))
        refine sr rfl rfl rfl ((q_add rfl rfl rfl (by intro hc; omega))) ?_
        refine sr rfl rfl rfl ((q_assign rfl rfl)) (sw_nil ?_)
        refine post_next (k + 1) (by exact .cons rfl (.cons rfl .nil)) (fun _ h => h) ⟨by omega, fun j hj => ?_⟩ (by omega)
        by_cases hjk : j = k
        · rw [hjk]; simpa using h3
        · exact hbe j (by omega)
    · skip
      have hk' : k = (runes s).length := by simp at h2; omega
      have h5 : ((runes s).all fun c => possC c.v) = true := by
        rw [List.all_eq_true]
        intro x hx
        obtain ⟨i, hi, rfl⟩ := List.getElem_of_mem hx
        rw [← nth_get hi]; exact hbe i (by omega)
      have e2 : lettersR s = runes s := by simp [lettersR, h5, hv]
      refine cw_exit (post_then_x (post_then_x (post_blk_eq (post_then (cw_seq (cw_region (sr rfl rfl rfl ((q_move rfl rfl)) (sr rfl rfl rfl ((q_move rfl rfl)) ?_))))))))
      refine sr rfl rfl rfl ((q_len rfl (.cons rfl inferInstance (.nil)) (by exact fun w hw => rd_own hw (by exact .head _)))) ?_
      refine sr rfl rfl rfl ((q_geq rfl rfl rfl)) (sr rfl rfl rfl ((q_move rfl rfl)) (sr rfl rfl rfl ((q_move rfl rfl)) ?_))
      refine sr rfl rfl rfl ((q_len rfl (.cons rfl inferInstance (.nil)) (by exact fun w hw => rd_own hw (by exact .head _)))) ?_
      refine sr rfl rfl rfl ((q_leq rfl rfl rfl)) (sr rfl rfl rfl ((q_and2 rfl rfl rfl)) (sr rfl rfl rfl ((q_assign rfl rfl)) (sr rfl rfl rfl ((q_assign rfl rfl)) (sw_nil (post_then (cw_ret (post_ret2 rfl (resOk_tmp rfl) (resOk_tmp rfl) ?_)))))))
      refine fun w' hw => ⟨s10, ?_, trivial, by rw [e2]; exact hw⟩
      congr 6
      rw [Bool.eq_iff_iff]
      simp [wordOk, hv, h5]
      omega
theorem stb_mem {α : Type} {w : World} {fp : List Nat} {R : α → World → Prop} {l : List α} (h : Stb w fp fun w' => ∀ x ∈ l, R x w') {x : α} (hx : x ∈ l) : Stb w fp (R x) := ⟨fun w' k => h.stb w' k _ hx⟩
def PrIn (u : Pr) (w : World) : Prop := RdL u.p.v u.pl w
def prOk (u : Pr) : Bool := possC u.c && phonesOk u.pl 3 && decide (0 ≤ u.cost) && decide (u.cost ≤ 1000)
/-- What the program thinks of pairs: 0, 2 or 4. -/
def prsE (l : List Pr) : Int := if 1000 < l.length then 4 else if riseB prC l && l.all prOk then 0 else 2
theorem okPr_spec (l : List Pr) : PredL Tryz.prog 107 #[] (fun u => !prOk u) (fun w => ∀ u ∈ l, PrIn u w) l := by
  intro u hu w hR
  have r1 : Stb w [] (RdL u.p.v u.pl) := rd_stb (hR u hu)
  refine calls_cw (vs := [_]) Tryz.func107 rfl Tryz.ntmps107 rfl (Cl.start0 w) (cw_seq (cw_region ?_))
  refine sw_x rfl rfl rfl (e_box rfl rfl rfl) (fun b1 => ?_)
  refine sr rfl rfl rfl ((q_assign rfl rfl)) (sw_nil (post_then (cw_seq (cw_region (sr rfl rfl rfl ((q_fieldAddr rfl rfl)) ?_)))))
  refine sr rfl rfl rfl ((q_loadC rfl rfl (by exact .head _) rfl)) ?_
  refine sw_step rfl rfl rfl (q_call (CanCall.mk Tryz.call76) rfl (.cons rfl inferInstance (.nil)) (fun _ w hw => callq hw (possible_spec _ w))) (sr rfl rfl rfl ((q_not rfl rfl)) (sr rfl rfl rfl ((q_move rfl rfl)) (sr rfl rfl rfl ((q_fieldAddr rfl rfl)) ?_)))
  refine sr rfl rfl rfl ((q_loadC rfl rfl (by exact .head _) rfl)) ?_
  refine sw_step rfl rfl rfl (q_call (CanCall.mk Tryz.call63) rfl (.cons rfl inferInstance (.cons rfl inferInstance (.nil))) (fun _ w hw => callq hw (phones_spec _ _ _ w (by exact stb_arg hw (by assumption))))) ?_
  refine sr rfl rfl rfl ((q_not rfl rfl)) (sr rfl rfl rfl ((q_or2 rfl rfl rfl)) (sr rfl rfl rfl ((q_move rfl rfl)) (sr rfl rfl rfl ((q_fieldAddr rfl rfl)) ?_)))
  refine sr rfl rfl rfl ((q_loadC rfl rfl (by exact .head _) rfl)) ?_
  refine sr rfl rfl rfl ((q_lss rfl rfl rfl)) (sr rfl rfl rfl ((q_or2 rfl rfl rfl)) (sr rfl rfl rfl ((q_move rfl rfl)) (sr rfl rfl rfl ((q_fieldAddr rfl rfl)) ?_)))
  refine sr rfl rfl rfl ((q_loadC rfl rfl (by exact .head _) rfl)) ?_
  refine sr rfl rfl rfl ((q_gtr rfl rfl rfl)) (sr rfl rfl rfl ((q_or2 rfl rfl rfl)) (sr rfl rfl rfl ((q_assign rfl rfl)) (sw_nil (post_then (cw_ret (post_ret1 rfl (resOk_tmp rfl) ?_))))))
  refine fun w' hw => ⟨?_, (fun w h => Cl.sel (by exact .nil _) w h) _ hw⟩
  congr 2
  unfold prOk; dsimp only
  have e1 : decide (u.cost < 0) = !decide (0 ≤ u.cost) := by rw [Bool.eq_iff_iff]; simp
  have e2 : decide (1000 < u.cost) = !decide (u.cost ≤ 1000) := by rw [Bool.eq_iff_iff]; simp
  rw [e1, e2]
  cases possC u.c <;> cases phonesOk u.pl 3 <;> cases decide (0 ≤ u.cost) <;> cases decide (u.cost ≤ 1000) <;> rfl
theorem cmpPr_spec (l : List Pr) : CmpL Tryz.prog 105 #[] prC (fun w => ∀ u ∈ l, PrIn u w) l := fun x hx y hy w hR => byPair_spec x y w (rd_stb (hR x hx)) (rd_stb (hR y hy))
theorem all_not_any {α : Type} (p : α → Bool) (l : List α) : (l.any fun x => !p x) = !l.all p := by
  induction l with
  | nil => rfl
  | cons x l ih => simp only [List.any_cons, List.all_cons, ih, Bool.not_and]
theorem pairs_spec (sv : Value) (l : List Pr) (w : World) (hs : Stb w [] (RdL sv l)) (hp : Stb w [] fun w' => ∀ u ∈ l, PrIn u w') : Calls Tryz.prog 61 #[sv] w fun e w' => e = .returned (.int .i64 (prsE l)) ∧ Cl w [] [] w' := by
  have hL := rd_len hs.here
  refine calls_cw (vs := [_]) Tryz.func61 rfl Tryz.ntmps61 rfl (Cl.start0 w) (cw_seq (cw_region (sr rfl rfl rfl ((q_assign rfl rfl)) (sw_nil (post_then (cw_seq (cw_seq (cw_region (sr rfl rfl rfl ((q_move rfl rfl)) ?_)))))))))
  refine sr rfl rfl rfl ((q_len rfl (.cons rfl inferInstance (.nil)) (by exact fun w hw => Stb.cl (by assumption) hw))) ?_
  refine sr rfl rfl rfl ((q_gtr rfl rfl rfl)) (sw_nil (post_then ?_))
  refine cw_cond rfl (fun h => ?_) (fun h => ?_)
  · skip
    have e : prsE l = 4 := by simp at h; unfold prsE; rw [if_pos (by omega)]
    refine cw_seq (cw_region (sr rfl rfl rfl ((q_assign rfl rfl)) (sw_nil (post_then (cw_ret (post_then_r (post_ret1 rfl (resOk_tmp rfl) ?_)))))))
    exact fun w' hw => ⟨by rw [e], hw⟩
  · skip
    have h1 : ¬ 1000 < l.length := by simp at h; omega
    refine cw_skip (post_then (cw_seq (cw_seq (cw_region (sr rfl rfl rfl ((q_move rfl rfl)) ?_)))))
    refine sw_step rfl rfl rfl (q_call (CanCall.mk Tryz.call104) rfl (.cons rfl inferInstance (.cons rfl inferInstance (.nil))) (fun _ w hw => callq hw (risePr_spec _ _ _ _ _ _ w (by exact stb_arg hw (by assumption)) (stb_arg hw hp) (CanCall.mk Tryz.call105) (cmpPr_spec l)))) ?_
    refine sr rfl rfl rfl ((q_not rfl rfl)) (sr rfl rfl rfl ((q_move rfl rfl)) (sr rfl rfl rfl ((q_move rfl rfl)) ?_))
    refine sw_step rfl rfl rfl (q_call (CanCall.mk Tryz.call106) rfl (.cons rfl inferInstance (.cons rfl inferInstance (.nil))) (fun _ w hw => callq hw (hasPr_spec _ _ _ _ _ _ w (by exact stb_arg hw (by assumption)) (stb_arg hw hp) (CanCall.mk Tryz.call107) (okPr_spec l)))) ?_
    refine sr rfl rfl rfl ((q_or2 rfl rfl rfl)) (sw_nil (post_then ?_))
    rw [all_not_any]
    refine cw_cond rfl (fun h2 => ?_) (fun h2 => ?_)
    · skip
      have e : prsE l = 2 := by
        unfold prsE; rw [if_neg h1, if_neg]
        cases h3 : riseB prC l <;> cases h4 : l.all prOk <;> simp [h3, h4] at h2 ⊢
      refine cw_seq (cw_region (sr rfl rfl rfl ((q_assign rfl rfl)) (sw_nil (post_then (cw_ret (post_then_r (post_ret1 rfl (resOk_tmp rfl) ?_)))))))
      exact fun w' hw => ⟨by rw [e], hw⟩
    · skip
      have e : prsE l = 0 := by
        unfold prsE; rw [if_neg h1, if_pos]
        cases h3 : riseB prC l <;> cases h4 : l.all prOk <;> simp [h3, h4] at h2 ⊢
      refine cw_skip (post_then (cw_seq (cw_region (sr rfl rfl rfl ((q_assign rfl rfl)) (sw_nil (post_then (cw_ret (post_ret1 rfl (resOk_tmp rfl) ?_))))))))
      exact fun w' hw => ⟨by rw [e], hw⟩
end Go.Proofs.YtkmbliojafefdaaGreatDoor

set_option autoImplicit false
set_option maxRecDepth 100000
namespace Go.Proofs.YtkmbliojafefdaaGreatDoor
open Go.Sx
def pre (x l : List ByteArray) : Bool := decide (x.length ≤ l.length) && decide (l.take x.length = x)
def offers (p : List Pr) (c : Int) : List Pr := p.filter fun x => decide (x.c = c)
def tryC (rest : List ByteArray → Int) (l : List ByteArray) (x : Pr) : Int := if pre x.pl l = true ∧ 0 ≤ rest (l.drop x.pl.length) then x.cost + rest (l.drop x.pl.length) else -1
def stepC (f : Pr → Int) (b : Int) (x : Pr) : Int := if 0 ≤ f x ∧ (b < 0 ∨ f x < b) then f x else b
def leastC (p : List Pr) : List Rn → List ByteArray → Int
  | [], l => if l = [] then 0 else -1
  | c :: ws, l => (offers p c.v).foldl (stepC (tryC (leastC p ws) l)) (-1)
def pathC (p : List Pr) : List Rn → List ByteArray → List (List ByteArray)
  | [], _ => []
  | c :: ws, l => match (offers p c.v).find? fun x => decide (tryC (leastC p ws) l x = leastC p (c :: ws) l) with
    | some x => x.pl :: pathC p ws (l.drop x.pl.length)
    | none => []
theorem fold_mem (f : Pr → Int) : ∀ (xs : List Pr) (b : Int), xs.foldl (stepC f) b = b ∨ ∃ x ∈ xs, f x = xs.foldl (stepC f) b ∧ 0 ≤ f x
  | [], b => .inl rfl
  | x :: xs, b => by
    rw [List.foldl_cons]
    rcases fold_mem f xs (stepC f b x) with h | ⟨y, hy, h⟩
    · rw [h]
      unfold stepC
      split
      · rename_i h2; exact .inr ⟨x, .head _, rfl, h2.1⟩
      · exact .inl rfl
    · exact .inr ⟨y, .tail _ hy, h⟩
theorem take_fold {β α : Type} [Inhabited α] (g : β → α → β) (b : β) {xs : List α} {k : Nat} (hk : k < xs.length) : (xs.take (k + 1)).foldl g b = g ((xs.take k).foldl g b) (nth xs k) := by
  rw [List.take_succ_eq_append_getElem hk, List.foldl_append, nth_get hk]; rfl
def CostOk (p : List Pr) : Prop := ∀ x ∈ p, 0 ≤ x.cost ∧ x.cost ≤ 1000
theorem offers_mem {p : List Pr} {c : Int} {x : Pr} : x ∈ offers p c ↔ x ∈ p ∧ x.c = c := by simp [offers]
theorem least_bd {p : List Pr} (hp : CostOk p) : ∀ (ws : List Rn) (l : List ByteArray), -1 ≤ leastC p ws l ∧ leastC p ws l ≤ 1000 * ws.length
  | [], l => by unfold leastC; split <;> simp
  | c :: ws, l => by
    show -1 ≤ (offers p c.v).foldl _ (-1) ∧ (offers p c.v).foldl _ (-1) ≤ _
    rcases fold_mem (tryC (leastC p ws) l) (offers p c.v) (-1) with h | ⟨x, hx, h, h0⟩
    · rw [h]; simp; omega
    · rw [← h]
      have h1 := hp x (offers_mem.1 hx).1
      have h2 := least_bd hp ws (l.drop x.pl.length)
      unfold tryC at h0 ⊢
      split
      · simp only [List.length_cons]; omega
      · simp only [List.length_cons]; omega
theorem try_ok {f : List ByteArray → Int} {l : List ByteArray} {x : Pr} (h : 0 ≤ tryC f l x) : pre x.pl l = true ∧ 0 ≤ f (l.drop x.pl.length) := by
  unfold tryC at h
  split at h
  · assumption
  · omega
/-- A letter with a way on has an offer that takes it. -/
theorem path_step {p : List Pr} {c : Rn} {ws : List Rn} {l : List ByteArray} (h : 0 ≤ leastC p (c :: ws) l) : ∃ x, (offers p c.v).find? (fun x => decide (tryC (leastC p ws) l x = leastC p (c :: ws) l)) = some x ∧ x ∈ offers p c.v ∧ pre x.pl l = true ∧ 0 ≤ leastC p ws (l.drop x.pl.length) ∧ pathC p (c :: ws) l = x.pl :: pathC p ws (l.drop x.pl.length) := by
  have h1 : ∃ x, (offers p c.v).find? (fun x => decide (tryC (leastC p ws) l x = leastC p (c :: ws) l)) = some x := by
    rw [← Option.isSome_iff_exists, List.find?_isSome]
    rcases fold_mem (tryC (leastC p ws) l) (offers p c.v) (-1) with h2 | ⟨x, hx, h2, h3⟩
    · have : leastC p (c :: ws) l = -1 := h2
      omega
    · exact ⟨x, hx, by rw [decide_eq_true_eq]; exact h2⟩
  obtain ⟨x, hx⟩ := h1
  have h2 := List.find?_some hx
  simp only [decide_eq_true_eq] at h2
  have h3 := try_ok (by rw [h2]; exact h)
  refine ⟨x, hx, List.mem_of_find?_eq_some hx, h3.1, h3.2, ?_⟩
  show (match (offers p c.v).find? _ with | some x => _ | none => _) = _
  rw [hx]
theorem offers_cut {p : List Pr} {c : Int} {fr tq : Nat} (h1 : fr ≤ tq) (h2 : tq ≤ p.length) (hl : ∀ i, i < fr → (nth p i).c ≠ c) (he : ∀ i, fr ≤ i → i < tq → (nth p i).c = c) (hr : ∀ i, tq ≤ i → i < p.length → (nth p i).c ≠ c) : offers p c = (p.take tq).drop fr := by
  have e : p = p.take fr ++ ((p.take tq).drop fr ++ p.drop tq) := by
    rw [← List.append_assoc]
    have : p.take fr = (p.take tq).take fr := by rw [List.take_take, Nat.min_eq_left h1]
    rw [this, List.take_append_drop, List.take_append_drop]
  unfold offers
  conv => lhs; rw [e]
  rw [List.filter_append, List.filter_append]
  have f1 : (p.take fr).filter (fun x => decide (x.c = c)) = [] := by
    rw [List.filter_eq_nil_iff]
    intro x hx
    obtain ⟨i, hi, rfl⟩ := List.getElem_of_mem hx
    simp only [List.length_take] at hi
    have := hl i (by omega)
    rw [nth_get (by omega)] at this
    simpa using this
  have f2 : ((p.take tq).drop fr).filter (fun x => decide (x.c = c)) = (p.take tq).drop fr := by
    rw [List.filter_eq_self]
    intro x hx
    obtain ⟨i, hi, rfl⟩ := List.getElem_of_mem hx
    simp only [List.length_drop, List.length_take] at hi
    have := he (fr + i) (by omega) (by omega)
    rw [nth_get (by omega)] at this
    simpa using this
  have f3 : (p.drop tq).filter (fun x => decide (x.c = c)) = [] := by
    rw [List.filter_eq_nil_iff]
    intro x hx
    obtain ⟨i, hi, rfl⟩ := List.getElem_of_mem hx
    simp only [List.length_drop] at hi
    have := hr (tq + i) (by omega) (by omega)
    rw [nth_get (by omega)] at this
    simpa using this
  rw [f1, f2, f3]; simp
end Go.Proofs.YtkmbliojafefdaaGreatDoor

/-
  Maps keyed by pairs of integers; the two halves of m[k]++ in a draw. General lemmas, no program text.
-/
set_option autoImplicit false
set_option linter.unusedSectionVars false
namespace Go.Sx
open Enc (enc val)
structure P2 where
  a : Int
  b : Int
deriving DecidableEq
instance : Inhabited P2 := ⟨⟨0, 0⟩⟩
instance : Enc P2 := ⟨fun c => [.int .i64 c.a, .int .i64 c.b], 2, fun c => .agg #[.int .i64 c.a, .int .i64 c.b], fun _ => rfl, by simp [Value.oneCell'], fun _ => rfl, by decide⟩
section pair
variable {P : Program} {kt : TypeId} {e : TypeId}
end pair
/-- An array: its elements' size and its zero value. -/
class ArT (P : Program) (t : TypeId) (sz : outParam Nat) (z : outParam (List Value)) : Prop where
  built : ∀ parts, P.built t parts = Instr.fill (fun i => some (i * sz, sz)) z.toArray parts
theorem q_buildA {P : Program} {n : Fr} {E : Env} {C : World → Prop} {cs : List Bool} {o : Oper} {t : TypeId} {ps : List (Nat × Operand)} {vs : List Value} {cells z : List Value} {sz : Nat} (ho : o.op = .build t ps.toArray) (hv : Evs E cs (ps.map (·.2)) vs) [ht : ArT P t sz z]
    (hb0 : Instr.fill (fun i => some (i * sz, sz)) z.toArray ((ps.map (·.1)).zip vs) = some cells.toArray) : OpR P n E C cs o (.agg cells.toArray) :=
  .of_run fun e he hc w _ => by
    have hb := (ht.built ((ps.map (·.1)).zip vs)).trans hb0
    clear hb0
    unfold execOp; simp only [ho]
    have h1 : ps.map (fun (i, x) => (i, e.eval x)) = (ps.map (·.1)).zip vs := by
      rw [← hv.eval he hc]
      clear ho hb hv
      induction ps with
      | nil => rfl
      | cons p ps ih => simp [ih]
    simp only [List.map_toArray, h1]
    simp [run_build (P := P) w t ((ps.map (·.1)).zip vs).toArray cells.toArray hb]
section mem
variable {κ ν : Type} [DecidableEq κ] [Enc κ] [Enc ν] {P : Program} {n : Fr} {E : Env} {C : World → Prop} {cs : List Bool} {o : Oper} {w0 : World} {fp : List Nat} {H : List Asn}
structure EntX (κ ν : Type) where
  es : Ents κ ν
  clock : Nat
  m : Nat
  v : ν
  st : Nat
structure EntXok (z : ν) (l : List (κ × ν)) (k : κ) (X : EntX κ ν) : Prop where
  ok : EntsOk X.es X.clock
  at' : X.es[X.m]? = some (k, X.v, X.st)
  get : ∀ k', getZ z (kvs X.es) k' = getZ z l k'
  put : ∀ u, kvs (X.es.modify X.m fun e => (k, u, e.2.2)) = upd l k u
theorem getZ_push {z : ν} {l : List (κ × ν)} {k : κ} (h : get? l k = none) (k' : κ) : getZ z (l ++ [(k, z)]) k' = getZ z l k' := by
  induction l with
  | nil =>
    simp only [List.nil_append, getZ, get?]
    split <;> rfl
  | cons x l ih =>
    obtain ⟨a, b⟩ := x
    simp only [get?] at h
    split at h
    · cases h
    · have := ih h
      simp only [List.cons_append, getZ, get?] at this ⊢
      split
      · rfl
      · exact this
theorem modify_last {α : Type} (l : List α) (x : α) (f : α → α) : (l ++ [x]).modify l.length f = l ++ [f x] := by
  induction l with
  | nil => rfl
  | cons y l ih => simp [ih]
theorem run_mapEntry {t kt et : TypeId} {z : ν} [ht : MapT P t kt et] [hK : KeyT P kt κ] [hz : ZeroV P et ν z] {w : World} {b clock : Nat} {es : Ents κ ν} (hb : w.heap[b]? = some (mapO es clock)) (ok : EntsOk es clock) (k : κ) :
    ∃ X : EntX κ ν, EntXok z (kvs es) k X ∧ (Instr.mapEntry t (.map (some b)) (val k)).run P w = .ok (.tuple #[val X.v, .int .i64 X.st]) { w with heap := w.heap.setIfInBounds b (mapO X.es X.clock) } := by
  have h1 := hK.find k es w
  have h2 := MapKept.run_getObj_map (P := P) hb
  cases hf : findK k es 0 with
  | none =>
    rw [hf] at h1
    obtain ⟨h3, h5, h4⟩ := findK_none hf
    refine ⟨⟨es ++ [(k, z, clock)], clock + 1, es.length, z, clock⟩, ⟨ok_push ok h3 z, by simp, fun k' => ?_, fun u => ?_⟩, ?_⟩
    · have : kvs (es ++ [(k, z, clock)]) = kvs es ++ [(k, z)] := by simp [kvs]
      rw [this]; exact getZ_push h5 k'
    · rw [h4 u]
      simp only [modify_last]
      simp [kvs]
    · simp [Instr.mapEntry, run_underlying ht.und, h2, hK.chk, h1, hz.zero, MapKept.run_setObj_map _ hb, Result.andThen, mapO, rawE, goInt]
  | some p =>
    rw [hf] at h1
    obtain ⟨j, u⟩ := p
    obtain ⟨m, bb, rfl, h3, _, h4⟩ := findK_some hf
    have e0 : (es.modify m fun e => (k, u, e.2.2)) = es := by
      apply List.ext_getElem?
      intro i
      rw [List.getElem?_modify]
      split
      · rename_i hi; subst hi; rw [h3]; rfl
      · cases es[i]? <;> rfl
    refine ⟨⟨es, clock, m, u, bb⟩, ⟨ok, h3, fun _ => rfl, h4⟩, ?_⟩
    have e1 : ((es.map rawE).toArray[0 + m]?.map (·.key)).getD (val k) = val k := by rw [Nat.zero_add, raw_get, h3]; rfl
    have e2 : ((es.map rawE).toArray[m]?.map (fun x => (x.born : Int))).getD 0 = (bb : Int) := by rw [raw_get, h3]; rfl
    have e3 : ((es.map rawE).toArray.modify m fun e => { e with key := val k }) = (es.map rawE).toArray := by
      apply Array.ext_getElem?
      intro i
      simp only [Array.getElem?_modify, raw_get]
      split
      · rename_i hi; subst hi; rw [h3]; rfl
      · rfl
    simp only [Instr.mapEntry, Sem.run_bind, run_underlying ht.und, Result.andThen, h2, hK.chk, h1, Option.map_some, e1, hK.stays, MapKept.run_setObj_map _ hb, mapO]
    rw [Nat.zero_add, e3, e2]
    rfl
theorem e_mapEntry {t kt et : TypeId} {z : ν} {x y : Operand} {cx cy : List Bool} {b i : Nat} {k : κ} {l : List (κ × ν)} (ho : o.op = .mapEntry t x y) (hx : evl E x = some (cx, .map (some b))) (hy : evl E y = some (cy, val k))
    [sx : Sub cx []] [sy : Sub cy []] [ht : MapT P t kt et] [hK : KeyT P kt κ] [hz : ZeroV P et ν z] (hi : nthA H i = some (mpA b l)) :
    OpE P n E (Cl w0 fp H) o (fun u w' => ∃ X : EntX κ ν, u = .tuple #[val X.v, .int .i64 X.st] ∧ EntXok z l k X ∧ Cl w0 fp (setA H i (obj b (mapO X.es X.clock))) w') :=
  .of_run fun a w ha hw => by
    obtain ⟨bs, ⟨b1, b2, rfl, ⟨rfl, es, clock, ok, rfl, hb⟩, rfl⟩, _, hlt, _, _, h6⟩ := (hw.focus hi).split
    obtain ⟨X, hX, hr⟩ := run_mapEntry (P := P) (t := t) (z := z) hb ok k
    have hl : b < w.heap.size := hlt b (by simp)
    refine ⟨_, { w with heap := w.heap.setIfInBounds b (mapO X.es X.clock) }, ?_, X, rfl, hX, (h6 [obj b (mapO X.es X.clock)] _ ?_).set hi⟩
    · have e1 := ha.eval hx sx AllT.nil
      have e2 := ha.eval hy sy AllT.nil
      unfold execOp; simp only [ho]; rw [e1, e2]; simp [hr, Result.andThen]
    · refine ⟨⟨rfl, rfl, rfl, by simp, fun k hk hn => ?_⟩, [b], ⟨[b], [], rfl, ⟨rfl, ?_⟩, rfl⟩, by simp, fun k hk => ?_⟩
      · have : k ≠ b := by simpa using hn
        exact Array.getElem?_setIfInBounds_ne (Ne.symm this)
      · simp [hl]
      · simp at hk; subst hk; exact ⟨.inl (by simp), by simpa using hl⟩
theorem e_entryStore {t : TypeId} {z : ν} {x y u : Operand} {cx cy cu : List Bool} {b i : Nat} {k : κ} {v : ν} {l : List (κ × ν)} {X : EntX κ ν} (ho : o.op = .entryStore t x y u) (hx : evl E x = some (cx, .map (some b))) (hy : evl E y = some (cy, .int .i64 X.st)) (hu : evl E u = some (cu, val v))
    [sx : Sub cx []] [sy : Sub cy []] [su : Sub cu []] (hX : EntXok z l k X) (hi : nthA H i = some (obj b (mapO X.es X.clock))) :
    OpE P n E (Cl w0 fp H) o (fun uu w' => uu = undef ∧ Cl w0 fp (setA H i (mpA b (upd l k v))) w') :=
  .of_run0 fun a w ha hw => by
    obtain ⟨bs, ⟨b1, b2, rfl, ⟨rfl, hb⟩, rfl⟩, _, hlt, _, _, h6⟩ := (hw.focus hi).split
    have hl : b < w.heap.size := hlt b (by simp)
    have h2 := MapKept.run_getObj_map (P := P) (w := w) (es := (X.es.map rawE).toArray) (clock := X.clock) hb
    have hm := hX.at'
    have hlt' : X.m < X.es.length := (List.getElem?_eq_some_iff.1 hm).1
    have hge : X.es[X.m] = (k, X.v, X.st) := (List.getElem?_eq_some_iff.1 hm).2
    have hfind : (X.es.map rawE).toArray.findIdx? (fun e => (e.born : Int) == (X.st : Int)) = some X.m := by
      rw [List.findIdx?_toArray, List.findIdx?_eq_some_iff_getElem]
      refine ⟨by simpa using hlt', by simp [rawE, hge], fun j hj => ?_⟩
      have hjl : j < X.es.length := by omega
      have hnd := List.pairwise_iff_getElem.1 hX.ok.born j X.m (by simpa using hjl) (by simpa using hlt') hj
      simp only [List.getElem_map, hge] at hnd
      simp [rawE]
      omega
    refine ⟨{ w with heap := w.heap.setIfInBounds b (mapO (X.es.modify X.m fun e => (k, v, e.2.2)) X.clock) }, ?_, (h6 [mpA b (upd l k v)] _ ?_).set hi⟩
    · have e1 := ha.eval hx sx AllT.nil
      have e2 := ha.eval hy sy AllT.nil
      have e3 := ha.eval hu su AllT.nil
      have e4 : ((X.es.map rawE).toArray.modify X.m fun e => { e with val := val v }) = ((X.es.modify X.m fun e => (k, v, e.2.2)).map rawE).toArray := by
        apply Array.ext_getElem?
        intro i
        simp only [Array.getElem?_modify, raw_get, List.getElem?_modify]
        split
        · rename_i hi; subst hi; rw [hm]; rfl
        · cases X.es[i]? <;> rfl
      unfold execOp; simp only [ho]; rw [e1, e2, e3]
      have e5 : (Instr.entryStore t (.map (some b)) (.int .i64 X.st) (val v)).run P w = .ok () { w with heap := w.heap.setIfInBounds b (mapO (X.es.modify X.m fun e => (k, v, e.2.2)) X.clock) } := by
        have e6 : (asInt (.int .i64 (X.st : Int))).run P w = .ok (X.st : Int) w := rfl
        unfold Instr.entryStore
        simp only [Sem.run_bind, h2, Result.andThen, e6, hfind, e4, MapKept.run_setObj_map _ hb, mapO]
      simp [e5, Result.andThen]
    · refine ⟨⟨rfl, rfl, rfl, by simp, fun k hk hn => ?_⟩, [b], ⟨[b], [], rfl, ⟨rfl, _, X.clock, ok_modify hX.ok hm v, hX.put v, ?_⟩, rfl⟩, by simp, fun k hk => ?_⟩
      · have : k ≠ b := by simpa using hn
        exact Array.getElem?_setIfInBounds_ne (Ne.symm this)
      · simp [hl]
      · simp at hk; subst hk; exact ⟨.inl (by simp), by simpa using hl⟩
end mem
end Go.Sx

/- Interfaces: values put in, asserted, methods called. General lemmas, no program text. -/
set_option autoImplicit false
namespace Go.Sx
open Enc (enc val)
section
variable {P : Program} {n : Fr} {E : Env} {C : World → Prop} {cs : List Bool} {o : Oper}
end
section
variable {P : Program} {n : Fr} {E : Env} {cs : List Bool} {o : Oper} {w0 : World} {fp : List Nat} {H : List Asn}
end
end Go.Sx

/-
  A slice that grows while a part of it is read through another name. General lemmas, no program text.
-/
set_option autoImplicit false
namespace Go.Sx
open Enc (enc val)
section
variable {α : Type} [Enc α] {e : TypeId}
variable {s : SlV} {l : List α} {s0 : SlV} {l0 : List α} {w0 w : World} {fp : List Nat} {H F : List Asn}
/-- The full slice: s[:n:n], n its length. -/
def SlV.cut (s : SlV) (n : Nat) : SlV := ⟨s.addr, n, n⟩
end
section
variable {α : Type} [Enc α] {P : Program} {ops : Array Oper} {n : Fr} {E : Env} {C : World → Prop} {cs : List Bool} {o : Oper} {w0 : World} {fp : List Nat} {H : List Asn}
end
end Go.Sx

/- Maps whose keys are structs of two integers; v, ok := m[k]; x[a:b:c]; the table's rows. General lemmas, no program text. -/
set_option autoImplicit false
namespace Go.Sx
open Enc (enc val)
section
variable {κ ν : Type} [DecidableEq κ] [Enc κ] [Enc ν] {P : Program} {n : Fr} {E : Env} {C : World → Prop} {cs : List Bool} {o : Oper}
end
section
variable {α : Type} [Enc α] {P : Program} {n : Fr} {E : Env} {C : World → Prop} {cs : List Bool} {o : Oper}
/-- A block's cells, from one on, are those of y. -/
def BlkIs (b k : Nat) (y : α) (w : World) : Prop := ∀ j v, (enc y)[j]? = some v → w.cell? ⟨b, k + j, none⟩ = some v
theorem blkIs_of {b k : Nat} {cells : List Value} {t : TypeId} {y : α} {w : World} (h : BlkAt b cells t w) (hc : ∀ j v, (enc y)[j]? = some v → cells[k + j]? = some v) : BlkIs b k y w := fun j v hv => by
  obtain ⟨bs, hb⟩ := h
  rw [blk.cell hb]; exact hc j v hv
theorem q_loadI {t : TypeId} {x : Operand} {cx : List Bool} {b k : Nat} {y : α} (ho : o.op = .load t x) (hx : evl E x = some (cx, .pointer (some ⟨b, k, none⟩))) [hs : Sub cx cs] [ht : HasTy P t α]
    (hH : ∀ w, C w → BlkIs b k y w) : OpR P n E C cs o (val y) :=
  load_run ho hx hs fun _ w hw => ⟨_, rfl, ht.load w _ _ fun j v hv => by rw [addr_add]; exact hH w hw j v hv⟩
theorem q_loadElY [Inhabited α] {t : TypeId} {x : Operand} {cx : List Bool} {sv : Value} {i sz : Nat} {xs : List α} {y : α} (hy : nth xs i = y) (ho : o.op = .load t x) (hx : evl E x = some (cx, elP sv i sz 0)) [hs : Sub cx cs] [ht : HasTy P t α]
    (hsz : sz = Enc.sz α) (hR : ∀ w, C w → RdL sv xs w) (hi : AllT cs → i < xs.length) : OpR P n E C cs o (val y) := by
  rw [← hy]; exact q_loadEl ho hx hsz hR hi
/-- x[a:b:b] -/
def SlV.row (s : SlV) (sz lo hi : Nat) : SlV := ⟨if hi = lo then s.addr else s.addr.map (·.add (lo * sz)), hi - lo, hi - lo⟩
theorem rd_row {s : SlV} {l : List α} {w : World} (h : RdL s.v l w) {a b : Nat} (hab : a ≤ b) (hb : b ≤ l.length) : RdL (s.row (Enc.sz α) a b).v ((l.take b).drop a) w := by
  obtain ⟨l1, l2, l3⟩ := rd_lens h
  by_cases e : b = a
  · subst e
    have : (l.take b).drop b = [] := by rw [List.drop_eq_nil_iff]; simp; omega
    rw [this]
    exact ⟨_, _, _, rfl, by simp [SlV.row], by simp [SlV.row], by simp [SlV.row, maxLen], fun i x j v hx => by simp at hx⟩
  · have h2 := rd_sub h hab hb
    obtain ⟨ad, n, cap, h3, h4, h5, h6, h7⟩ := h2
    have hc : s.cap ≠ a := by omega
    simp only [SlV.sub, SlV.v, hc, if_false, Value.slice.injEq] at h3
    obtain ⟨rfl, rfl, rfl⟩ := h3
    refine ⟨s.addr.map (·.add (a * Enc.sz α)), b - a, b - a, by simp [SlV.row, SlV.v, e], h4, Nat.le_refl _, by omega, fun i x j v hx hv => h7 i x j v hx hv⟩
theorem stb_row {s : SlV} {l : List α} {w : World} {fp : List Nat} (h : Stb w fp (RdL s.v l)) {a b : Nat} (hab : a ≤ b) (hb : b ≤ l.length) : Stb w fp (RdL (s.row (Enc.sz α) a b).v ((l.take b).drop a)) := ⟨fun w' k => rd_row (h.stb w' k) hab hb⟩
theorem q_slice3 {t e : TypeId} {sz : Nat} {x y z u : Operand} {cx cy cz cu : List Bool} {s : SlV} {l : List α} {a b : Int} (ho : o.op = .slice t x (some y) (some z) (some u)) (hx : evl E x = some (cx, s.v)) (hy : evl E y = some (cy, .int .i64 a)) (hz : evl E z = some (cz, .int .i64 b)) (hu : evl E u = some (cu, .int .i64 b))
    [sx : Sub cx cs] [sy : Sub cy cs] [sz' : Sub cz cs] [su : Sub cu cs] [ht : SlT P t e] [hs : SzT P e sz] (hrd : ∀ w, C w → RdL s.v l w) (h : AllT cs → 0 ≤ a ∧ a ≤ b ∧ b ≤ l.length) : OpR P n E C cs o (s.row sz a.toNat b.toNat).v :=
  .of_run fun e he hc w hw => by
    obtain ⟨h1, h2, h3⟩ := h hc
    obtain ⟨l1, l2, l3⟩ := rd_lens (hrd w hw)
    unfold execOp; simp only [ho]
    have e1 := he.eval hx sx hc
    have e2 := he.eval hy sy hc
    have e3 := he.eval hz sz' hc
    have e4 := he.eval hu su hc
    have f1 := run_sliceBound (P := P) (w := w) .i64 b s.cap .slice3Acap (by omega) (by omega)
    have f2 := run_sliceBound (P := P) (w := w) .i64 b b.toNat .slice3B (by omega) (by omega)
    have f3 := run_sliceBound (P := P) (w := w) .i64 a b.toNat .slice3C (by omega) (by omega)
    have hb : (Instr.sliceBounds true s.len s.cap (some (.int .i64 a)) (some (.int .i64 b)) (some (.int .i64 b))).run P w = .ok (a.toNat, b.toNat, b.toNat) w := by
      simp [Instr.sliceBounds, f1, f2, f3, Result.andThen]
    have g1 := run_underlying (P := P) (w := w) ht.und
    simp [e1, e2, e3, e4, Instr.sliceAt, Instr.slice, g1, hb, hs.sz, Result.andThen, SlV.v, SlV.row]
theorem elP_row {s : SlV} {lo hi sz i off : Nat} (h : hi ≠ lo) : elP (s.row sz lo hi).v i sz off = elP s.v (lo + i) sz off := by
  cases ha : s.addr with
  | none => simp [elP, SlV.row, SlV.v, h, ha]
  | some a =>
    simp [elP, SlV.row, SlV.v, h, ha]
    rw [addr_add_assoc, Nat.add_mul, Nat.add_assoc]
theorem q_indexRow {t e : TypeId} {x y : Operand} {cx cy : List Bool} {s : SlV} {lo hi sz : Nat} {k : IntKind} {i : Int} {xs : List α} (ho : o.op = .indexAddr t x y) (hx : evl E x = some (cx, (s.row sz lo hi).v)) (hy : evl E y = some (cy, .int k i))
    [sx : Sub cx cs] [sy : Sub cy cs] [ht : SlT P t e] [hz : SzT P e sz] (hR : ∀ w, C w → RdL s.v xs w) (hsz : sz = Enc.sz α) (h : AllT cs → 0 ≤ i ∧ lo + i.toNat < hi ∧ hi ≤ xs.length) : OpR P n E C cs o (elP s.v (lo + i.toNat) sz 0) := by
  intro a ha hc w hw
  have hh := h hc
  subst hsz
  have := q_index (P := P) (n := n) (E := E) (C := C) (cs := cs) (o := o) (xs := (xs.take hi).drop lo) ho hx hy (fun w hw => rd_row (hR w hw) (by omega) (by omega)) (fun _ => by simp; omega) a ha hc w hw
  rwa [elP_row (by omega)] at this
end
end Go.Sx

set_option autoImplicit false
set_option maxRecDepth 100000
namespace Go.Proofs.YtkmbliojafefdaaGreatDoor
open Go.Sx
open Enc (enc val)
def Asc (p : List Pr) : Prop := ∀ i j, i < j → j < p.length → (nth p i).c ≤ (nth p j).c
theorem orL2_neg {x y : Int} (h : orL [x, y] < 0) : x ≤ 0 := by
  unfold orL at h
  split at h
  · omega
  · omega
theorem sgn_neg {x : Int} : sgn x < 0 ↔ x < 0 := by
  unfold sgn; split
  · constructor <;> omega
  · split <;> constructor <;> omega
theorem sgn_le {x : Int} : sgn x ≤ 0 ↔ x ≤ 0 := by
  unfold sgn; split
  · constructor <;> omega
  · split <;> constructor <;> omega
theorem sgn_zero {x : Int} : sgn x = 0 ↔ x = 0 := by
  unfold sgn; split
  · constructor <;> omega
  · split <;> constructor <;> omega
theorem asc_of {p : List Pr} (h : riseB prC p = true) : Asc p := by
  have h1 : ∀ k, 1 ≤ k → k < p.length → (nth p (k - 1)).c ≤ (nth p k).c := fun k h0 hk => by
    have := orL2_neg (riseB_yes.1 h k h0 hk)
    rw [sgn_le] at this; omega
  intro i j hij hj
  induction j with
  | zero => omega
  | succ j ih =>
    have h2 := h1 (j + 1) (by omega) hj
    rw [Nat.add_sub_cancel] at h2
    by_cases h3 : i = j
    · rw [h3]; exact h2
    · exact Int.le_trans (ih (by omega) (by omega)) h2
theorem lowB_le {α : Type} (c : α → Int) (xs : List α) : lowB c xs ≤ xs.length := by
  unfold lowB; exact (List.takeWhile_prefix _).length_le
theorem lowB_lt {α : Type} [Inhabited α] {c : α → Int} : ∀ {xs : List α} {i : Nat}, i < lowB c xs → c (nth xs i) < 0
  | [], i, h => by simp [lowB] at h
  | x :: xs, i, h => by
    unfold lowB at h
    by_cases h1 : c x < 0
    · rw [List.takeWhile_cons_of_pos (by simpa using h1)] at h
      cases i with
      | zero => exact h1
      | succ i => exact lowB_lt (xs := xs) (i := i) (by simpa [lowB] using h)
    · rw [List.takeWhile_cons_of_neg (by simpa using h1)] at h; simp at h
theorem lowB_ge {α : Type} [Inhabited α] {c : α → Int} : ∀ {xs : List α}, lowB c xs < xs.length → ¬ c (nth xs (lowB c xs)) < 0
  | [], h => by simp at h
  | x :: xs, h => by
    by_cases h1 : c x < 0
    · have e : lowB c (x :: xs) = lowB c xs + 1 := by unfold lowB; rw [List.takeWhile_cons_of_pos (by simpa using h1)]; rfl
      rw [e] at h ⊢
      exact lowB_ge (xs := xs) (by simpa using h)
    · have e : lowB c (x :: xs) = 0 := by unfold lowB; rw [List.takeWhile_cons_of_neg (by simpa using h1)]; rfl
      rw [e]; exact h1
def cutF (p : List Pr) (c : Int) : Nat := lowB (fun x => sgn (x.c - c)) p
theorem halves_of {p : List Pr} (h : Asc p) (c : Int) : Halves (fun x : Pr => sgn (x.c - c)) p := fun i j hij hj hc => by
  have := h i j hij hj
  simp only [sgn_neg] at hc ⊢; omega
theorem hold_spec (p : List Pr) (c : Int) : CmpT Tryz.prog 114 #[] (.int .i32 c) (fun x : Pr => sgn (x.c - c)) (fun _ => True) p := by
  intro u hu w _
  refine calls_cw (vs := [_, _]) Tryz.func114 rfl Tryz.ntmps114 rfl (Cl.start0 w) (cw_seq (cw_region ?_))
  refine sw_x rfl rfl rfl (e_box rfl rfl rfl) (fun b2 => ?_)
  refine sr rfl rfl rfl ((q_assign rfl rfl)) (sw_nil (post_then (cw_seq (cw_region (sr rfl rfl rfl ((q_fieldAddr rfl rfl)) ?_)))))
  refine sr rfl rfl rfl ((q_loadC rfl rfl (by exact .head _) rfl)) ?_
  refine sr rfl rfl rfl ((q_move rfl rfl)) (sw_step rfl rfl rfl (q_call (CanCall.mk Tryz.call75) rfl (.cons rfl inferInstance (.cons rfl inferInstance (.nil))) (fun _ w hw => callq hw (compareR_spec _ _ w))) (sr rfl rfl rfl ((q_assign rfl rfl)) (sw_nil (post_then (cw_ret (post_ret1 rfl (resOk_tmp rfl) ?_))))))
  exact fun w' hw => ⟨rfl, (fun w h => Cl.sel (by exact .nil _) w h) _ hw⟩
/-- Where the pairs of a letter end. -/
def cutT (p : List Pr) (c : Int) : Nat := cutF p c + lowB (fun x : Pr => if x.c = c then -1 else 0) (p.drop (cutF p c))
theorem cut_le (p : List Pr) (c : Int) : cutF p c ≤ cutT p c ∧ cutT p c ≤ p.length := by
  unfold cutT
  have h1 : cutF p c ≤ p.length := lowB_le _ _
  have h2 := lowB_le (fun x : Pr => if x.c = c then (-1 : Int) else 0) (p.drop (cutF p c))
  rw [List.length_drop] at h2
  omega
theorem nth_drop {α : Type} [Inhabited α] (l : List α) (k i : Nat) : nth (l.drop k) i = nth l (k + i) := by
  simp [nth, List.getD, List.getElem?_drop]
theorem cutT_at {p : List Pr} {c : Int} {tt : Nat} (h1 : cutF p c ≤ tt) (h2 : tt ≤ p.length) (h3 : ∀ i, cutF p c ≤ i → i < tt → (nth p i).c = c) (h4 : tt < p.length → (nth p tt).c ≠ c) : cutT p c = tt := by
  unfold cutT
  rw [lowB_at (k := tt - cutF p c) (by rw [List.length_drop]; omega)]
  · omega
  · intro i hi
    rw [nth_drop]
    simp [h3 (cutF p c + i) (by omega) (by omega)]
  · intro hk
    rw [List.length_drop] at hk
    rw [nth_drop, show cutF p c + (tt - cutF p c) = tt by omega, if_neg (h4 (by omega))]
    simp
theorem offers_is {p : List Pr} (h : Asc p) (c : Int) : offers p c = (p.take (cutT p c)).drop (cutF p c) := by
  have hb := cut_le p c
  refine offers_cut hb.1 hb.2 (fun i hi => ?_) (fun i h1 h2 => ?_) (fun i h1 h2 => ?_)
  · have := lowB_lt hi
    rw [sgn_neg] at this; omega
  · have h3 : i - cutF p c < lowB (fun x : Pr => if x.c = c then (-1 : Int) else 0) (p.drop (cutF p c)) := by unfold cutT at h2; omega
    have := lowB_lt h3
    rw [nth_drop, show cutF p c + (i - cutF p c) = i by omega] at this
    by_cases h4 : (nth p i).c = c
    · exact h4
    · simp [h4] at this
  · have h3 : (nth p (cutT p c)).c ≠ c := by
      have h5 : lowB (fun x : Pr => if x.c = c then (-1 : Int) else 0) (p.drop (cutF p c)) < (p.drop (cutF p c)).length := by
        rw [List.length_drop]; have : cutT p c = _ := rfl; unfold cutT at this h1; omega
      have := lowB_ge h5
      rw [nth_drop] at this
      intro h6
      apply this
      rw [if_pos (by exact h6)]; decide
    have h4 : ¬ (nth p (cutT p c)).c < c := by
      have h6 : ¬ (nth p (cutF p c)).c < c := by
        have h5 : cutF p c < p.length := by omega
        have := lowB_ge (c := fun x : Pr => sgn (x.c - c)) h5
        rw [sgn_neg] at this
        intro h7; apply this
        show (nth p (cutF p c)).c - c < 0
        omega
      by_cases h7 : cutF p c = cutT p c
      · rw [← h7]; exact h6
      · have := h (cutF p c) (cutT p c) (by omega) (by omega)
        omega
    by_cases h5 : cutT p c = i
    · rw [← h5]; exact h3
    · have := h (cutT p c) i (by omega) h2
      omega
theorem blk_stb {b : Nat} {cells : List Value} {t : TypeId} {w : World} (h : BlkAt b cells t w) : Stb w [] (BlkAt b cells t) := by
  obtain ⟨bs, h1, h2⟩ := h
  subst h1
  exact ⟨fun w' k => ⟨[b], rfl, by rw [k.block b (Array.getElem?_eq_some_iff.1 h2).1 (by simp)]; exact h2⟩⟩
theorem of_spec (b : Nat) (sp : SlV) (p : List Pr) (c : Int) (hp : Asc p) (w : World) (hb : Stb w [] (BlkAt b [sp.v] 22)) (hs : Stb w [] (RdL sp.v p)) : Calls Tryz.prog 112 #[.int .i32 c, .pointer (some ⟨b, 0, none⟩)] w fun e w' => e = .returned (sp.sub 3 (cutF p c) (cutT p c)).v ∧ Cl w [] [] w' := by
  have hL := rd_len hs.here
  have hcl := cut_le p c
  refine calls_cw (vs := [_, _]) Tryz.func112 rfl Tryz.ntmps112 rfl (Cl.start0 w) (cw_seq (cw_region (sr rfl rfl rfl ((q_assign rfl rfl)) (sw_nil (post_then (cw_seq (cw_region ?_)))))))
  refine sr rfl rfl rfl ((q_loadS rfl rfl (fun w hw => Stb.cl (by assumption) hw) rfl)) ?_
  refine sr rfl rfl rfl ((q_move rfl rfl)) ?_
  refine sw_step rfl rfl rfl (q_call (CanCall.mk Tryz.call113) rfl (.cons rfl inferInstance (.cons rfl inferInstance (.cons rfl inferInstance (.nil)))) (fun _ w hw => callq hw (searchPr_spec _ p c _ _ (fun x : Pr => sgn (x.c - c)) _ w (by exact stb_arg hw (by assumption)) (stb_true w []) (CanCall.mk Tryz.call114) (hold_spec p c) (halves_of hp c)))) ?_
  refine sr rfl rfl rfl ((q_move rfl rfl)) (sr rfl rfl rfl ((q_extract rfl rfl rfl)) (sr rfl rfl rfl ((q_extract rfl rfl rfl)) (sr rfl rfl rfl ((q_assign rfl rfl)) (sr rfl rfl rfl ((q_assign rfl rfl)) (sw_nil (post_then (cw_seq (cw_region (sr rfl rfl rfl ((q_move rfl rfl)) (sr rfl rfl rfl ((q_assign rfl rfl)) (sw_nil (post_then (cw_seq (cw_block ?_))))))))))))))
  refine cw_loop (S := Nat) (fun k => [(0, [], .int .i32 c), (1, [], .pointer (some ⟨b, 0, none⟩)), (4, [], .int .i64 (cutF p c)), (6, [], .int .i64 k)]) (fun _ => Cl w [] []) (fun k => cutF p c ≤ k ∧ k ≤ p.length ∧ ∀ i, cutF p c ≤ i → i < k → (nth p i).c = c) (fun k => p.length - k) (cutF p c) ⟨by omega, by omega, fun i h1 h2 => by omega⟩ (by exact .cons rfl (.cons rfl (.cons rfl (.cons rfl .nil)))) (fun _ h => h) ?_
  rintro k ⟨hk, hk2, hbe⟩
  refine cw_seq (cw_seq (cw_region (sr rfl rfl rfl ((q_move rfl rfl)) ?_)))
  refine sr rfl rfl rfl ((q_loadS rfl rfl (fun w hw => Stb.cl (by assumption) hw) rfl)) ?_
  refine sr rfl rfl rfl ((q_len rfl (.cons rfl inferInstance (.nil)) (by exact fun w hw => Stb.cl (by assumption) hw))) ?_
  refine sr rfl rfl rfl ((q_lss rfl rfl rfl)) (sr rfl rfl rfl ((q_move rfl rfl)) ?_)
  refine sr rfl rfl rfl ((q_loadS rfl rfl (fun w hw => Stb.cl (by assumption) hw) rfl)) ?_
  refine sr rfl rfl rfl ((q_move rfl rfl)) ?_
  refine sr rfl rfl rfl ((q_indexN rfl rfl rfl (by exact fun w hw => Stb.cl (by assumption) hw) (by intro hc; (simp only [AllT.iff, List.all_cons, List.all_nil, id, Bool.and_eq_true, Bool.not_eq_true', decide_eq_true_eq, decide_eq_false_iff_not, and_true] at hc; omega)))) ?_
  refine sr rfl rfl rfl ((q_fieldEl rfl rfl (by exact fun w hw => Stb.cl (by assumption) hw) (by intro hc; (simp only [AllT.iff, List.all_cons, List.all_nil, id, Bool.and_eq_true, Bool.not_eq_true', decide_eq_true_eq, decide_eq_false_iff_not, and_true] at hc; omega)))) ?_
  refine sr rfl rfl rfl ((q_loadF rfl rfl rfl (by exact fun w hw => Stb.cl (by assumption) hw) (by intro hc; (simp only [AllT.iff, List.all_cons, List.all_nil, id, Bool.and_eq_true, Bool.not_eq_true', decide_eq_true_eq, decide_eq_false_iff_not, and_true] at hc; omega)) rfl)) ?_
  refine sr rfl rfl rfl ((q_move rfl rfl)) (sr rfl rfl rfl ((q_eql rfl rfl rfl)) (sr rfl rfl rfl ((q_and2 rfl rfl rfl)) (sw_nil (post_then ?_))))
  refine cw_cond rfl (fun h => ?_) (fun h => ?_)
  · skip
    have hk' : k < p.length ∧ (nth p k).c = c := by simp at h; exact ⟨by omega, h.2⟩
    refine cw_skip (post_then (cw_block (cw_region (sr rfl rfl rfl ((q_move rfl rfl)) ?_))))
    refine sr rfl rfl rfl ((q_add rfl rfl rfl (by intro hc; omega))) ?_
    refine sr rfl rfl rfl ((q_assign rfl rfl)) (sw_nil (post_blk ?_))
    refine post_next (k + 1) (by exact .cons rfl (.cons rfl (.cons rfl (.cons rfl .nil)))) (fun _ h => h) ⟨by omega, by omega, fun i h1 h2 => ?_⟩ (by omega)
    by_cases hik : i = k
    · rw [hik]; exact hk'.2
    · exact hbe i h1 (by omega)
  · skip
    have e : cutT p c = k := cutT_at hk hk2 hbe fun h1 h2 => by simp at h; exact h (by omega) h2
    rw [← e] at hk hk2
    rw [← e]
    refine cw_exit (post_then_x (post_then_x (post_blk_eq (post_then (cw_seq (cw_region ?_))))))
    refine sr rfl rfl rfl ((q_loadS rfl rfl (fun w hw => Stb.cl (by assumption) hw) rfl)) ?_
    refine sr rfl rfl rfl ((q_move rfl rfl)) (sr rfl rfl rfl ((q_move rfl rfl)) ?_)
    refine sr rfl rfl rfl ((q_slice2 rfl rfl rfl rfl (by exact fun w hw => Stb.cl (by assumption) hw) (by intro hc; omega))) ?_
    refine sr rfl rfl rfl ((q_assign rfl rfl)) (sw_nil (post_then (cw_ret (post_ret1 rfl (resOk_tmp rfl) ?_))))
    exact fun w' hw => ⟨rfl, hw⟩
end Go.Proofs.YtkmbliojafefdaaGreatDoor

set_option autoImplicit false
set_option maxRecDepth 100000
namespace Go.Proofs.YtkmbliojafefdaaGreatDoor
open Go.Sx
open Enc (enc val)
def rowsTo (sc : SlV) (W T k : Nat) : List SlV := (List.range T).map fun j => if j < k then sc.row 1 (j * W) ((j + 1) * W) else ⟨none, 0, 0⟩
theorem rowsTo_len (sc : SlV) (W T k : Nat) : (rowsTo sc W T k).length = T := by simp [rowsTo]
theorem rowsTo_nth (sc : SlV) (W T k j : Nat) (hj : j < T) : nth (rowsTo sc W T k) j = if j < k then sc.row 1 (j * W) ((j + 1) * W) else ⟨none, 0, 0⟩ := by
  rw [nth_get (by rw [rowsTo_len]; exact hj)]; simp [rowsTo]
theorem rowsTo_succ (sc : SlV) (W T k : Nat) (hk : k < T) : (rowsTo sc W T k).set k (sc.row 1 (k * W) ((k + 1) * W)) = rowsTo sc W T (k + 1) := by
  apply List.ext_getElem (by simp [rowsTo])
  intro i h1 h2
  rw [List.getElem_set]
  have hi : i < T := by simpa [rowsTo] using h2
  split
  · rename_i e; subst e; simp [rowsTo]
  · rename_i e
    simp only [rowsTo, List.getElem_map, List.getElem_range]
    by_cases h3 : i < k
    · rw [if_pos h3, if_pos (by omega)]
    · rw [if_neg h3, if_neg (by omega)]
theorem rowsTo_zero (sc : SlV) (W T : Nat) : List.replicate T (⟨none, 0, 0⟩ : SlV) = rowsTo sc W T 0 := by
  apply List.ext_getElem (by simp [rowsTo])
  intro i h1 h2
  simp [rowsTo]
theorem rowsAll_nth (sc : SlV) (W T j : Nat) (hj : j < T) : nth (rowsTo sc W T T) j = sc.row 1 (j * W) ((j + 1) * W) := by rw [rowsTo_nth _ _ _ _ _ hj, if_pos hj]
theorem prod_bd {i T W : Nat} (hi : i < T) (hT : T ≤ 100) (hW : W ≤ 1000) : i * W + W ≤ T * W ∧ (i + 1) * W = i * W + W ∧ T * W ≤ 100000 ∧ i * W ≤ 100000 := by
  have h1 : (i + 1) * W ≤ T * W := Nat.mul_le_mul_right _ hi
  have h2 : T * W ≤ 100 * 1000 := Nat.mul_le_mul hT hW
  rw [Nat.succ_mul] at h1
  exact ⟨h1, Nat.succ_mul _ _, h2, by omega⟩
theorem pre_at {x l : List ByteArray} {j : Nat} (hj : j ≤ l.length) : pre x (l.drop j) = (decide (j + x.length ≤ l.length) && decide ((l.take (j + x.length)).drop j = x)) := by
  unfold pre
  rw [List.length_drop, List.take_drop]
  congr 1
  rw [Bool.eq_iff_iff]; simp; omega
theorem try_spec (b5 b13 : Nat) (sl so sc : SlV) (l : List ByteArray) (n W : Nat) (cells : List Int) (i j : Nat) (x : Pr) (rest : List ByteArray → Int) (hW : W = l.length + 1) (hn : n ≤ 90) (hl1 : l.length ≤ 900) (hi : i < n) (hj : j ≤ l.length) (hx : 0 ≤ x.cost ∧ x.cost ≤ 1000) (hxl : x.pl.length ≤ 1000)
    (hcl : cells.length = (n + 1) * W) (hg : ∀ k, k ≤ l.length → nth cells ((i + 1) * W + k) = rest (l.drop k)) (hrb : ∀ l, -1 ≤ rest l ∧ rest l ≤ 1000000) (w : World) (h5 : Stb w [] (BlkAt b5 [sl.v] 23)) (h13 : Stb w [] (BlkAt b13 [so.v] 115)) (hl : Stb w [] (RdL sl.v l)) (hr : Stb w [] (RdL so.v (rowsTo sc W (n + 1) (n + 1)))) (hc : Stb w [] (RdL sc.v cells)) (hxs : Stb w [] (RdL x.p.v x.pl)) :
    Calls Tryz.prog 111 #[.int .i64 i, .int .i64 j, val x, .pointer (some ⟨b5, 0, none⟩), .pointer (some ⟨b13, 0, none⟩)] w fun e w' => e = .returned (.int .i64 (tryC rest (l.drop j) x)) ∧ Cl w [] [] w' := by
  have hrl := rowsTo_len sc W (n + 1) (n + 1)
  have hrow : nth (rowsTo sc W (n + 1) (n + 1)) ((i : Int) + 1).toNat = sc.row 1 ((i + 1) * W) ((i + 1 + 1) * W) := rowsAll_nth sc W (n + 1) (i + 1) (by omega)
  obtain ⟨q1, q2, q3, q4⟩ := prod_bd (i := i + 1) (T := n + 1) (W := W) (by omega) (by omega) (by omega)
  have hcell : nth cells ((i + 1) * W + ((j : Int) + (x.pl.length : Int)).toNat) = nth cells ((i + 1) * W + (j + x.pl.length)) := rfl
  refine calls_cw (vs := [_, _, _, _, _]) Tryz.func111 rfl Tryz.ntmps111 rfl (Cl.start0 w) (cw_seq (cw_region ?_))
  refine sw_x rfl rfl rfl (e_box rfl rfl rfl) (fun b7 => ?_)
  refine sr rfl rfl rfl ((q_assign rfl rfl)) (sw_nil (post_then (cw_seq (cw_region (sr rfl rfl rfl ((q_move rfl rfl)) (sr rfl rfl rfl ((q_fieldAddr rfl rfl)) ?_))))))
  refine sr rfl rfl rfl ((q_loadC rfl rfl (by exact .head _) rfl)) ?_
  refine sr rfl rfl rfl ((q_len rfl (.cons rfl inferInstance (.nil)) (by exact fun w hw => Stb.cl (by assumption) hw))) ?_
  refine sr rfl rfl rfl ((q_add rfl rfl rfl (by intro hc; omega))) ?_
  refine sr rfl rfl rfl ((q_assign rfl rfl)) (sw_nil (post_then (cw_seq (cw_seq ?_))))
  refine cw_region_q mixed_Tryz (by kernel_rfl) ?_
  refine qr rfl rfl rfl ((q_move rfl rfl)) ?_
  refine qr rfl rfl rfl ((q_loadS rfl rfl (fun w hw => Stb.cl (by assumption) hw) rfl)) ?_
  refine qr rfl rfl rfl ((q_len rfl (.cons rfl inferInstance (.nil)) (by exact fun w hw => Stb.cl (by assumption) hw))) ?_
  refine qr rfl rfl rfl ((q_gtr rfl rfl rfl)) (qr rfl rfl rfl ((q_move rfl rfl)) ?_)
  refine qr rfl rfl rfl ((q_loadS rfl rfl (fun w hw => Stb.cl (by assumption) hw) rfl)) ?_
  refine qr rfl rfl rfl ((q_move rfl rfl)) ?_
  refine qr rfl rfl rfl ((q_add rfl rfl rfl (by intro hc; omega))) ?_
  refine qr rfl rfl rfl ((q_index rfl rfl rfl (by exact fun w hw => Stb.cl (by assumption) hw) (by intro hc; omega))) ?_
  refine qr rfl rfl rfl ((q_loadElY hrow rfl rfl rfl (by exact fun w hw => Stb.cl (by assumption) hw) (by intro hc; omega))) ?_
  refine qr rfl rfl rfl ((q_move rfl rfl)) ?_
  refine qr rfl rfl rfl ((q_indexRow rfl rfl rfl (fun w' h => Stb.cl hc h) rfl (by intro hc; (simp only [AllT.iff, List.all_cons, List.all_nil, id, Bool.and_eq_true, Bool.not_eq_true', decide_eq_true_eq, decide_eq_false_iff_not, and_true] at hc; omega)))) ?_
  refine qr rfl rfl rfl ((q_loadElY hcell rfl rfl rfl (fun w' h => Stb.cl hc h) (by intro hc; (simp only [AllT.iff, List.all_cons, List.all_nil, id, Bool.and_eq_true, Bool.not_eq_true', decide_eq_true_eq, decide_eq_false_iff_not, and_true] at hc; omega)))) ?_
  refine qr rfl rfl rfl ((q_lss rfl rfl rfl)) (qr rfl rfl rfl ((q_or2 rfl rfl rfl)) (qr rfl rfl rfl ((q_move rfl rfl)) ?_))
  refine qr rfl rfl rfl ((q_loadS rfl rfl (fun w hw => Stb.cl (by assumption) hw) rfl)) ?_
  refine qr rfl rfl rfl ((q_move rfl rfl)) (qr rfl rfl rfl ((q_move rfl rfl)) ?_)
  refine qr rfl rfl rfl ((q_slice2 rfl rfl rfl rfl (by exact fun w hw => Stb.cl (by assumption) hw) (fun hcc => by simp [AllT] at hcc; omega))) ?_
  refine qr rfl rfl rfl ((q_fieldAddr rfl rfl)) ?_
  refine qr rfl rfl rfl ((q_loadC rfl rfl (by exact .head _) rfl)) ?_
  refine qw_step rfl rfl rfl (q_call (CanCall.mk Tryz.call100) rfl (.cons rfl inferInstance (.cons rfl inferInstance (.nil))) (fun hcc w1 hw => callq hw (equalL_spec _ _ ((l.take (j + x.pl.length)).drop j) x.pl w1 (stb_arg hw (stb_sub hl (by omega) (by simp [AllT] at hcc; omega))) (stb_arg hw hxs)))) ?_
  refine qr rfl rfl rfl ((q_not rfl rfl)) (qr rfl rfl rfl ((q_or2 rfl rfl rfl)) (qw_end (post_then ?_)))
  refine cw_cond rfl (fun h => ?_) (fun h => ?_)
  · skip
    have e : tryC rest (l.drop j) x = -1 := by
      unfold tryC
      rw [if_neg]
      rintro ⟨h1, h2⟩
      rw [pre_at hj] at h1
      simp only [Bool.and_eq_true, decide_eq_true_eq] at h1
      rw [List.drop_drop] at h2
      rw [hg _ h1.1] at h
      simp [h1.2] at h
      omega
    refine cw_seq (cw_region (sr rfl rfl rfl ((q_assign rfl rfl)) (sw_nil (post_then (cw_ret (post_then_r (post_ret1 rfl (resOk_tmp rfl) ?_)))))))
    exact fun w' hw => ⟨by rw [e], (fun w h => Cl.sel (by exact .nil _) w h) _ hw⟩
  · skip
    simp only [Bool.or_eq_false_iff, decide_eq_false_iff_not, Bool.not_eq_false', decide_eq_true_eq] at h
    obtain ⟨⟨g1, g2⟩, g3⟩ := h
    have g4 : j + x.pl.length ≤ l.length := by omega
    have g5 := hg _ g4
    have g6 := hrb (l.drop (j + x.pl.length))
    have e : tryC rest (l.drop j) x = x.cost + nth cells ((i + 1) * W + (j + x.pl.length)) := by
      unfold tryC
      rw [List.drop_drop, if_pos ⟨by rw [pre_at hj]; simp [g3, g4], by rw [← g5]; omega⟩, g5]
    rw [e]
    refine cw_skip (post_then (cw_seq ?_))
    refine cw_region_q mixed_Tryz (by kernel_rfl) ?_
    refine qr rfl rfl rfl ((q_fieldAddr rfl rfl)) ?_
    refine qr rfl rfl rfl ((q_loadC rfl rfl (by exact .head _) rfl)) ?_
    refine qr rfl rfl rfl ((q_loadS rfl rfl (fun w hw => Stb.cl (by assumption) hw) rfl)) ?_
    refine qr rfl rfl rfl ((q_move rfl rfl)) ?_
    refine qr rfl rfl rfl ((q_add rfl rfl rfl (by intro hc; omega))) ?_
    refine qr rfl rfl rfl ((q_index rfl rfl rfl (by exact fun w hw => Stb.cl (by assumption) hw) (by intro hc; omega))) ?_
    refine qr rfl rfl rfl ((q_loadElY hrow rfl rfl rfl (by exact fun w hw => Stb.cl (by assumption) hw) (by intro hc; omega))) ?_
    refine qr rfl rfl rfl ((q_move rfl rfl)) ?_
    refine qr rfl rfl rfl ((q_indexRow rfl rfl rfl (fun w' h => Stb.cl hc h) rfl (by intro hc; omega))) ?_
    refine qr rfl rfl rfl ((q_loadElY hcell rfl rfl rfl (fun w' h => Stb.cl hc h) (by intro hc; omega))) ?_
    refine qr rfl rfl rfl ((q_add rfl rfl rfl (by intro hc; omega))) ?_
    refine qr rfl rfl rfl ((q_assign rfl rfl)) (qw_end (post_then (cw_ret (post_ret1 rfl (resOk_tmp rfl) ?_))))
    exact fun w' hw => ⟨rfl, (fun w h => Cl.sel (by exact .nil _) w h) _ hw⟩
end Go.Proofs.YtkmbliojafefdaaGreatDoor

set_option autoImplicit false
set_option maxRecDepth 100000
namespace Go.Proofs.YtkmbliojafefdaaGreatDoor
open Go.Sx
open Enc (enc val)
def neg (m T : Nat) : List Int := List.replicate m (-1) ++ List.replicate (T - m) 0
theorem neg_len {m T : Nat} (h : m ≤ T) : (neg m T).length = T := by simp [neg]; omega
theorem neg_zero (T : Nat) : List.replicate T (0 : Int) = neg 0 T := by simp [neg]
theorem neg_set {m T : Nat} (h : m < T) : (neg m T).set m (-1) = neg (m + 1) T := by
  unfold neg
  rw [List.set_append_right _ _ (by simp), List.length_replicate, Nat.sub_self, show T - m = (T - (m + 1)) + 1 by omega, List.replicate_succ, List.set_cons_zero, List.replicate_succ']
  simp
theorem neg_nth {k T : Nat} (h : k < T) : nth (neg T T) k = -1 := by
  unfold neg
  rw [Nat.sub_self, List.replicate_zero, List.append_nil, nth_get (by simpa using h), List.getElem_replicate]
theorem nth_setP {α : Type} [Inhabited α] (l : List α) (a : Nat) (x : α) (b : Nat) (ha : a < l.length) : nth (l.set a x) b = if b = a then x else nth l b := by
  simp only [nth, List.getD, List.getElem?_set]
  by_cases h : a = b
  · subst h; simp [ha]
  · rw [if_neg h, if_neg (fun e => h e.symm)]
theorem idx_inj {W i k i' k' : Nat} (hk : k < W) (hk' : k' < W) (h : i * W + k = i' * W + k') : i = i' ∧ k = k' := by
  have key : ∀ {a b : Nat}, a < b → a * W + W ≤ b * W := fun {a b} hab => by
    have := Nat.mul_le_mul_right W hab
    rwa [Nat.succ_mul] at this
  rcases Nat.lt_trichotomy i i' with h1 | h1 | h1
  · have := key h1; omega
  · subst h1; exact ⟨rfl, by omega⟩
  · have := key h1; omega
def TabA (p : List Pr) (ws : List Rn) (l : List ByteArray) (cells : List Int) (N j : Nat) (v : Int) : Prop :=
  cells.length = (ws.length + 1) * (l.length + 1) ∧ ∀ i k, i ≤ ws.length → k ≤ l.length → nth cells (i * (l.length + 1) + k) = if N ≤ i ∨ (i + 1 = N ∧ k < j) then leastC p (ws.drop i) (l.drop k) else if i + 1 = N ∧ k = j then v else -1
variable {p : List Pr} {ws : List Rn} {l : List ByteArray} {cells : List Int}
theorem cell_lt {i k : Nat} (hi : i ≤ ws.length) (hk : k ≤ l.length) : i * (l.length + 1) + k < (ws.length + 1) * (l.length + 1) := by
  have := Nat.mul_le_mul_right (l.length + 1) (show i + 1 ≤ ws.length + 1 by omega)
  rw [Nat.succ_mul] at this; omega
theorem tab_init (p : List Pr) (ws : List Rn) (l : List ByteArray) : TabA p ws l ((neg ((ws.length + 1) * (l.length + 1)) ((ws.length + 1) * (l.length + 1))).set (ws.length * (l.length + 1) + l.length) 0) ws.length 0 (-1) := by
  have hl := neg_len (Nat.le_refl ((ws.length + 1) * (l.length + 1)))
  refine ⟨by rw [List.length_set, hl], fun i k hi hk => ?_⟩
  have h1 := cell_lt (ws := ws) (l := l) hi hk
  have h2 := cell_lt (ws := ws) (l := l) (Nat.le_refl ws.length) (Nat.le_refl l.length)
  rw [nth_setP _ _ _ _ (by rw [hl]; exact h2)]
  by_cases h3 : i * (l.length + 1) + k = ws.length * (l.length + 1) + l.length
  · obtain ⟨rfl, rfl⟩ := idx_inj (by omega) (by omega) h3
    rw [if_pos rfl, if_pos (.inl (Nat.le_refl _)), List.drop_length, List.drop_length]
    rfl
  · rw [if_neg h3, neg_nth h1]
    by_cases h4 : ws.length ≤ i
    · obtain rfl : i = ws.length := by omega
      rw [if_pos (.inl (Nat.le_refl _)), List.drop_length]
      unfold leastC
      rw [if_neg]
      intro h5
      have := congrArg List.length h5
      rw [List.length_drop] at this
      simp at this
      apply h3
      omega
    · rw [if_neg (by omega)]
      split <;> rfl
theorem tab_set {i j : Nat} {v v' : Int} (h : TabA p ws l cells (i + 1) j v) (hi : i < ws.length) (hj : j ≤ l.length) : TabA p ws l (cells.set (i * (l.length + 1) + j) v') (i + 1) j v' := by
  obtain ⟨h1, h2⟩ := h
  refine ⟨by rw [List.length_set, h1], fun i' k hi' hk => ?_⟩
  have h4 := cell_lt (ws := ws) (l := l) (Nat.le_of_lt hi) hj
  rw [nth_setP _ _ _ _ (by rw [h1]; exact h4), h2 i' k hi' hk]
  by_cases h3 : i' * (l.length + 1) + k = i * (l.length + 1) + j
  · obtain ⟨rfl, rfl⟩ := idx_inj (by omega) (by omega) h3
    rw [if_pos rfl, if_neg (by omega), if_pos ⟨rfl, rfl⟩]
  · have h5 : ¬ (i' + 1 = i + 1 ∧ k = j) := by
      rintro ⟨h5, rfl⟩
      obtain rfl : i' = i := by omega
      exact h3 rfl
    rw [if_neg h3, if_neg h5, if_neg h5]
theorem tab_at {i j : Nat} {v : Int} (h : TabA p ws l cells (i + 1) j v) (hi : i < ws.length) (hj : j ≤ l.length) : nth cells (i * (l.length + 1) + j) = v := by
  rw [h.2 i j (by omega) hj, if_neg (by omega), if_pos ⟨rfl, rfl⟩]
theorem tab_below {i j k : Nat} {v : Int} (h : TabA p ws l cells (i + 1) j v) (hi : i < ws.length) (hk : k ≤ l.length) : nth cells ((i + 1) * (l.length + 1) + k) = leastC p (ws.drop (i + 1)) (l.drop k) := by
  rw [h.2 (i + 1) k (by omega) hk, if_pos (.inl (by omega))]
theorem tab_next {i j : Nat} {v : Int} (h : TabA p ws l cells (i + 1) j v) (hv : v = leastC p (ws.drop i) (l.drop j)) : TabA p ws l cells (i + 1) (j + 1) (-1) := by
  refine ⟨h.1, fun i' k hi' hk => ?_⟩
  rw [h.2 i' k hi' hk]
  by_cases h1 : i + 1 ≤ i' ∨ (i' + 1 = i + 1 ∧ k < j)
  · rw [if_pos h1, if_pos (by omega)]
  · rw [if_neg h1]
    by_cases h2 : i' + 1 = i + 1 ∧ k = j
    · rw [if_pos h2, if_pos (by omega), hv]
      obtain ⟨h3, rfl⟩ := h2
      obtain rfl : i' = i := by omega
      rfl
    · rw [if_neg h2, if_neg (by omega)]
      split <;> rfl
theorem tab_row {i j : Nat} {v : Int} (h : TabA p ws l cells (i + 1) j v) (hj : j = l.length + 1) : TabA p ws l cells i 0 (-1) := by
  refine ⟨h.1, fun i' k hi' hk => ?_⟩
  rw [h.2 i' k hi' hk]
  by_cases h1 : i ≤ i'
  · rw [if_pos (by omega), if_pos (by omega)]
  · rw [if_neg (by omega), if_neg (by omega), if_neg (by omega)]
    split <;> rfl
theorem tab_all {i k : Nat} (h : TabA p ws l cells 0 0 (-1)) (hi : i ≤ ws.length) (hk : k ≤ l.length) : nth cells (i * (l.length + 1) + k) = leastC p (ws.drop i) (l.drop k) := by
  rw [h.2 i k hi hk, if_pos (.inl (Nat.zero_le _))]
theorem drop_at {i : Nat} (hi : i < ws.length) : ws.drop i = nth ws i :: ws.drop (i + 1) := by rw [List.drop_eq_getElem_cons hi, nth_get hi]
theorem least_at {i : Nat} (hi : i < ws.length) (l' : List ByteArray) : leastC p (ws.drop i) l' = (offers p (nth ws i).v).foldl (stepC (tryC (leastC p (ws.drop (i + 1))) l')) (-1) := by rw [drop_at hi]; rfl
/-- What an alignment comes to. -/
def alOk (p : List Pr) (s : ByteArray) (l : List ByteArray) : Bool := decide (0 ≤ leastC p (runes s) l)
def alP (p : List Pr) (s : ByteArray) (l : List ByteArray) : List (List ByteArray) := if alOk p s l then pathC p (runes s) l else []
def alN (p : List Pr) (s : ByteArray) (l : List ByteArray) : Int := if alOk p s l then leastC p (runes s) l else 0
/-- A slice of slices that reads as lists. -/
def RdRR {α : Type} [Enc α] (sv : Value) (ll : List (List α)) (w : World) : Prop := ∃ vs : List SlV, RdL sv vs w ∧ RdR vs ll w
theorem rdrr_stb {α : Type} [Enc α] {sv : Value} {ll : List (List α)} {w : World} (h : RdRR sv ll w) : Stb w [] (RdRR sv ll) := by
  obtain ⟨vs, h1, h2, h3⟩ := h
  exact ⟨fun w' k => ⟨vs, (rd_stb h1).stb w' k, h2, fun i hi => (rd_stb (h3 i hi)).stb w' k⟩⟩
theorem rdR_snoc {α : Type} [Enc α] {vs : List SlV} {ll : List (List α)} {w : World} (h : RdR vs ll w) {s : SlV} {x : List α} (hs : RdL s.v x w) : RdR (vs ++ [s]) (ll ++ [x]) w := by
  refine ⟨by simp [h.1], fun i hi => ?_⟩
  rw [List.length_append, List.length_cons, List.length_nil] at hi
  have hl := h.1
  by_cases h1 : i < ll.length
  · have := h.2 i h1
    rwa [nth_get (by simp; omega), nth_get (by simp; omega), List.getElem_append_left (by omega), List.getElem_append_left h1, ← nth_get, ← nth_get]
  · obtain rfl : i = ll.length := by omega
    rw [nth_get (by simp; omega), nth_get (by simp)]
    simp [← hl]
    exact hs
/-- A slice whose address names no spot. -/
def SpotOk (s : SlV) : Prop := ∀ a, s.addr = some a → a.spot = none
theorem spot_own {α : Type} [Enc α] {e : TypeId} {s : SlV} {l : List α} {w : World} {bs : List Nat} (h : (ownL e s.v l).holds w bs) : SpotOk s := by
  obtain ⟨a, n, c⟩ := s
  rcases h with ⟨h1, _⟩ | ⟨b, n', c', cur, h1, _⟩
  · simp only [SlV.v, Value.slice.injEq] at h1
    intro x hx; simp only at hx; rw [h1.1] at hx; cases hx
  · simp only [SlV.v, Value.slice.injEq] at h1
    intro x hx; simp only at hx; rw [h1.1] at hx; cases hx; rfl
/-- Slices of ours that read as lists. -/
def RdRS {α : Type} [Enc α] (vs : List SlV) (ll : List (List α)) (w : World) : Prop := RdR vs ll w ∧ ∀ s ∈ vs, SpotOk s
def RdRQ {α : Type} [Enc α] (sv : Value) (ll : List (List α)) (w : World) : Prop := ∃ vs : List SlV, RdL sv vs w ∧ RdRS vs ll w
theorem rdrq_rr {α : Type} [Enc α] {sv : Value} {ll : List (List α)} {w : World} (h : RdRQ sv ll w) : RdRR sv ll w := by
  obtain ⟨vs, h1, h2, h4⟩ := h
  exact ⟨vs, h1, h2⟩
theorem rdRS_snoc {α : Type} [Enc α] {vs : List SlV} {ll : List (List α)} {w : World} (h : RdRS vs ll w) {s : SlV} {x : List α} (hs : RdL s.v x w) (hp : SpotOk s) : RdRS (vs ++ [s]) (ll ++ [x]) w :=
  ⟨rdR_snoc h.1 hs, fun s' h' => by rcases List.mem_append.1 h' with h' | h'
                                    · exact h.2 _ h'
                                    · simp at h'; subst h'; exact hp⟩
end Go.Proofs.YtkmbliojafefdaaGreatDoor
