import Derived.Test.YtkmbliojafefdaaGreatDoorWD4

set_option autoImplicit false
set_option linter.unusedSimpArgs false
set_option linter.unusedVariables false
set_option maxRecDepth 100000
namespace Go.Proofs.YtkmbliojafefdaaGreatDoor
open Go.Sx
open Enc (enc val)
theorem holdsX_fail (b : Nat) (e : XL) (hat : 0 ≤ e.at_ ∧ e.at_ ≤ 1000) (t : List Cond) (ht : ∀ c ∈ t, CondB c) : PredL Tryz.prog 190 #[.pointer (some ⟨b, 0, none⟩)] (fun c : Cond => !decide (lookC e.wl (e.at_ + c.at_) = c.c)) (fun w => BlkAt b (enc e) 179 w ∧ RdL e.w.v e.wl w) t := by
  intro c hc w ⟨hR1, hR2⟩
  have h1 := blk_stb hR1
  have h2 := rd_stb hR2
  have hcb : -1000 ≤ c.at_ ∧ c.at_ ≤ 1000 := ht c hc
  refine calls_cw (vs := [_, _]) Tryz.func190 rfl Tryz.ntmps190 rfl (Cl.start0 w) (cw_seq (cw_region ?_))
  refine sw_x rfl rfl rfl (e_box rfl rfl rfl) (fun b2 => ?_)
  refine sr rfl rfl rfl ((q_assign rfl rfl)) (sw_nil (post_then (cw_seq ?_)))
  refine cw_region_q mixed_Tryz (by kernel_rfl) ?_
  refine qr rfl rfl rfl ((q_fieldAddr rfl rfl)) ?_
  refine qr rfl rfl rfl ((q_loadS rfl rfl (fun w hw => Stb.cl (by assumption) hw) rfl)) ?_
  refine qr rfl rfl rfl ((q_fieldAddr rfl rfl)) ?_
  refine qr rfl rfl rfl ((q_loadS rfl rfl (fun w hw => Stb.cl (by assumption) hw) rfl)) ?_
  refine qr rfl rfl rfl ((q_fieldAddr rfl rfl)) ?_
  refine qr rfl rfl rfl ((q_loadC rfl rfl (by exact .head _) rfl)) ?_
  refine qr rfl rfl rfl ((q_add rfl rfl rfl (by intro hc; omega))) ?_
  refine qw_step rfl rfl rfl (q_call (CanCall.mk Tryz.call170) rfl (.cons rfl inferInstance (.cons rfl inferInstance (.nil))) (fun _ w hw => callq hw (look_spec _ _ _ w (by exact stb_arg hw (by assumption))))) ?_
  refine qr rfl rfl rfl ((q_fieldAddr rfl rfl)) ?_
  refine qr rfl rfl rfl ((q_loadC rfl rfl (by exact .head _) rfl)) ?_
  refine qr rfl rfl rfl ((q_neq rfl rfl rfl)) (qr rfl rfl rfl ((q_assign rfl rfl)) (qw_end (post_then (cw_ret (post_ret1 rfl (resOk_tmp rfl) ?_)))))
  exact fun w' hw => ⟨rfl, (fun w h => Cl.sel (by exact .nil _) w h) _ hw⟩
theorem holdsX_spec (e : XL) (hat : 0 ≤ e.at_ ∧ e.at_ ≤ 1000) (sv : Value) (t : List Cond) (ht : ∀ c ∈ t, CondB c) (w : World) (hs : Stb w [] (RdL sv t)) (hw0 : Stb w [] (RdL e.w.v e.wl)) : Calls Tryz.prog 155 #[val e, sv] w fun e' w' => e' = .returned (.bool (holdsC e.wl e.at_ t)) ∧ Cl w [] [] w' := by
  refine calls_cw (vs := [_, _]) Tryz.func155 rfl Tryz.ntmps155 rfl (Cl.start0 w) (cw_seq (cw_region ?_))
  refine sw_x rfl rfl rfl (e_box rfl rfl rfl) (fun b2 => ?_)
  refine sr rfl rfl rfl ((q_assign rfl rfl)) (sw_nil (post_then (cw_seq (cw_region (sr rfl rfl rfl ((q_move rfl rfl)) (sr rfl rfl rfl ((q_func_l rfl (.cons rfl inferInstance (.nil)))) ?_))))))
  refine sw_step rfl rfl rfl (q_call (CanCall.mk Tryz.call124) rfl (.cons rfl inferInstance (.cons rfl inferInstance (.nil))) (fun _ w hw => callq hw (hasCond_spec _ t _ _ _ (fun w => BlkAt b2 (enc e) 179 w ∧ RdL e.w.v e.wl w) w (by exact stb_arg hw (by assumption)) ⟨fun w' k => ⟨(stb_blk (t := 179) hw (by exact .head _)).stb w' k, (stb_arg hw hw0).stb w' k⟩⟩ (CanCall.mk Tryz.call190) (holdsX_fail b2 e hat t ht)))) ?_
  refine sr rfl rfl rfl ((q_not rfl rfl)) (sr rfl rfl rfl ((q_assign rfl rfl)) (sw_nil (post_then (cw_ret (post_ret1 rfl (resOk_tmp rfl) ?_)))))
  refine fun w' hw => ⟨?_, (fun w h => Cl.sel (by exact .nil _) w h) _ hw⟩
  rw [all_not_any, Bool.not_not]; rfl
theorem heldBy_spec (b : Nat) (u : Tly) (hu : TTB u.t) (l : List XL) (hat : ∀ e ∈ l, 0 ≤ e.at_ ∧ e.at_ ≤ 1000) : PredL Tryz.prog 154 #[.pointer (some ⟨b, 0, none⟩)] (fun e : XL => holdsC e.wl e.at_ u.t.list) (fun w => BlkAt b (enc u) 213 w ∧ ∀ e ∈ l, RdL e.w.v e.wl w) l := by
  intro e he w ⟨hR1, hR2⟩
  have h1 := blk_stb hR1
  have h2 := rd_stb (hR2 e he)
  have hte := hat e he
  have htb := list_bd hu
  refine calls_cw (vs := [_, _]) Tryz.func154 rfl Tryz.ntmps154 rfl (Cl.start0 w) (cw_seq (cw_region ?_))
  refine sw_x rfl rfl rfl (e_box rfl rfl rfl) (fun b2 => ?_)
  refine sr rfl rfl rfl ((q_assign rfl rfl)) (sw_nil (post_then (cw_seq (cw_region_a (Cl w [] [blk b2 (enc e) 179]) [] mixed_Tryz ?_))))
  refine aw_take 1 (fun w h => Cl.sel (by exact .take 0 rfl (.nil _)) w h) rfl (by kernel_rfl) (by kernel_rfl) (by kernel_rfl) (by kernel_rfl) (by kernel_rfl) (by kernel_rfl) rfl rfl rfl (q_fieldAddr rfl rfl) ?_
  refine aw_take 0 (fun w h => Cl.sel (by exact .take 0 rfl (.nil _)) w h) rfl (by kernel_rfl) (by kernel_rfl) (by kernel_rfl) (by kernel_rfl) (by kernel_rfl) (by kernel_rfl) rfl rfl rfl (q_loadA rfl rfl (by exact .head _) rfl) ?_
  refine aw_take 2 (fun w h => Cl.sel (by exact .take 0 rfl (.nil _)) w h) rfl (by kernel_rfl) (by kernel_rfl) (by kernel_rfl) (by kernel_rfl) (by kernel_rfl) (by kernel_rfl) rfl rfl rfl (q_loadAS rfl rfl (fun w hw => Stb.cl h1 hw) (by kernel_rfl)) ?_
  refine aw_x 3 (by kernel_rfl) rfl rfl rfl rfl (e_call (CanCall.mk Tryz.call151) rfl (.cons rfl inferInstance (.nil)) (fun w1 hw => list_spec u.t w1)) (by intro hb; exact fun _ w h => (fun w h => Cl.sel (by exact .take 1 rfl (.nil _)) w h) w h.2) (fun s7 => ?_)
  refine aw_imp fun _ => ?_
  refine aw_q 4 (by kernel_rfl) rfl rfl rfl rfl (q_call (CanCall.mk Tryz.call155) rfl (.cons rfl inferInstance (.cons rfl inferInstance (.nil))) (fun _ w1 hw => callq hw (holdsX_spec e hte _ u.t.list htb w1 (by exact stb_own hw (by exact .head _)) (stb_arg hw h2)))) (by intro hb; exact (fun w h => Cl.sel (by exact .take 1 rfl (.nil _)) w h)) ?_
  refine aw_pure 5 rfl (by kernel_rfl) (by kernel_rfl) (by kernel_rfl) (by kernel_rfl) (by kernel_rfl) rfl rfl rfl (q_assign rfl rfl) ?_
  refine aw_end (by kernel_rfl) ?_
  refine post_then (cw_ret (post_ret1 rfl (resOk_tmp rfl) ?_))
  exact fun w' hw => ⟨rfl, (fun w h => Cl.sel (by exact .nil _) w h) _ hw⟩
theorem del_step {l c : List XL} {p : XL → Bool} {i j : Nat} (hc : c.length = l.length) (hij : i < j) (hj : j < l.length) (h1 : c.take i = (l.take j).filter fun x => !p x) (h2 : c.drop j = l.drop j) :
    nth c j = nth l j ∧ (p (nth l j) = false → ((c.set i (nth l j)).take (i + 1) = (l.take (j + 1)).filter (fun x => !p x)) ∧ (c.set i (nth l j)).drop (j + 1) = l.drop (j + 1)) ∧ (p (nth l j) = true → (c.take i = (l.take (j + 1)).filter fun x => !p x) ∧ c.drop (j + 1) = l.drop (j + 1)) := by
  have hd : c.drop (j + 1) = l.drop (j + 1) := by rw [← List.drop_drop, ← List.drop_drop, h2]
  refine ⟨?_, fun hp => ⟨?_, ?_⟩, fun hp => ⟨?_, hd⟩⟩
  · have := congrArg List.head? h2
    rw [List.head?_drop, List.head?_drop] at this
    rw [nth_get (by omega), nth_get hj]
    rw [List.getElem?_eq_getElem (by omega), List.getElem?_eq_getElem hj] at this
    exact Option.some.inj this
  · rw [List.take_succ_eq_append_getElem (by simp; omega), List.getElem_set_self, List.take_set_of_le (Nat.le_refl _), h1, List.take_succ_eq_append_getElem hj, List.filter_append, nth_get hj]
    rw [nth_get hj] at hp
    simp [hp]
  · rw [List.drop_set_of_lt (by omega)]; exact hd
  · rw [h1, List.take_succ_eq_append_getElem hj, List.filter_append]
    rw [nth_get hj] at hp
    simp [hp]
theorem delF_spec (s : SlV) (l : List XL) (g : FuncId) (cap : Array Value) (p : XL → Bool) (R : World → Prop) (w : World) (bs : List Nat) (hs : Sep [ownL 179 s.v l] w bs) (hn : bs.Nodup) (hlt : ∀ b ∈ bs, b < w.heap.size) (hR : Stb w bs R) (hgc : CanCall Tryz.prog g) (hg : PredL Tryz.prog g cap p R l) :
    Calls Tryz.prog 152 #[s.v, .func (.func g) #[] cap] w fun e w' => ∃ r : SlV, e = .returned r.v ∧ True ∧ Cl w bs [ownL 179 r.v (l.filter fun x => !p x)] w' := by
  have hst := Cl.start hs hn hlt
  have hL := (rd_own (e := 179) (l := l) hst (.head _)).len
  have hLn := rd_len (rd_own (e := 179) (l := l) hst (.head _))
  refine calls_cw (vs := [_, _]) Tryz.func152 rfl Tryz.ntmps152 rfl hst (cw_seq (cw_region (sr rfl rfl rfl ((q_assign rfl rfl)) (sw_nil (post_then (cw_seq (cw_region (sr rfl rfl rfl ((q_move rfl rfl)) (sr rfl rfl rfl ((q_move rfl rfl)) (sw_step rfl rfl rfl (q_call (CanCall.mk Tryz.call189) rfl (.cons rfl inferInstance (.cons rfl inferInstance (.nil))) (fun _ w1 hw => callq hw (xl_index _ l g cap p R w1 (stb_own (e := 179) hw (.head _)) (stb_arg hw hR) hgc hg))) (sr rfl rfl rfl ((q_assign rfl rfl)) (sw_nil (post_then (cw_seq (cw_seq (cw_region (sr rfl rfl rfl ((q_move rfl rfl)) (sr rfl rfl rfl ((q_eql rfl rfl rfl)) (sw_nil (post_then ?_))))))))))))))))))))
  refine cw_cond rfl (fun h => ?_) (fun h => ?_)
  · skip
    have h1 : (l.filter fun x => !p x) = l := by
      rw [List.filter_eq_self]
      intro x hx
      by_cases hp : p x = true
      · have : decide (0 ≤ idxP p l) = true := by rw [idxP_any]; exact List.any_eq_true.2 ⟨x, hx, hp⟩
        simp at h this; omega
      · simpa using hp
    refine cw_seq (cw_region (sr rfl rfl rfl ((q_move rfl rfl)) (sr rfl rfl rfl ((q_assign rfl rfl)) (sw_nil (post_then (cw_ret (post_then_r (post_ret1 rfl (resOk_tmp rfl) ?_))))))))
    exact fun w' hw => ⟨s, rfl, trivial, by rw [h1]; exact hw⟩
  · skip
    obtain ⟨k, hk⟩ : ∃ k : Nat, l.findIdx? p = some k := by
      cases hf : l.findIdx? p with
      | none => simp [idxP, hf] at h
      | some k => exact ⟨k, rfl⟩
    have hik : idxP p l = k := by unfold idxP; rw [hk]
    obtain ⟨hkl, hkp, hkn⟩ := List.findIdx?_eq_some_iff_getElem.1 hk
    have htk : l.take k = (l.take (k + 1)).filter fun x => !p x := by
      rw [List.take_succ_eq_append_getElem hkl, List.filter_append]
      have e1 : ((l.take k).filter fun x => !p x) = l.take k := by
        rw [List.filter_eq_self]
        intro x hx
        obtain ⟨q, hq, rfl⟩ := List.getElem_of_mem hx
        rw [List.length_take] at hq
        have := hkn q (by omega)
        rw [List.getElem_take]
        simpa using this
      rw [e1]; simp [hkp]
    rw [hik]
    refine cw_skip (post_then (cw_seq (cw_seq (cw_region (sr rfl rfl rfl ((q_move rfl rfl)) ?_)))))
    refine sr rfl rfl rfl ((q_add rfl rfl rfl (by intro hc; omega))) ?_
    refine sr rfl rfl rfl ((q_assign rfl rfl)) (sw_nil (post_then (cw_block ?_)))
    refine cw_loop (S := Nat × Nat × List XL) (fun y => [(0, [], s.v), (1, [], .func (.func g) #[] cap), (5, [], .int .i64 y.1), (6, [], .int .i64 y.2.1)]) (fun y => Cl w bs [ownL 179 s.v y.2.2]) (fun y => y.1 < y.2.1 ∧ y.2.1 ≤ l.length ∧ y.2.2.length = l.length ∧ y.2.2.take y.1 = (l.take y.2.1).filter (fun x => !p x) ∧ y.2.2.drop y.2.1 = l.drop y.2.1) (fun y => l.length - y.2.1) (k, k + 1, l) ⟨by simp only; omega, by simp only; omega, rfl, htk, rfl⟩ (by exact .cons rfl (.cons rfl (.cons rfl (.cons rfl .nil)))) (fun _ h => h) ?_
    rintro ⟨i, j, c⟩ ⟨hij, hj, hcl, hct, hcd⟩
    dsimp only at hij hj hcl hct hcd ⊢
    refine cw_seq (cw_seq (cw_region (sr rfl rfl rfl ((q_move rfl rfl)) (sr rfl rfl rfl ((q_move rfl rfl)) ?_))))
    refine sr rfl rfl rfl ((q_len rfl (.cons rfl inferInstance (.nil)) (by exact fun w hw => rd_own hw (by exact .head _)))) ?_
    refine sr rfl rfl rfl ((q_lss rfl rfl rfl)) (sw_nil (post_then ?_))
    refine cw_cond rfl (fun h2 => ?_) (fun h2 => ?_)
    · skip
      have hj' : j < l.length := by simp at h2; omega
      obtain ⟨d1, d2, d3⟩ := del_step hcl hij hj' hct hcd
      obtain ⟨x, hx⟩ : ∃ x, nth l j = x := ⟨_, rfl⟩
      rw [hx] at d1 d2 d3
      have hxm : x ∈ l := by rw [← hx]; exact nth_mem hj'
      refine cw_skip (post_then (cw_seq (cw_block (cw_seq (cw_region (sr rfl rfl rfl ((q_move rfl rfl)) (sr rfl rfl rfl ((q_move rfl rfl)) ?_)))))))
      refine sr rfl rfl rfl ((q_indexN rfl rfl rfl (by exact fun w hw => rd_own hw (by exact .head _)) (by intro hc; omega))) ?_
      refine sr rfl rfl rfl ((q_loadEl rfl rfl rfl (by exact fun w hw => rd_own hw (by exact .head _)) (by intro hc; omega))) ?_
      rw [d1]
      refine sw_x rfl rfl rfl (e_alloc rfl) (fun b7 => ?_)
      refine sw_eff0 rfl rfl (e_store (i := 0) rfl rfl rfl rfl rfl rfl rfl rfl) (sw_nil (post_then (cw_seq (cw_region (sr rfl rfl rfl ((q_move rfl rfl)) ?_)))))
      refine sr rfl rfl rfl ((q_loadA rfl rfl (by exact .head _) rfl)) ?_
      refine sw_step rfl rfl rfl (q_callv hgc rfl rfl (.cons rfl inferInstance (.nil)) (fun _ w' hw => callq hw (hg x hxm w' (hR.cl hw)))) (sr rfl rfl rfl ((q_not rfl rfl)) (sw_nil (post_then ?_)))
      refine cw_cond rfl (fun h3 => ?_) (fun h3 => ?_)
      · skip
        have hp : p x = false := by simpa using h3
        obtain ⟨g1, g2⟩ := d2 hp
        refine cw_seq (cw_region (sr rfl rfl rfl ((q_move rfl rfl)) (sr rfl rfl rfl ((q_move rfl rfl)) ?_)))
        refine sr rfl rfl rfl ((q_loadA rfl rfl (by exact .head _) rfl)) ?_
        refine sr rfl rfl rfl ((q_indexN rfl rfl rfl (by exact fun w hw => rd_own hw (by exact .tail _ (.head _))) (by intro hc; omega))) ?_
        refine sw_eff0 rfl rfl (e_storeEl1 (i := 1) rfl rfl rfl rfl rfl (by omega)) ?_
        refine sw_nil (post_then (cw_region (sr rfl rfl rfl ((q_move rfl rfl)) ?_)))
        refine sr rfl rfl rfl ((q_add rfl rfl rfl (by intro hc; omega))) ?_
        refine sr rfl rfl rfl ((q_assign rfl rfl)) (sw_nil (post_blk (post_then (cw_region (sr rfl rfl rfl ((q_move rfl rfl)) ?_)))))
        refine sr rfl rfl rfl ((q_add rfl rfl rfl (by intro hc; omega))) ?_
        refine sr rfl rfl rfl ((q_assign rfl rfl)) (sw_nil ?_)
        exact post_next (i + 1, j + 1, c.set i x) (by exact .cons rfl (.cons rfl (.cons rfl (.cons rfl .nil)))) (fun _ h => (fun w h => Cl.sel (by exact .take 1 rfl (.nil _)) w h) _ h) ⟨by simp only; omega, by simp only; omega, by simp only [List.length_set]; omega, g1, g2⟩ (by simp only; omega)
      · skip
        have hp : p x = true := by simpa using h3
        obtain ⟨g1, g2⟩ := d3 hp
        refine cw_skip (post_blk (post_then (cw_region (sr rfl rfl rfl ((q_move rfl rfl)) ?_))))
        refine sr rfl rfl rfl ((q_add rfl rfl rfl (by intro hc; omega))) ?_
        refine sr rfl rfl rfl ((q_assign rfl rfl)) (sw_nil ?_)
        exact post_next (i, j + 1, c) (by exact .cons rfl (.cons rfl (.cons rfl (.cons rfl .nil)))) (fun _ h => (fun w h => Cl.sel (by exact .take 1 rfl (.nil _)) w h) _ h) ⟨by simp only; omega, by simp only; omega, hcl, g1, g2⟩ (by simp only; omega)
    · skip
      have hj' : j = l.length := by simp at h2; omega
      subst hj'
      rw [List.take_length] at hct
      rw [← hcl] at hij
      have hil : i ≤ c.length := by omega
      refine cw_exit (post_then_x (post_then_x (post_blk_eq (post_then (cw_seq (cw_region (sr rfl rfl rfl ((q_move rfl rfl)) (sr rfl rfl rfl ((q_move rfl rfl)) ?_))))))))
      refine sr rfl rfl rfl ((q_sliceL rfl rfl rfl (by exact fun w hw => rd_own hw (by exact .head _)) (by intro hc; omega))) ?_
      refine sw_effn rfl rfl (e_clear (α := XL) (zero := default) (k := i) (l := c) (i := 0) rfl (.cons rfl inferInstance (.nil)) rfl rfl rfl hil) (sw_nil (post_then (cw_seq (cw_region (sr rfl rfl rfl ((q_move rfl rfl)) (sr rfl rfl rfl ((q_move rfl rfl)) ?_))))))
      refine sr rfl rfl rfl ((q_sliceH rfl rfl rfl (by exact fun w hw => rd_own hw (by exact .head _)) (by intro hc; (simp only [List.length_set, List.length_append, List.length_cons, List.length_nil, List.length_replicate, List.length_take, List.length_drop, List.length_map]; omega)))) ?_
      refine sr rfl rfl rfl ((q_assign rfl rfl)) (sw_nil (post_then (cw_ret (post_ret1 rfl (resOk_tmp rfl) ?_))))
      refine fun w' hw => ⟨s.sub 3 0 i, rfl, trivial, ?_⟩
      have h5 := own_shrink (k := i) (by rw [List.length_append, List.length_take]; omega) hw
      rw [List.take_append_of_le_length (by rw [List.length_take]; omega), List.take_take, Nat.min_self, hct] at h5
      exact h5
theorem cloneX_spec (s : SlV) (l : List XL) (hlen : l.length ≤ 1000000) (w : World) (hs : Stb w [] (RdL s.v l)) : Calls Tryz.prog 153 #[s.v] w fun e w' => ∃ r : SlV, e = .returned r.v ∧ (l = [] → r.len = 0) ∧ Cl w [] [ownL 179 r.v l] w' := by
  have hL := rd_len hs.here
  refine calls_cw (vs := [_]) Tryz.func153 rfl Tryz.ntmps153 rfl (Cl.start0 w) (cw_seq (cw_region (sr rfl rfl rfl ((q_assign rfl rfl)) (sw_nil (post_then (cw_seq (cw_seq (cw_region (sr rfl rfl rfl ((q_move rfl rfl)) (sr rfl rfl rfl ((q_eqlNil rfl rfl)) (sw_nil (post_then ?_))))))))))))
  refine cw_cond rfl (fun h => ?_) (fun h => ?_)
  · skip
    have h1 : l = [] := rd_nil hs.here (by simpa using h)
    refine cw_seq (cw_region (sr rfl rfl rfl ((q_assign rfl rfl)) (sw_nil (post_then (cw_ret (post_then_r (post_ret1 rfl (resOk_tmp rfl) ?_)))))))
    exact fun w' hw => ⟨⟨none, 0, 0⟩, rfl, fun _ => rfl, by rw [h1]; exact Cl.addNil 179 hw⟩
  · skip
    refine cw_skip (post_then (cw_seq (cw_region ?_)))
    refine sw_x rfl rfl rfl (e_buildL (α := XL) (l := []) rfl (.nil) rfl rfl rfl rfl) (fun s5 => ?_)
    refine sr rfl rfl rfl ((q_move rfl rfl)) ?_
    refine sw_x rfl rfl rfl (e_append (i := 0) rfl (.cons rfl inferInstance (.cons rfl inferInstance (.nil))) rfl rfl (by exact fun w hw => Stb.cl (by assumption) hw) (by first | omega | (simp only [List.length_set, List.length_append, List.length_cons, List.length_nil, List.length_replicate, List.length_take, List.length_drop, List.length_map]; omega)) rfl) (fun s7 => ?_)
    refine sr rfl rfl rfl ((q_assign rfl rfl)) (sw_nil (post_then (cw_ret (post_ret1 rfl (resOk_tmp rfl) ?_))))
    refine fun w' hw => ⟨s7, rfl, fun h1 => ?_, (fun w h => Cl.sel (by exact .take 0 rfl (.nil _)) w h) _ hw⟩
    have := rd_own (e := 179) hw (.head _)
    have := this.len
    simp [h1] at this; omega
end Go.Proofs.YtkmbliojafefdaaGreatDoor

set_option autoImplicit false
set_option maxRecDepth 100000
namespace Go.Proofs.YtkmbliojafefdaaGreatDoor
open Go.Sx
open Enc (enc val)
def listF (o : Lrn) : Nat → List XL → List (List Cond × List ByteArray) → List XL × List (List Cond × List ByteArray)
  | 0, lf, out => (lf, out)
  | n + 1, lf, out => if 0 < lf.length ∧ (out.length : Int) < o.most then
      if (mostC lf).m = lf.length then (lf, out) else
      match bestC lf o.reach o.least with
      | none => (lf, out)
      | some u => listF o n (lf.filter fun e => !holdsC e.wl e.at_ u.t.list) (out ++ [(u.t.list, u.pl)])
    else (lf, out)
def lastC (l : List XL) (y : List XL × List (List Cond × List ByteArray)) : List (List Cond × List ByteArray) := y.2 ++ [([], (mostC (if y.1.length = 0 then l else y.1)).b)]
def listC (l : List XL) (o : Lrn) : List (List Cond × List ByteArray) := lastC l (listF o (l.length + 1) l [])
theorem most_in (l : List XL) : (mostC l).b = [] ∨ ∃ e ∈ l, (mostC l).b = e.pl := by
  have key : ∀ (q : List XL) (s : MS), (∀ x ∈ q, x ∈ l) → (s.b = [] ∨ ∃ e ∈ l, s.b = e.pl) → (q.foldl (mostStep l) s).b = [] ∨ ∃ e ∈ l, (q.foldl (mostStep l) s).b = e.pl := by
    intro q
    induction q with
    | nil => intro s _ h; exact h
    | cons x q ih =>
      intro s hq h
      rw [List.foldl_cons]
      refine ih _ (fun y hy => hq y (.tail _ hy)) ?_
      unfold mostStep
      split
      · exact .inr ⟨x, hq x (.head _), rfl⟩
      · exact h
  exact key l _ (fun _ h => h) (.inl rfl)
theorem most_small {l : List XL} (h : ∀ e ∈ l, ExOk e) : (mostC l).b.length ≤ 1000 := by
  rcases most_in l with e | ⟨e, he, h2⟩
  · rw [e]; simp
  · rw [h2]; exact (h e he).small
theorem most_rdL {l : List XL} {w : World} (h : ∀ e ∈ l, ExIn e w) : RdL (mostC l).s.v (mostC l).b w := by
  have := most_rd h (Nat.le_refl l.length)
  rw [List.take_length] at this
  exact this
theorem best_is {l : List XL} {r least : Int} {u : Tly} (h : bestC l r least = some u) : IsT l r least u := by
  unfold bestC at h
  split at h
  · cases h
  · rename_i h1
    have h2 := minBy_mem betC (l := tallies l r least) (List.length_pos_iff.2 h1)
    rw [Option.some.inj h] at h2
    exact mem_tallies.1 h2
structure LrnOk (o : Lrn) : Prop where
  reach : 1 ≤ o.reach ∧ o.reach ≤ 3
  least : 1 ≤ o.least ∧ o.least ≤ 1000
  most : 1 ≤ o.most ∧ o.most ≤ 500
/-- What a best candidate leaves. -/
theorem best_left {l : List XL} {o : Lrn} {u : Tly} (ho : LrnOk o) (h : bestC l o.reach o.least = some u) : (l.filter fun e => !holdsC e.wl e.at_ u.t.list).length < l.length := by
  obtain ⟨e, he, t, ht, rfl, _⟩ := best_is h
  have h1 := (cands_ok ho.reach.1 ht).holds
  rcases Nat.lt_or_ge (l.filter fun e => !holdsC e.wl e.at_ (tlyOf l o.reach t).t.list).length l.length with h2 | h2
  · exact h2
  · exfalso
    have h3 : (l.filter fun e => !holdsC e.wl e.at_ (tlyOf l o.reach t).t.list) = l := List.Sublist.eq_of_length_le List.filter_sublist h2
    rw [List.filter_eq_self] at h3
    have := h3 e he
    have h4 : (tlyOf l o.reach t).t = t := rfl
    rw [h4, h1] at this; simp at this
theorem cl_true {w0 w : World} {fp : List Nat} {H : List Asn} {R : World → Prop} (hR : ∀ w, R w) (h : Cl w0 fp H w) : Cl w0 fp (Sx.frz R :: H) w := Cl.frz (H := []) h fun w _ _ => hR w
theorem list119_spec (sv : SlV) (l : List XL) (o : Lrn) (ho : LrnOk o) (hl : l.length ≤ 1000000) (hok : ∀ e ∈ l, ExOk e) (w : World) (hs : Stb w [] (RdL sv.v l)) (hin : Stb w [] fun w' => ∀ u ∈ l, ExIn u w') :
    Calls Tryz.prog 119 #[sv.v, val o] w fun e w' => ∃ y : SlV × List Chc, e = .returned y.1.v ∧ (y.2.map fun u => (u.tl, u.pl)) = listC l o ∧ Cl w [] [Sx.frz fun w => RdL y.1.v y.2 w ∧ ∀ u ∈ y.2, ChcIn u w] w' := by
  have hL := rd_len hs.here
  have hmo := ho.most
  refine calls_cw (vs := [_, _]) Tryz.func119 rfl Tryz.ntmps119 rfl (Cl.start0 w) (cw_seq (cw_region ?_))
  refine sw_x rfl rfl rfl (e_box rfl rfl rfl) (fun b3 => ?_)
  refine sr rfl rfl rfl ((q_assign rfl rfl)) (sw_nil (post_then (cw_seq (cw_region (sr rfl rfl rfl ((q_assign rfl rfl)) (sw_nil (post_then (cw_seq (cw_region (sr rfl rfl rfl ((q_move rfl rfl)) (sr rfl rfl rfl ((q_assign rfl rfl)) (sw_nil (post_then (cw_seq ?_))))))))))))))
  refine cw_cut (S := SlV × List XL × List Asn × SlV × List Chc) (fun y => [(0, [], sv.v), (3, [], .pointer (some ⟨b3, 0, none⟩)), (5, [], y.2.2.2.1.v), (6, [], y.1.v)]) (fun y => Cl w [] (ownL 64 y.2.2.2.1.v y.2.2.2.2 :: Sx.frz (fun w => ∀ u ∈ y.2.2.2.2, ChcIn u w) :: blk b3 (enc o) 40 :: y.2.2.1)) (fun y => (∀ (H : List Asn) w', Cl w [] H w' → (∀ A ∈ y.2.2.1, A ∈ H) → Stb w' [] (RdL y.1.v y.2.1)) ∧ (∀ e ∈ y.2.1, e ∈ l) ∧ y.2.1.length ≤ l.length ∧ (y.2.2.2.2.length : Int) ≤ o.most ∧ lastC l (y.2.1, y.2.2.2.2.map fun u => (u.tl, u.pl)) = listC l o) ?_ ?_
  · skip
    refine cw_block ?_
    refine cw_loop (S := Nat × SlV × List XL × List Asn × SlV × List Chc) (fun y => [(0, [], sv.v), (3, [], .pointer (some ⟨b3, 0, none⟩)), (5, [], y.2.2.2.2.1.v), (6, [], y.2.1.v)]) (fun y => Cl w [] (ownL 64 y.2.2.2.2.1.v y.2.2.2.2.2 :: Sx.frz (fun w => ∀ u ∈ y.2.2.2.2.2, ChcIn u w) :: blk b3 (enc o) 40 :: y.2.2.2.1)) (fun y => (∀ (H : List Asn) w', Cl w [] H w' → (∀ A ∈ y.2.2.2.1, A ∈ H) → Stb w' [] (RdL y.2.1.v y.2.2.1)) ∧ (∀ e ∈ y.2.2.1, e ∈ l) ∧ y.2.2.1.length ≤ l.length ∧ y.2.2.1.length < y.1 ∧ (y.2.2.2.2.2.length : Int) ≤ o.most ∧ lastC l (listF o y.1 y.2.2.1 (y.2.2.2.2.2.map fun u => (u.tl, u.pl))) = listC l o) (fun y => y.1) (l.length + 1, sv, l, [], ⟨none, 0, 0⟩, []) ⟨fun H w' h _ => stb_arg h hs, fun e h => h, Nat.le_refl _, by simp, by simp; omega, rfl⟩ (by exact .cons rfl (.cons rfl (.cons rfl (.cons rfl .nil)))) (fun w' h => Cl.addNil 64 (cl_true (fun w => by simp) h)) ?_
    rintro ⟨n, sl, lf, G, so, out⟩ ⟨hG, hsub, hll, hln, hol, hF⟩
    dsimp only at hG hsub hll hln hol hF ⊢
    have hmem : ∀ (A B D : Asn), ∀ X ∈ G, X ∈ A :: B :: D :: G := fun A B D X hX => .tail _ (.tail _ (.tail _ hX))
    have hexo : ∀ e ∈ lf, ExOk e := fun e he => hok e (hsub e he)
    have hexi : Stb w [] fun w' => ∀ u ∈ lf, ExIn u w' := stb_map hin fun _ h u hu => h u (hsub u hu)
    obtain ⟨n, rfl⟩ : ∃ k, n = k + 1 := ⟨n - 1, by omega⟩
    refine cw_seq (cw_seq (cw_region (sr rfl rfl rfl ((q_move rfl rfl)) (sr rfl rfl rfl ((q_len (xs := lf) rfl (.cons rfl inferInstance (.nil)) (fun w1 h1 => (hG _ w1 h1 (hmem _ _ _)).here))) (sr rfl rfl rfl ((q_gtr rfl rfl rfl)) (sr rfl rfl rfl ((q_move rfl rfl)) (sr rfl rfl rfl ((q_move rfl rfl)) ?_)))))))
    refine sr rfl rfl rfl ((q_len rfl (.cons rfl inferInstance (.nil)) (by exact fun w hw => rd_own hw (by exact .head _)))) ?_
    refine sr rfl rfl rfl ((q_fieldAddr rfl rfl)) ?_
    refine sr rfl rfl rfl ((q_loadC rfl rfl (by exact .tail _ (.tail _ (.head _))) rfl)) ?_
    refine sr rfl rfl rfl ((q_lss rfl rfl rfl)) (sr rfl rfl rfl ((q_and2 rfl rfl rfl)) (sw_nil (post_then ?_)))
    refine cw_cond rfl (fun h => ?_) (fun h => ?_)
    · skip
      have hc : 0 < lf.length ∧ (out.length : Int) < o.most := by simp at h; omega
      have hF2 := hF
      unfold listF at hF2
      rw [List.length_map, if_pos hc] at hF2
      refine cw_skip (post_then (cw_block (cw_seq (cw_seq (cw_region (sr rfl rfl rfl ((q_move rfl rfl)) ?_))))))
      refine sw_step rfl rfl rfl (q_call (CanCall.mk Tryz.call149) rfl (.cons rfl inferInstance (.nil)) (fun _ w1 hw => callq hw (most_spec _ lf (by omega) hexo w1 (hG _ w1 hw (hmem _ _ _)) (stb_arg hw hexi)))) ?_
      refine sr rfl rfl rfl ((q_move rfl rfl)) (sr rfl rfl rfl ((q_extract rfl rfl rfl)) (sr rfl rfl rfl ((q_extract rfl rfl rfl)) (sr rfl rfl rfl ((q_assign rfl rfl)) (sr rfl rfl rfl ((q_assign rfl rfl)) (sw_nil (post_then (cw_seq (cw_region (sr rfl rfl rfl ((q_move rfl rfl)) (sr rfl rfl rfl ((q_move rfl rfl)) (sr rfl rfl rfl ((q_len (xs := lf) rfl (.cons rfl inferInstance (.nil)) (fun w1 h1 => (hG _ w1 h1 (hmem _ _ _)).here))) (sr rfl rfl rfl ((q_eql rfl rfl rfl)) (sw_nil (post_then ?_))))))))))))))
      refine cw_cond rfl (fun h2 => ?_) (fun h2 => ?_)
      · skip
        rw [if_pos (by simpa using h2)] at hF2
        refine cw_exit (post_then_x (post_blk_ne rfl (post_then_x (post_blk_eq ?_))))
        exact post_meet (sl, lf, G, so, out) (by exact .cons rfl (.cons rfl (.cons rfl (.cons rfl .nil)))) (fun w' h => h) ⟨hG, hsub, hll, hol, hF2⟩
      · skip
        rw [if_neg (by simpa using h2)] at hF2
        refine cw_skip (post_then (cw_seq (cw_region (sr rfl rfl rfl ((q_move rfl rfl)) ?_))))
        refine sr rfl rfl rfl ((q_loadA rfl rfl (by exact .tail _ (.tail _ (.head _))) rfl)) ?_
        refine sw_step rfl rfl rfl (q_call (CanCall.mk Tryz.call150) rfl (.cons rfl inferInstance (.cons rfl inferInstance (.nil))) (fun _ w1 hw => callq hw (best_spec _ lf o ho.reach ho.least.1 (by omega) hexo w1 (hG _ w1 hw (hmem _ _ _)) (stb_arg hw hexi)))) ?_
        obtain ⟨bo, hbo⟩ : ∃ bo, bestC lf o.reach o.least = bo := ⟨_, rfl⟩
        rw [hbo]
        rw [hbo] at hF2
        refine sr rfl rfl rfl ((q_move rfl rfl)) (sr rfl rfl rfl ((q_extract rfl rfl rfl)) (sr rfl rfl rfl ((q_extract rfl rfl rfl)) ?_))
        refine sw_x rfl rfl rfl (e_alloc rfl) (fun b9 => ?_)
        refine sw_eff0 rfl rfl (e_store (i := 0) rfl rfl rfl rfl rfl rfl rfl rfl) (sr rfl rfl rfl ((q_assign rfl rfl)) (sw_nil (post_then (cw_seq (cw_seq (cw_region (sr rfl rfl rfl ((q_move rfl rfl)) (sr rfl rfl rfl ((q_not rfl rfl)) (sw_nil (post_then ?_))))))))))
        refine cw_cond rfl (fun h3 => ?_) (fun h3 => ?_)
        · skip
          have h4 : bo = none := by cases bo with
            | none => rfl
            | some => simp at h3
          subst h4
          refine cw_exit (post_then_x (post_blk_ne rfl (post_then_x (post_blk_eq ?_))))
          exact post_meet (sl, lf, G, so, out) (by exact .cons rfl (.cons rfl (.cons rfl (.cons rfl .nil)))) (fun w' h => h.tail) ⟨hG, hsub, hll, hol, hF2⟩
        · skip
          obtain ⟨u, rfl⟩ : ∃ u, bo = some u := by cases bo with
            | none => simp at h3
            | some u => exact ⟨u, rfl⟩
          have hdec := best_left ho hbo
          have hub := isT_bd ho.reach (by omega) (best_is hbo)
          have hul : u.pl.length ≤ 1000 := by
            obtain ⟨e, he, t, ht, rfl, _⟩ := best_is hbo
            exact most_small (l := heldC lf o.reach t) fun q hq => hexo q (List.mem_filter.1 hq).1
          have hup : Stb w [] (RdL u.p.v u.pl) := by
            obtain ⟨e, he, t, ht, rfl, _⟩ := best_is hbo
            exact stb_map hexi fun _ h => most_rdL (l := heldC lf o.reach t) fun q hq => h q (List.mem_filter.1 hq).1
          have hat : ∀ e ∈ lf, 0 ≤ e.at_ ∧ e.at_ ≤ 1000 := fun e he => (hexo e he).at0
          dsimp only [Option.getD_some]
          refine cw_skip (post_then (cw_seq (cw_region_a (Cl w [] [blk b9 (enc u) 213]) [] mixed_Tryz ?_)))
          refine aw_pure 0 rfl (by kernel_rfl) (by kernel_rfl) (by kernel_rfl) (by kernel_rfl) (by kernel_rfl) rfl rfl rfl (q_move rfl rfl) ?_
          refine aw_take 1 (fun w h => Cl.sel (by exact .take 0 rfl (.nil _)) w h) rfl (by kernel_rfl) (by kernel_rfl) (by kernel_rfl) (by kernel_rfl) (by kernel_rfl) (by kernel_rfl) rfl rfl rfl (q_fieldAddr rfl rfl) ?_
          refine aw_take 2 (fun w h => Cl.sel (by exact .take 0 rfl (.nil _)) w h) rfl (by kernel_rfl) (by kernel_rfl) (by kernel_rfl) (by kernel_rfl) (by kernel_rfl) (by kernel_rfl) rfl rfl rfl (q_loadA rfl rfl (by exact .head _) rfl) ?_
          refine aw_take 4 (fun w h => Cl.sel (by exact .take 0 rfl (.nil _)) w h) rfl (by kernel_rfl) (by kernel_rfl) (by kernel_rfl) (by kernel_rfl) (by kernel_rfl) (by kernel_rfl) rfl rfl rfl (q_fieldAddr rfl rfl) ?_
          refine aw_take 5 (fun w h => Cl.sel (by exact .take 0 rfl (.nil _)) w h) rfl (by kernel_rfl) (by kernel_rfl) (by kernel_rfl) (by kernel_rfl) (by kernel_rfl) (by kernel_rfl) rfl rfl rfl (q_loadC rfl rfl (by exact .head _) rfl) ?_
          refine aw_x 3 (by kernel_rfl) rfl rfl rfl rfl (e_call (CanCall.mk Tryz.call151) rfl (.cons rfl inferInstance (.nil)) (fun w1 hw => list_spec u.t w1)) (by intro hb; exact fun _ w h => (fun w h => Cl.sel (by exact .take 1 rfl (.nil _)) w h) w h.2) (fun s44 => ?_)
          refine aw_imp fun _ => ?_
          refine aw_x 6 (by kernel_rfl) rfl rfl rfl rfl (e_call (CanCall.mk Tryz.call87) rfl (.cons rfl inferInstance (.nil)) (fun w1 hw => cloneL_spec _ u.pl (by omega) w1 (stb_arg hw hup))) (by intro hb; exact fun _ w h => (fun w h => Cl.sel (by exact .take 2 rfl (.nil _)) w h) w h.2) (fun s47 => ?_)
          refine aw_imp fun _ => ?_
          refine aw_pure 7 rfl (by kernel_rfl) (by kernel_rfl) (by kernel_rfl) (by kernel_rfl) (by kernel_rfl) rfl rfl rfl (q_build rfl (.cons rfl inferInstance (.cons rfl inferInstance (.nil))) rfl) ?_
          refine aw_x 8 (by kernel_rfl) rfl rfl rfl rfl (e_buildL (α := Chc) (l := [⟨s44, s47, u.t.list, u.pl⟩]) rfl (.cons rfl inferInstance (.nil)) rfl rfl rfl rfl) (by intro hb; exact fun _ => (fun w h => Cl.sel (by exact .take 3 rfl (.nil _)) w h)) (fun s49 => ?_)
          refine aw_x 9 (by kernel_rfl) rfl rfl rfl rfl (e_append (i := 4) rfl (.cons rfl inferInstance (.cons rfl inferInstance (.nil))) rfl rfl (by exact fun w hw => rd_own hw (by exact .head _)) (by first | omega | (simp only [List.length_set, List.length_append, List.length_cons, List.length_nil, List.length_replicate, List.length_take, List.length_drop, List.length_map]; omega)) rfl) (by intro hb; exact fun _ => (fun w h => Cl.sel (by exact .take 3 rfl (.nil _)) w h)) (fun s50 => ?_)
          refine aw_pure 10 rfl (by kernel_rfl) (by kernel_rfl) (by kernel_rfl) (by kernel_rfl) (by kernel_rfl) rfl rfl rfl (q_assign rfl rfl) ?_
          refine aw_end (by kernel_rfl) ?_
          refine post_then (cw_region (sr rfl rfl rfl ((q_move rfl rfl)) ?_))
          refine sw_x rfl rfl rfl (e_call (CanCall.mk Tryz.call153) rfl (.cons rfl inferInstance (.nil)) (fun w1 hw => cloneX_spec _ lf (by omega) w1 (hG _ w1 hw (fun X hX => List.mem_append_right [_, _, _, _, _, _, _] hX)))) (fun s52 => ?_)
          refine sw_imp fun _ => (sr rfl rfl rfl ((q_func_l rfl (.cons rfl inferInstance (.nil)))) ?_)
          refine sw_x rfl rfl rfl (e_callH (A := [ownL 179 s52.v lf]) (CanCall.mk Tryz.call152) rfl rfl (.cons rfl inferInstance (.cons rfl inferInstance (.nil))) (.refl _) (fun w1 bs h1 h2 h3 h4 h5 => delF_spec s52 lf 154 #[.pointer (some ⟨b9, 0, none⟩)] _ _ w1 bs h1 h2 h3 ⟨fun w2 k => ⟨(lend_blk h5 (by exact .tail _ (.tail _ (.tail _ (.head _))))).stb w2 k, (h4 _ (stb_map hexi fun _ h e he => (h e he).1)).stb w2 k⟩⟩ (CanCall.mk Tryz.call154) (heldBy_spec b9 u hub.1 lf hat))) (fun s54 => ?_)
          refine sw_imp fun _ => (sr rfl rfl rfl ((q_assign rfl rfl)) (sw_nil (post_blk ?_)))
          obtain ⟨lf', hlf'⟩ : ∃ lf', (lf.filter fun e => !holdsC e.wl e.at_ u.t.list) = lf' := ⟨_, rfl⟩
          have hsub' : ∀ e ∈ lf', e ∈ lf := fun e he => by rw [← hlf'] at he; exact (List.mem_filter.1 he).1
          have hF3 : lastC l (listF o n (lf.filter fun e => !holdsC e.wl e.at_ u.t.list) ((out.map fun u => (u.tl, u.pl)) ++ [(u.t.list, u.pl)])) = listC l o := hF2
          rw [hlf'] at hF3 hdec ⊢
          refine post_next (n, s54, lf', [Sx.frz (RdL s54.v lf')], s50, out ++ [⟨s44, s47, u.t.list, u.pl⟩]) (by exact .cons rfl (.cons rfl (.cons rfl (.cons rfl .nil)))) (fun w' h => ?_) ⟨fun H w' h hm => stb_frz h (hm _ (.head _)), fun e he => hsub e (hsub' e he), by simp only; omega, by simp only; omega, by simp only [List.length_append, List.length_cons, List.length_nil]; omega, by simp only [List.map_append]; exact hF3⟩ (by simp only; omega)
          have h1 : Cl w [] ([ownL 109 s44.v u.t.list, ownL 9 s47.v u.pl, Sx.frz (fun w => ∀ u ∈ out, ChcIn u w)] ++ [ownL 64 s50.v (out ++ [⟨s44, s47, u.t.list, u.pl⟩]), blk b3 (enc o) 40, ownL 179 s54.v lf']) w' := (fun w h => Cl.sel (by exact .take 3 rfl (.take 2 rfl (.take 4 rfl (.take 3 rfl (.take 3 rfl (.take 0 rfl (.nil _))))))) w h) _ h
          have h2 := Cl.frz (R := fun w => ∀ q ∈ out ++ [⟨s44, s47, u.t.list, u.pl⟩], ChcIn q w) h1 fun w bs ⟨b1, _, _, k1, b2, _, _, k2, b3, _, _, k3, _⟩ q hq => by
            rcases List.mem_append.1 hq with hq | hq
            · exact frz_here k3 q hq
            · simp at hq; subst hq; exact ⟨ownL.rd k1, ownL.rd k2⟩
          have h3 : Cl w [] (ownL 179 s54.v lf' :: [ownL 64 s50.v (out ++ [⟨s44, s47, u.t.list, u.pl⟩]), Sx.frz (fun w => ∀ q ∈ out ++ [⟨s44, s47, u.t.list, u.pl⟩], ChcIn q w), blk b3 (enc o) 40]) w' := (fun w h => Cl.sel (by exact .take 3 rfl (.take 1 rfl (.take 0 rfl (.take 0 rfl (.nil _))))) w h) _ h2
          exact (fun w h => Cl.sel (by exact .take 1 rfl (.take 1 rfl (.take 1 rfl (.take 0 rfl (.nil _))))) w h) _ h3.frzL
    · skip
      have hc : ¬ (0 < lf.length ∧ (out.length : Int) < o.most) := by
        simp at h; omega
      unfold listF at hF
      rw [List.length_map, if_neg hc] at hF
      refine cw_exit (post_then_x (post_then_x (post_blk_eq ?_)))
      exact post_meet (sl, lf, G, so, out) (by exact .cons rfl (.cons rfl (.cons rfl (.cons rfl .nil)))) (fun w' h => h) ⟨hG, hsub, hll, hol, hF⟩
  rintro ⟨sl, lf, G, so, out⟩ ⟨hG, hsub, hll, hol, hF⟩
  refine post_then ?_
  dsimp only at hG hsub hll hol hF ⊢
  have hmem : ∀ (A B D : Asn), ∀ X ∈ G, X ∈ A :: B :: D :: G := fun A B D X hX => .tail _ (.tail _ (.tail _ hX))
  refine cw_seq (cw_seq (cw_region (sr rfl rfl rfl ((q_move rfl rfl)) (sr rfl rfl rfl ((q_len (xs := lf) rfl (.cons rfl inferInstance (.nil)) (fun w1 h1 => (hG _ w1 h1 (hmem _ _ _)).here))) (sr rfl rfl rfl ((q_eql rfl rfl rfl)) (sw_nil (post_then ?_)))))))
  refine cw_cut (S := SlV × List XL) (fun y => [(5, [], so.v), (6, [], y.1.v)]) (fun y => Cl w [] (ownL 64 so.v out :: Sx.frz (fun w => ∀ u ∈ out, ChcIn u w) :: blk b3 (enc o) 40 :: G)) (fun y => (∀ (H : List Asn) w', Cl w [] H w' → (∀ A ∈ G, A ∈ H) → Stb w' [] (RdL y.1.v y.2)) ∧ y.2 = if lf.length = 0 then l else lf) ?_ ?_
  · refine cw_cond rfl (fun h => ?_) (fun h => ?_)
    · skip
      refine cw_region (sr rfl rfl rfl ((q_move rfl rfl)) (sr rfl rfl rfl ((q_assign rfl rfl)) (sw_nil ?_)))
      exact post_meet (sv, l) (by exact .cons rfl (.cons rfl .nil)) (fun w' h => h) ⟨fun H w' h _ => stb_arg h hs, by rw [if_pos (by simpa using h)]⟩
    · skip
      refine cw_skip ?_
      exact post_meet (sl, lf) (by exact .cons rfl (.cons rfl .nil)) (fun w' h => h) ⟨hG, by rw [if_neg (by simpa using h)]⟩
  rintro ⟨sl2, lf2⟩ ⟨hG2, hlf2⟩
  refine post_then ?_
  dsimp only at hG2 hlf2 ⊢
  have hsub2 : ∀ e ∈ lf2, e ∈ l := by
    rw [hlf2]; split
    · exact fun e h => h
    · exact hsub
  have hll2 : lf2.length ≤ 1000000 := by
    rw [hlf2]; split <;> omega
  have hexo : ∀ e ∈ lf2, ExOk e := fun e he => hok e (hsub2 e he)
  have hexi : Stb w [] fun w' => ∀ u ∈ lf2, ExIn u w' := stb_map hin fun _ h u hu => h u (hsub2 u hu)
  have hpl := most_small hexo
  have hpr : Stb w [] (RdL (mostC lf2).s.v (mostC lf2).b) := stb_map hexi fun _ h => most_rdL h
  have hF2 : (out.map fun u => (u.tl, u.pl)) ++ [([], (mostC lf2).b)] = listC l o := by rw [← hF, hlf2]; rfl
  refine cw_seq (cw_region (sr rfl rfl rfl ((q_move rfl rfl)) ?_))
  refine sw_step rfl rfl rfl (q_call (CanCall.mk Tryz.call149) rfl (.cons rfl inferInstance (.nil)) (fun _ w1 hw => callq hw (most_spec _ lf2 (by omega) hexo w1 (hG2 _ w1 hw (hmem _ _ _)) (stb_arg hw hexi)))) ?_
  obtain ⟨ms, hms⟩ : ∃ ms, mostC lf2 = ms := ⟨_, rfl⟩
  rw [hms] at hpl hpr hF2 ⊢
  refine sr rfl rfl rfl ((q_move rfl rfl)) (sr rfl rfl rfl ((q_extract rfl rfl rfl)) (sr rfl rfl rfl ((q_extract rfl rfl rfl)) (sr rfl rfl rfl ((q_assign rfl rfl)) (sr rfl rfl rfl ((q_assign rfl rfl)) (sw_nil (post_then (cw_seq (cw_region (sr rfl rfl rfl ((q_move rfl rfl)) (sr rfl rfl rfl ((q_move rfl rfl)) ?_))))))))))
  refine sw_x rfl rfl rfl (e_call (CanCall.mk Tryz.call87) rfl (.cons rfl inferInstance (.nil)) (fun w1 hw => cloneL_spec _ ms.b (by omega) w1 (stb_arg hw hpr))) (fun s66 => ?_)
  refine sw_imp fun _ => (sr rfl rfl rfl ((q_build rfl (.cons rfl inferInstance (.nil)) rfl)) ?_)
  refine sw_x rfl rfl rfl (e_buildL (α := Chc) (l := [⟨⟨none, 0, 0⟩, s66, [], ms.b⟩]) rfl (.cons rfl inferInstance (.nil)) rfl rfl rfl rfl) (fun s68 => ?_)
  refine sw_x rfl rfl rfl (e_append (i := 2) rfl (.cons rfl inferInstance (.cons rfl inferInstance (.nil))) rfl rfl (by exact fun w hw => rd_own hw (by exact .head _)) (by first | omega | (simp only [List.length_set, List.length_append, List.length_cons, List.length_nil, List.length_replicate, List.length_take, List.length_drop, List.length_map]; omega)) rfl) (fun s69 => ?_)
  refine sr rfl rfl rfl ((q_assign rfl rfl)) (sw_nil (post_then (cw_ret (post_ret1 rfl (resOk_tmp rfl) ?_))))
  refine fun w' h => ⟨(s69, out ++ [⟨⟨none, 0, 0⟩, s66, [], ms.b⟩]), rfl, by rw [← hF2]; simp, ?_⟩
  have h1 : Cl w [] ([ownL 64 s69.v (out ++ [⟨⟨none, 0, 0⟩, s66, [], ms.b⟩]), ownL 9 s66.v ms.b, Sx.frz (fun w => ∀ u ∈ out, ChcIn u w)] ++ []) w' := (fun w h => Cl.sel (by exact .take 2 rfl (.take 1 rfl (.take 1 rfl (.nil _)))) w h) _ h
  refine Cl.frz h1 fun w bs ⟨b1, _, _, k1, b2, _, _, k2, b3, _, _, k3, _⟩ => ⟨ownL.rd k1, fun u hu => ?_⟩
  rcases List.mem_append.1 hu with hu | hu
  · exact frz_here k3 u hu
  · simp at hu; subst hu; exact ⟨rd_nil0 w, ownL.rd k2⟩
end Go.Proofs.YtkmbliojafefdaaGreatDoor

set_option autoImplicit false
set_option maxRecDepth 100000
namespace Go.Proofs.YtkmbliojafefdaaGreatDoor
open Go.Sx
open Enc (enc val)
theorem cmpLessR_spec (x y : Int) (w : World) : Calls Tryz.prog 180 #[.int .i32 x, .int .i32 y] w fun e w' => e = .returned (.bool (decide (x < y))) ∧ Cl w [] [] w' := by
  refine calls_cw (vs := [_, _]) Tryz.func180 rfl Tryz.ntmps180 rfl (Cl.start0 w) (cw_seq (cw_region (sr rfl rfl rfl ((q_assign rfl rfl)) (sw_nil (post_then (cw_seq (cw_region (sr rfl rfl rfl ((q_move rfl rfl)) (sw_step rfl rfl rfl (q_call (CanCall.mk Tryz.call121) rfl (.cons rfl inferInstance (.nil)) (fun _ w hw => callq hw (isNaNR_spec _ w))) (sr rfl rfl rfl ((q_move rfl rfl)) (sr rfl rfl rfl ((q_move rfl rfl)) (sw_step rfl rfl rfl (q_call (CanCall.mk Tryz.call121) rfl (.cons rfl inferInstance (.nil)) (fun _ w hw => callq hw (isNaNR_spec _ w))) (sr rfl rfl rfl ((q_not rfl rfl)) (sr rfl rfl rfl ((q_and2 rfl rfl rfl)) (sr rfl rfl rfl ((q_move rfl rfl)) (sr rfl rfl rfl ((q_move rfl rfl)) (sr rfl rfl rfl ((q_move rfl rfl)) (sr rfl rfl rfl ((q_lss rfl rfl rfl)) (sr rfl rfl rfl ((q_or2 rfl rfl rfl)) (sr rfl rfl rfl ((q_assign rfl rfl)) (sw_nil (post_then (cw_ret (post_ret1 rfl (resOk_tmp rfl) ?_))))))))))))))))))))))))
  exact fun w' hw => ⟨by simp, hw⟩
def swp (l : List Rn) (i j : Nat) : List Rn := (l.set i (nth l j)).set j (nth l i)
theorem swp_nth {l : List Rn} {i j : Nat} (hi : i < l.length) (hj : j < l.length) (k : Nat) : nth (swp l i j) k = if k = j then nth l i else if k = i then nth l j else nth l k := by
  unfold swp
  rw [nth_setP _ _ _ _ (by simpa using hj), nth_setP _ _ _ _ hi]
theorem swp_perm {l : List Rn} {i j : Nat} (hi : i < l.length) (hj : j < l.length) : (swp l i j).Perm l := by
  unfold swp
  rw [nth_get hi, nth_get hj]
  exact List.set_set_perm hi hj
/-- Sorted from a to b, but for what stands at j. -/
def SrtBut (l : List Rn) (a b j : Nat) : Prop := ∀ p q, a ≤ p → p < q → q < b → q ≠ j → (nth l p).v ≤ (nth l q).v
def Srt (l : List Rn) (a b : Nat) : Prop := ∀ p q, a ≤ p → p < q → q < b → (nth l p).v ≤ (nth l q).v
/-- The same but for what lies from a to b. -/
structure Mix (l l' : List Rn) (a b : Nat) : Prop where
  perm : l'.Perm l
  out : ∀ k, k < a ∨ b ≤ k → nth l' k = nth l k
theorem Mix.refl (l : List Rn) (a b : Nat) : Mix l l a b := ⟨.refl _, fun _ _ => rfl⟩
theorem Mix.len {l l' : List Rn} {a b : Nat} (h : Mix l l' a b) : l'.length = l.length := h.perm.length_eq
theorem Mix.swp {l l' : List Rn} {a b i j : Nat} (h : Mix l l' a b) (hi : a ≤ i ∧ i < b) (hj : a ≤ j ∧ j < b) (hb : b ≤ l.length) : Mix l (swp l' i j) a b := by
  have hl := h.len
  refine ⟨(swp_perm (by omega) (by omega)).trans h.perm, fun k hk => ?_⟩
  rw [swp_nth (by omega) (by omega), if_neg (by omega), if_neg (by omega)]
  exact h.out k hk
theorem Mix.trans {l l' l'' : List Rn} {a b : Nat} (h : Mix l l' a b) (k : Mix l' l'' a b) : Mix l l'' a b := ⟨k.perm.trans h.perm, fun i hi => (k.out i hi).trans (h.out i hi)⟩
theorem srtBut_swp {l : List Rn} {a b j : Nat} (h : SrtBut l a b j) (ha : a < j) (hj : j < b) (hb : b ≤ l.length) (hlt : (nth l j).v < (nth l (j - 1)).v) : SrtBut (swp l j (j - 1)) a b (j - 1) := by
  intro p q hp hpq hq hne
  rw [swp_nth (by omega) (by omega), swp_nth (by omega) (by omega), if_neg hne]
  by_cases h1 : q = j
  · rw [if_pos h1]
    by_cases h2 : p = j - 1
    · rw [if_pos h2]; omega
    · rw [if_neg h2, if_neg (by omega)]
      exact h p (j - 1) hp (by omega) (by omega) (by omega)
  · rw [if_neg h1]
    by_cases h2 : p = j - 1
    · rw [if_pos h2]; exact h j q (by omega) (by omega) hq h1
    · rw [if_neg h2]
      by_cases h3 : p = j
      · rw [if_pos h3]; exact h (j - 1) q (by omega) (by omega) hq h1
      · rw [if_neg h3]; exact h p q hp hpq hq h1
theorem srt_of_but {l : List Rn} {a b j : Nat} (h : SrtBut l a b j) (hj : j ≤ a ∨ (nth l (j - 1)).v ≤ (nth l j).v) : Srt l a b := by
  intro p q hp hpq hq
  by_cases h1 : q = j
  · subst h1
    rcases hj with hj | hj
    · omega
    · by_cases h2 : p = q - 1
      · rw [h2]; exact hj
      · exact Int.le_trans (h p (q - 1) hp (by omega) (by omega) (by omega)) hj
  · exact h p q hp hpq hq h1
theorem insertion_spec (sv : SlV) (l : List Rn) (a b : Nat) (hab : a ≤ b) (hb : b ≤ l.length) (hl : l.length ≤ 4611686018427387904) (w : World) (bs : List Nat) (hs : Sep [ownL 21 sv.v l] w bs) (hn : bs.Nodup) (hlt : ∀ b ∈ bs, b < w.heap.size) :
    Calls Tryz.prog 174 #[sv.v, .int .i64 a, .int .i64 b] w fun e w' => ∃ l' : List Rn, e = .returned (.tuple #[]) ∧ (Mix l l' a b ∧ Srt l' a b) ∧ Cl w bs [ownL 21 sv.v l'] w' := by
  refine calls_cw (vs := [_, _, _]) Tryz.func174 rfl Tryz.ntmps174 rfl (Cl.start hs hn hlt) (cw_seq (cw_region (sr rfl rfl rfl ((q_move rfl rfl)) ?_)))
  refine sr rfl rfl rfl ((q_add rfl rfl rfl (by intro hc; omega))) ?_
  refine sr rfl rfl rfl ((q_assign rfl rfl)) (sw_nil (post_then (cw_block ?_)))
  refine cw_loop (S := Nat × List Rn) (fun y => [(0, [], sv.v), (1, [], .int .i64 a), (2, [], .int .i64 b), (6, [], .int .i64 y.1)]) (fun y => Cl w bs [ownL 21 sv.v y.2]) (fun y => a + 1 ≤ y.1 ∧ (y.1 ≤ b ∨ y.1 = a + 1) ∧ Mix l y.2 a b ∧ Srt y.2 a y.1) (fun y => b + 1 - y.1) (a + 1, l) ⟨by omega, .inr rfl, .refl _ _ _, fun p q h1 h2 h3 => by simp only at h3; omega⟩ (by exact .cons rfl (.cons rfl (.cons rfl (.cons rfl .nil)))) (fun _ h => h) ?_
  rintro ⟨i, m⟩ ⟨hi1, hi2, hm, hsr⟩
  dsimp only at hi1 hi2 hm hsr ⊢
  have hml := hm.len
  refine cw_seq (cw_seq (cw_region (sr rfl rfl rfl ((q_move rfl rfl)) (sr rfl rfl rfl ((q_move rfl rfl)) (sr rfl rfl rfl ((q_lss rfl rfl rfl)) (sw_nil (post_then ?_)))))))
  refine cw_cond rfl (fun h => ?_) (fun h => ?_)
  · skip
    have hib : i < b := by simp at h; omega
    refine cw_skip (post_then (cw_seq (cw_block (cw_seq (cw_region (sr rfl rfl rfl ((q_move rfl rfl)) (sr rfl rfl rfl ((q_assign rfl rfl)) (sw_nil (post_then (cw_block ?_))))))))))
    refine cw_loop (S := Nat × List Rn) (fun y => [(0, [], sv.v), (1, [], .int .i64 a), (2, [], .int .i64 b), (6, [], .int .i64 i), (7, [], .int .i64 y.1)]) (fun y => Cl w bs [ownL 21 sv.v y.2]) (fun y => a ≤ y.1 ∧ y.1 ≤ i ∧ Mix l y.2 a b ∧ SrtBut y.2 a (i + 1) y.1) (fun y => y.1) (i, m) ⟨by simp only; omega, by simp, hm, fun p q h1 h2 h3 h4 => hsr p q h1 h2 (by simp only at h4; omega)⟩ (by exact .cons rfl (.cons rfl (.cons rfl (.cons rfl (.cons rfl .nil))))) (fun _ h => h) ?_
    rintro ⟨j, u⟩ ⟨hj1, hj2, hu, hsu⟩
    dsimp only at hj1 hj2 hu hsu ⊢
    have hul := hu.len
    refine cw_seq (cw_seq ?_)
    refine cw_region_q mixed_Tryz (by kernel_rfl) ?_
    refine qr rfl rfl rfl ((q_move rfl rfl)) (qr rfl rfl rfl ((q_move rfl rfl)) (qr rfl rfl rfl ((q_gtr rfl rfl rfl)) (qr rfl rfl rfl ((q_move rfl rfl)) (qr rfl rfl rfl ((q_move rfl rfl)) (qr rfl rfl rfl ((q_move rfl rfl)) ?_)))))
    refine qr rfl rfl rfl ((q_indexN rfl rfl rfl (by exact fun w hw => rd_own hw (by exact .head _)) (by intro hc; omega))) ?_
    refine qr rfl rfl rfl ((q_loadF rfl rfl rfl (by exact fun w hw => rd_own hw (by exact .head _)) (by intro hc; omega) rfl)) ?_
    refine qr rfl rfl rfl ((q_move rfl rfl)) (qr rfl rfl rfl ((q_move rfl rfl)) ?_)
    refine qr rfl rfl rfl ((q_sub rfl rfl rfl (by intro hc; omega))) ?_
    refine qr rfl rfl rfl ((q_index rfl rfl rfl (by exact fun w hw => rd_own hw (by exact .head _)) (by intro hc; (simp only [AllT.iff, List.all_cons, List.all_nil, id, Bool.and_eq_true, Bool.not_eq_true', decide_eq_true_eq, decide_eq_false_iff_not, and_true] at hc; omega)))) ?_
    refine qr rfl rfl rfl ((q_loadF rfl rfl rfl (by exact fun w hw => rd_own hw (by exact .head _)) (by intro hc; omega) rfl)) ?_
    refine qw_step rfl rfl rfl (q_call (CanCall.mk Tryz.call180) rfl (.cons rfl inferInstance (.cons rfl inferInstance (.nil))) (fun _ w hw => callq hw (cmpLessR_spec _ _ w))) (qr rfl rfl rfl ((q_and2 rfl rfl rfl)) (qw_end (post_then ?_)))
    refine cw_cond rfl (fun h2 => ?_) (fun h2 => ?_)
    · skip
      have h3 : a < j ∧ (nth u j).v < (nth u (j - 1)).v := by
        simp only [Bool.and_eq_true, decide_eq_true_eq] at h2
        have e : ((j : Int) - 1).toNat = j - 1 := by omega
        rw [e] at h2
        omega
      have e : ((j : Int) - 1).toNat = j - 1 := by omega
      refine cw_skip (post_then (cw_seq (cw_block (cw_region_a (Cl w bs [ownL 21 sv.v u]) [15, 16, 17] mixed_Tryz ?_))))
      refine aw_pure 0 rfl (by kernel_rfl) (by kernel_rfl) (by kernel_rfl) (by kernel_rfl) (by kernel_rfl) rfl rfl rfl (q_move rfl rfl) ?_
      refine aw_pure 1 rfl (by kernel_rfl) (by kernel_rfl) (by kernel_rfl) (by kernel_rfl) (by kernel_rfl) rfl rfl rfl (q_move rfl rfl) ?_
      refine aw_pure 2 rfl (by kernel_rfl) (by kernel_rfl) (by kernel_rfl) (by kernel_rfl) (by kernel_rfl) rfl rfl rfl (q_move rfl rfl) ?_
      refine aw_pure 3 rfl (by kernel_rfl) (by kernel_rfl) (by kernel_rfl) (by kernel_rfl) (by kernel_rfl) rfl rfl rfl (q_move rfl rfl) ?_
      refine aw_pure 4 rfl (by kernel_rfl) (by kernel_rfl) (by kernel_rfl) (by kernel_rfl) (by kernel_rfl) rfl rfl rfl (q_sub rfl rfl rfl (by intro hc; omega)) ?_
      refine aw_pure 5 rfl (by kernel_rfl) (by kernel_rfl) (by kernel_rfl) (by kernel_rfl) (by kernel_rfl) rfl rfl rfl (q_move rfl rfl) ?_
      refine aw_pure 6 rfl (by kernel_rfl) (by kernel_rfl) (by kernel_rfl) (by kernel_rfl) (by kernel_rfl) rfl rfl rfl (q_move rfl rfl) ?_
      refine aw_pure 7 rfl (by kernel_rfl) (by kernel_rfl) (by kernel_rfl) (by kernel_rfl) (by kernel_rfl) rfl rfl rfl (q_sub rfl rfl rfl (by intro hc; omega)) ?_
      refine aw_take 8 (fun w h => Cl.sel (by exact .take 0 rfl (.nil _)) w h) rfl (by kernel_rfl) (by kernel_rfl) (by kernel_rfl) (by kernel_rfl) (by kernel_rfl) (by kernel_rfl) rfl rfl rfl (q_index rfl rfl rfl (by exact fun w hw => rd_own hw (by exact .head _)) (by intro hc; omega)) ?_
      refine aw_take 9 (fun w h => Cl.sel (by exact .take 0 rfl (.nil _)) w h) rfl (by kernel_rfl) (by kernel_rfl) (by kernel_rfl) (by kernel_rfl) (by kernel_rfl) (by kernel_rfl) rfl rfl rfl (q_loadF rfl rfl rfl (by exact fun w hw => rd_own hw (by exact .head _)) (by intro hc; omega) rfl) ?_
      refine aw_pure 10 rfl (by kernel_rfl) (by kernel_rfl) (by kernel_rfl) (by kernel_rfl) (by kernel_rfl) rfl rfl rfl (q_move rfl rfl) ?_
      refine aw_pure 11 rfl (by kernel_rfl) (by kernel_rfl) (by kernel_rfl) (by kernel_rfl) (by kernel_rfl) rfl rfl rfl (q_move rfl rfl) ?_
      refine aw_take 12 (fun w h => Cl.sel (by exact .take 0 rfl (.nil _)) w h) rfl (by kernel_rfl) (by kernel_rfl) (by kernel_rfl) (by kernel_rfl) (by kernel_rfl) (by kernel_rfl) rfl rfl rfl (q_indexN rfl rfl rfl (by exact fun w hw => rd_own hw (by exact .head _)) (by intro hc; omega)) ?_
      refine aw_take 13 (fun w h => Cl.sel (by exact .take 0 rfl (.nil _)) w h) rfl (by kernel_rfl) (by kernel_rfl) (by kernel_rfl) (by kernel_rfl) (by kernel_rfl) (by kernel_rfl) rfl rfl rfl (q_loadF rfl rfl rfl (by exact fun w hw => rd_own hw (by exact .head _)) (by intro hc; omega) rfl) ?_
      refine aw_take 14 (fun w h => Cl.sel (by exact .take 0 rfl (.nil _)) w h) rfl (by kernel_rfl) (by kernel_rfl) (by kernel_rfl) (by kernel_rfl) (by kernel_rfl) (by kernel_rfl) rfl rfl rfl (q_indexN rfl rfl rfl (by exact fun w hw => rd_own hw (by exact .head _)) (by intro hc; omega)) ?_
      refine aw_one0 15 (by kernel_rfl) rfl rfl rfl (e_storeEl1 (i := 0) rfl rfl rfl rfl rfl (by omega)) (by intro hb; (exact absurd hb (by decide))) ?_
      refine aw_q 16 (by kernel_rfl) rfl rfl rfl rfl (OpR.q (q_index rfl rfl rfl (by exact fun w hw => rd_own hw (by exact .head _)) (by intro hc; (simp only [List.length_set, List.length_append, List.length_cons, List.length_nil, List.length_replicate, List.length_take, List.length_drop, List.length_map]; omega)))) (by intro hb; (exact absurd hb (by decide))) ?_
      refine aw_one0 17 (by kernel_rfl) rfl rfl rfl (e_storeEl1 (i := 0) rfl rfl rfl rfl rfl (by (simp only [List.length_set, List.length_append, List.length_cons, List.length_nil, List.length_replicate, List.length_take, List.length_drop, List.length_map]; omega))) (by intro hb; (exact absurd hb (by decide))) ?_
      refine aw_end (by kernel_rfl) ?_
      refine post_blk (post_then (cw_region (sr rfl rfl rfl ((q_move rfl rfl)) ?_)))
      refine sr rfl rfl rfl ((q_sub rfl rfl rfl (by intro hc; omega))) ?_
      refine sr rfl rfl rfl ((q_assign rfl rfl)) (sw_nil ?_)
      have e2 : (u.set j (nth u ((j : Int) - 1).toNat)).set ((j : Int) - 1).toNat (nth u j) = swp u j (j - 1) := by rw [e]; rfl
      refine post_next (j - 1, swp u j (j - 1)) (by exact .cons rfl (.cons rfl (.cons rfl (.cons rfl (.cons' rfl (by congr 1; first | omega | (simp only; omega)) .nil))))) (fun w3 hw3 => ?_) ⟨by simp only; omega, by simp only; omega, hu.swp (by omega) (by omega) hb, srtBut_swp hsu (by omega) (by omega) (by omega) h3.2⟩ (by simp only; omega)
      rw [← e2]
      exact hw3
    · skip
      have h3 : j ≤ a ∨ (nth u (j - 1)).v ≤ (nth u j).v := by
        by_cases h4 : a < j
        · right
          have e : ((j : Int) - 1).toNat = j - 1 := by omega
          rw [e] at h2
          simp at h2
          exact h2 (by omega)
        · left; omega
      refine cw_exit (post_then_x (post_then_x (post_blk_eq (post_blk (post_then (cw_region (sr rfl rfl rfl ((q_move rfl rfl)) ?_)))))))
      refine sr rfl rfl rfl ((q_add rfl rfl rfl (by intro hc; omega))) ?_
      refine sr rfl rfl rfl ((q_assign rfl rfl)) (sw_nil ?_)
      exact post_next (i + 1, u) (by exact .cons rfl (.cons rfl (.cons rfl (.cons rfl .nil)))) (fun _ h => h) ⟨by simp only; omega, by simp only; omega, hu, srt_of_but hsu h3⟩ (by simp only; omega)
  · skip
    have hib : i = b ∨ i = a + 1 ∧ b = a := by simp at h; omega
    refine cw_exit (post_then_x (post_then_x (post_blk_eq (post_end0 rfl ?_))))
    exact fun w' hw => ⟨m, rfl, ⟨hm, fun p q h1 h2 h3 => hsr p q h1 h2 (by omega)⟩, hw⟩
theorem len64_spec (x : Int) (hx : 0 ≤ x ∧ x < 256) (w : World) : Calls Tryz.prog 184 #[.int .u64 x] w fun e w' => ∃ l : Int, e = .returned (.int .i64 l) ∧ True ∧ Cl w [] [] w' := by
  refine calls_cw (vs := [_]) Tryz.func184 rfl Tryz.ntmps184 rfl (Cl.start0 w) (cw_seq (cw_region (sr rfl rfl rfl ((q_assign rfl rfl)) (sw_nil (post_then (cw_seq (cw_seq (cw_region (sr rfl rfl rfl ((q_move rfl rfl)) (sr rfl rfl rfl ((q_geq rfl rfl rfl)) (sw_nil (post_then ?_))))))))))))
  refine cw_cond rfl (fun h1 => ?_) (fun h1 => ?_)
  · skip
    simp at h1; omega
  · skip
    refine cw_skip (post_then (cw_seq (cw_seq (cw_region (sr rfl rfl rfl ((q_move rfl rfl)) (sr rfl rfl rfl ((q_geq rfl rfl rfl)) (sw_nil (post_then ?_))))))))
    refine cw_cond rfl (fun h2 => ?_) (fun h2 => ?_)
    · skip
      simp at h2; omega
    · skip
      refine cw_skip (post_then (cw_seq (cw_seq (cw_region (sr rfl rfl rfl ((q_move rfl rfl)) (sr rfl rfl rfl ((q_geq rfl rfl rfl)) (sw_nil (post_then ?_))))))))
      refine cw_cond rfl (fun h3 => ?_) (fun h3 => ?_)
      · skip
        simp at h3; omega
      · skip
        refine cw_skip (post_then (cw_seq (cw_region (sr rfl rfl rfl ((q_move rfl rfl)) (sr rfl rfl rfl ((q_move rfl rfl)) (sr rfl rfl rfl ((q_conv rfl rfl)) ?_))))))
        have hw : IntKind.u8.wrap x = x := by simp only [IntKind.wrap, IntKind.signed, IntKind.bits]; simp; omega
        refine sr rfl rfl rfl ((q_indexS rfl rfl rfl Tryz.underlying9 (fun _ => ⟨by rw [hw]; omega, by rw [hw]; exact Int.lt_of_lt_of_le hx.2 (by decide)⟩))) ?_
        refine sr rfl rfl rfl ((q_conv rfl rfl)) (sr rfl rfl rfl ((q_add_w rfl rfl rfl)) (sr rfl rfl rfl ((q_assign rfl rfl)) (sw_nil (post_then (cw_ret (post_ret1 rfl (resOk_tmp rfl) ?_))))))
        exact fun w' hw => ⟨_, rfl, trivial, hw⟩
theorem len_spec (x : Int) (hx : 0 ≤ x ∧ x < 256) (w : World) : Calls Tryz.prog 148 #[.int .u64 x] w fun e w' => ∃ l : Int, e = .returned (.int .i64 l) ∧ True ∧ Cl w [] [] w' := by
  refine calls_cw (vs := [_]) Tryz.func148 rfl Tryz.ntmps148 rfl (Cl.start0 w) (cw_seq (cw_region (sr rfl rfl rfl ((q_assign rfl rfl)) (sw_nil (post_then (cw_seq ?_))))))
  refine cw_cond rfl (fun h1 => ?_) (fun h1 => ?_)
  · skip
    cases h1
  · skip
    refine cw_skip (post_then (cw_seq (cw_region (sr rfl rfl rfl ((q_move rfl rfl)) ?_))))
    refine sw_x rfl rfl rfl (e_call (CanCall.mk Tryz.call184) rfl (.cons rfl inferInstance (.nil)) (fun w hw => len64_spec x hx w)) (fun l7 => ?_)
    refine sw_imp fun _ => (sr rfl rfl rfl ((q_assign rfl rfl)) (sw_nil (post_then (cw_ret (post_ret1 rfl (resOk_tmp rfl) ?_)))))
    exact fun w' hw => ⟨l7, rfl, trivial, hw⟩
theorem pdq12_spec (sv : SlV) (l : List Rn) (lim : Int) (hb : l.length ≤ 12) (w : World) (bs : List Nat) (hs : Sep [ownL 21 sv.v l] w bs) (hn : bs.Nodup) (hlt : ∀ b ∈ bs, b < w.heap.size) :
    Calls Tryz.prog 147 #[sv.v, .int .i64 0, .int .i64 l.length, .int .i64 lim] w fun e w' => ∃ l' : List Rn, e = .returned (.tuple #[]) ∧ (Mix l l' 0 l.length ∧ Srt l' 0 l.length) ∧ Cl w bs [ownL 21 sv.v l'] w' := by
  refine calls_cw (vs := [_, _, _, _]) Tryz.func147 rfl Tryz.ntmps147 rfl (Cl.start hs hn hlt) (cw_seq (cw_region (sr rfl rfl rfl ((q_assign rfl rfl)) (sw_nil (post_then (cw_seq (cw_region (sr rfl rfl rfl ((q_assign rfl rfl)) (sw_nil (post_then (cw_block ?_)))))))))))
  refine cw_loop (S := Unit) (fun _ => [(0, [], sv.v), (1, [], .int .i64 0), (2, [], .int .i64 l.length), (3, [], .int .i64 lim)]) (fun _ => Cl w bs [ownL 21 sv.v l]) (fun _ => True) (fun _ => 0) () trivial (by exact .cons rfl (.cons rfl (.cons rfl (.cons rfl .nil)))) (fun _ h => h) ?_
  rintro ⟨⟩ _
  refine cw_block (cw_seq (cw_region (sr rfl rfl rfl ((q_move rfl rfl)) (sr rfl rfl rfl ((q_move rfl rfl)) ?_))))
  refine sr rfl rfl rfl ((q_sub rfl rfl rfl (by intro hc; omega))) ?_
  refine sr rfl rfl rfl ((q_assign rfl rfl)) (sw_nil (post_then (cw_seq (cw_seq (cw_region (sr rfl rfl rfl ((q_move rfl rfl)) (sr rfl rfl rfl ((q_leq rfl rfl rfl)) (sw_nil (post_then ?_)))))))))
  refine cw_cond rfl (fun h => ?_) (fun h => ?_)
  · skip
    refine cw_seq (cw_region (sr rfl rfl rfl ((q_move rfl rfl)) (sr rfl rfl rfl ((q_move rfl rfl)) (sr rfl rfl rfl ((q_move rfl rfl)) ?_))))
    refine sw_x rfl rfl rfl (e_callH (A := [ownL 21 sv.v l]) (F := []) (CanCall.mk Tryz.call174) rfl rfl (.cons rfl inferInstance (.cons rfl inferInstance (.cons rfl inferInstance (.nil)))) (.refl _) (fun w bs h1 h2 h3 _ _ => insertion_spec sv l 0 l.length (by omega) (by omega) (by omega) w bs h1 h2 h3)) (fun l27 => ?_)
    refine sw_imp fun hm => (sw_nil (post_then (cw_ret (post_then_r (post_blk_r (post_then_r (post_blk_r (post_ret0 rfl ?_))))))))
    exact fun w' hw => ⟨l27, rfl, hm, hw⟩
  · skip
    simp at h; omega
theorem sort12_spec (sv : SlV) (l : List Rn) (hb : l.length ≤ 12) (w : World) (bs : List Nat) (hs : Sep [ownL 21 sv.v l] w bs) (hn : bs.Nodup) (hlt : ∀ b ∈ bs, b < w.heap.size) :
    Calls Tryz.prog 118 #[sv.v] w fun e w' => ∃ l' : List Rn, e = .returned (.tuple #[]) ∧ (Mix l l' 0 l.length ∧ Srt l' 0 l.length) ∧ Cl w bs [ownL 21 sv.v l'] w' := by
  refine calls_cw (vs := [_]) Tryz.func118 rfl Tryz.ntmps118 rfl (Cl.start hs hn hlt) (cw_seq (cw_region (sr rfl rfl rfl ((q_move rfl rfl)) ?_)))
  refine sr rfl rfl rfl ((q_len rfl (.cons rfl inferInstance (.nil)) (by exact fun w hw => rd_own hw (by exact .head _)))) ?_
  refine sr rfl rfl rfl ((q_assign rfl rfl)) (sw_nil (post_then (cw_region (sr rfl rfl rfl ((q_move rfl rfl)) (sr rfl rfl rfl ((q_move rfl rfl)) (sr rfl rfl rfl ((q_move rfl rfl)) (sr rfl rfl rfl ((q_conv rfl rfl)) ?_)))))))
  refine sw_x rfl rfl rfl (e_call (CanCall.mk Tryz.call148) rfl (.cons rfl inferInstance (.nil)) (fun w hw => len_spec _ (by simp only [IntKind.wrap, IntKind.signed, IntKind.bits]; simp; omega) w)) (fun l9 => ?_)
  refine sw_imp fun _ => ?_
  refine sw_x rfl rfl rfl (e_callH (A := [ownL 21 sv.v l]) (F := []) (CanCall.mk Tryz.call147) rfl rfl (.cons rfl inferInstance (.cons rfl inferInstance (.cons rfl inferInstance (.cons rfl inferInstance (.nil))))) (.refl _) (fun w bs h1 h2 h3 _ _ => pdq12_spec sv l l9 hb w bs h1 h2 h3)) (fun l27 => ?_)
  refine sw_imp fun hm => (sw_nil (post_end0 rfl ?_))
  exact fun w' hw => ⟨l27, rfl, hm, hw⟩
end Go.Proofs.YtkmbliojafefdaaGreatDoor

set_option autoImplicit false
set_option maxRecDepth 100000
namespace Go.Proofs.YtkmbliojafefdaaGreatDoor
open Go.Sx
open Enc (enc val)
theorem index4_spec (sv : Value) (es : List Int) (v : Int) (w : World) (hs : Stb w [] (RdL sv es)) : Calls Tryz.prog 173 #[sv, .int .i64 v] w fun e w' => e = .returned (.int .i64 (idxP (fun x => decide (v = x)) es)) ∧ Cl w [] [] w' := by
  have hL := rd_len hs.here
  refine calls_cw (vs := [_, _]) Tryz.func173 rfl Tryz.ntmps173 rfl (Cl.start0 w) (cw_seq (cw_region (sr rfl rfl rfl ((q_assign rfl rfl)) (sw_nil (post_then (cw_seq (cw_seq (cw_region (sr rfl rfl rfl ((q_move rfl rfl)) ?_)))))))))
  refine sr rfl rfl rfl ((q_len rfl (.cons rfl inferInstance (.nil)) (by exact fun w hw => Stb.cl (by assumption) hw))) ?_
  refine sr rfl rfl rfl ((q_move rfl rfl)) (sw_nil (post_then (cw_block ?_)))
  refine cw_loop (S := Nat) (fun k => [(0, [], sv), (1, [], .int .i64 v), (7, [], .int .i64 es.length), (8, [], .int .i64 k)]) (fun _ => Cl w [] []) (fun k => k ≤ es.length ∧ ∀ j, j < k → decide (v = nth es j) = false) (fun k => es.length - k) 0 ⟨by omega, fun j hj => by omega⟩ (by exact .cons rfl (.cons rfl (.cons rfl (.cons rfl .nil)))) (fun _ h => h) ?_
  rintro k ⟨hk, hbe⟩
  refine cw_seq (cw_region (sr rfl rfl rfl ((q_lss rfl rfl rfl)) (sw_nil (post_then (cw_seq ?_)))))
  refine cw_cond rfl (fun h => ?_) (fun h => ?_)
  · skip
    have hk' : k < es.length := by simp only [decide_eq_true_eq] at h; omega
    refine cw_skip (post_then (cw_seq (cw_block (cw_seq (cw_region (sr rfl rfl rfl ((q_move rfl rfl)) (sr rfl rfl rfl ((q_assign rfl rfl)) (sw_nil (post_then (cw_seq (cw_region (sr rfl rfl rfl ((q_move rfl rfl)) (sr rfl rfl rfl ((q_move rfl rfl)) (sr rfl rfl rfl ((q_move rfl rfl)) ?_))))))))))))))
    refine sr rfl rfl rfl ((q_indexN rfl rfl rfl (by exact fun w hw => Stb.cl (by assumption) hw) (by intro hc; omega))) ?_
    refine sr rfl rfl rfl ((q_loadEl rfl rfl rfl (by exact fun w hw => Stb.cl (by assumption) hw) (by intro hc; omega))) ?_
    refine sr rfl rfl rfl ((q_eql rfl rfl rfl)) (sw_nil (post_then ?_))
    refine cw_cond rfl (fun h2 => ?_) (fun h2 => ?_)
    · skip
      refine cw_seq (cw_region (sr rfl rfl rfl ((q_move rfl rfl)) (sr rfl rfl rfl ((q_assign rfl rfl)) (sw_nil (post_then (cw_ret (post_blk_r (post_then_r (post_then_r (post_blk_r (post_then_r (post_ret1 rfl (resOk_tmp rfl) ?_))))))))))))
      exact fun w' hw => ⟨by rw [idxP_at hk' hbe h2], hw⟩
    · skip
      refine cw_skip (post_blk (post_then (cw_region ?_)))
      refine sr rfl rfl rfl ((q_add rfl rfl rfl (by intro hc; omega))) ?_
      refine sr rfl rfl rfl ((q_move rfl rfl)) (sw_nil ?_)
      refine post_next (k + 1) (by exact .cons rfl (.cons rfl (.cons rfl (.cons rfl .nil)))) (fun _ h => h) ⟨by omega, fun j hj => ?_⟩ (by omega)
      by_cases hjk : j = k
      · rw [hjk]; exact h2
      · exact hbe j (by omega)
  · skip
    have hk' : k = es.length := by simp only [decide_eq_false_iff_not] at h; omega
    subst hk'
    refine cw_exit (post_then_x (post_then_x (post_blk_eq (post_then (cw_seq (cw_region (sr rfl rfl rfl ((q_assign rfl rfl)) (sw_nil (post_then (cw_ret (post_ret1 rfl (resOk_tmp rfl) ?_)))))))))))
    exact fun w' hw => ⟨by rw [idxP_none hbe], hw⟩
theorem contains4_spec (sv : Value) (es : List Int) (v : Int) (w : World) (hs : Stb w [] (RdL sv es)) : Calls Tryz.prog 145 #[sv, .int .i64 v] w fun e w' => e = .returned (.bool (es.any fun x => decide (v = x))) ∧ Cl w [] [] w' := by
  refine calls_cw (vs := [_, _]) Tryz.func145 rfl Tryz.ntmps145 rfl (Cl.start0 w) (cw_seq (cw_region (sr rfl rfl rfl ((q_assign rfl rfl)) (sw_nil (post_then (cw_seq (cw_region (sr rfl rfl rfl ((q_move rfl rfl)) (sr rfl rfl rfl ((q_move rfl rfl)) ?_)))))))))
  refine sw_step rfl rfl rfl (q_call (CanCall.mk Tryz.call173) rfl (.cons rfl inferInstance (.cons rfl inferInstance (.nil))) (fun _ w hw => callq hw (index4_spec _ _ _ w (by exact stb_arg hw (by assumption))))) ?_
  refine sr rfl rfl rfl ((q_geq rfl rfl rfl)) (sr rfl rfl rfl ((q_assign rfl rfl)) (sw_nil (post_then (cw_ret (post_ret1 rfl (resOk_tmp rfl) ?_)))))
  exact fun w' hw => ⟨by rw [idxP_any], hw⟩
theorem orE_spec (sv : Value) (l : List Int) (w : World) (hs : Stb w [] (RdL sv l)) : Calls Tryz.prog 146 #[sv] w fun e w' => e = .returned (.int .i64 (orL l)) ∧ Cl w [] [] w' := by
  have hL := rd_len hs.here
  refine calls_cw (vs := [_]) Tryz.func146 rfl Tryz.ntmps146 rfl (Cl.start0 w) (cw_seq (cw_region (sr rfl rfl rfl ((q_assign rfl rfl)) (sw_nil (post_then (cw_seq (cw_region (sr rfl rfl rfl ((q_assign rfl rfl)) (sw_nil (post_then (cw_seq (cw_seq (cw_region (sr rfl rfl rfl ((q_move rfl rfl)) ?_))))))))))))))
  refine sr rfl rfl rfl ((q_len rfl (.cons rfl inferInstance (.nil)) (by exact fun w hw => Stb.cl (by assumption) hw))) ?_
  refine sr rfl rfl rfl ((q_move rfl rfl)) (sw_nil (post_then (cw_block ?_)))
  refine cw_loop (S := Nat) (fun k => [(0, [], sv), (3, [], .int .i64 0), (6, [], sv), (7, [], .int .i64 l.length), (8, [], .int .i64 k)]) (fun _ => Cl w [] []) (fun k => k ≤ l.length ∧ ∀ j, j < k → nth l j = 0) (fun k => l.length - k) 0 ⟨by omega, fun j hj => by omega⟩ (by exact .cons rfl (.cons rfl (.cons rfl (.cons rfl (.cons rfl .nil))))) (fun _ h => h) ?_
  rintro k ⟨hk, hbe⟩
  refine cw_seq (cw_region (sr rfl rfl rfl ((q_lss rfl rfl rfl)) (sw_nil (post_then (cw_seq ?_)))))
  refine cw_cond rfl (fun h => ?_) (fun h => ?_)
  · skip
    have hk' : k < l.length := by simp at h; omega
    refine cw_skip (post_then (cw_seq (cw_block (cw_seq (cw_region ?_)))))
    refine sr rfl rfl rfl ((q_indexN rfl rfl rfl (by exact fun w hw => Stb.cl (by assumption) hw) (by intro hc; omega))) ?_
    refine sr rfl rfl rfl ((q_loadEl rfl rfl rfl (by exact fun w hw => Stb.cl (by assumption) hw) (by intro hc; omega))) ?_
    refine sr rfl rfl rfl ((q_assign rfl rfl)) (sw_nil (post_then (cw_seq (cw_region (sr rfl rfl rfl ((q_move rfl rfl)) (sr rfl rfl rfl ((q_move rfl rfl)) (sr rfl rfl rfl ((q_neq rfl rfl rfl)) (sw_nil (post_then ?_)))))))))
    refine cw_cond rfl (fun h2 => ?_) (fun h2 => ?_)
    · skip
      have h3 : orL l = nth l k := by
        rw [orL_skip hbe (by omega), List.drop_eq_getElem_cons hk', ← nth_get hk']
        simp at h2
        simp [orL, h2]
      refine cw_seq (cw_region (sr rfl rfl rfl ((q_move rfl rfl)) (sr rfl rfl rfl ((q_assign rfl rfl)) (sw_nil (post_then (cw_ret (post_blk_r (post_then_r (post_then_r (post_blk_r (post_then_r (post_ret1 rfl (resOk_tmp rfl) ?_))))))))))))
      exact fun w' hw => ⟨by rw [h3]; rfl, hw⟩
    · skip
      refine cw_skip (post_blk (post_then (cw_region ?_)))
      refine sr rfl rfl rfl ((q_add rfl rfl rfl (by intro hc; omega))) ?_
      refine sr rfl rfl rfl ((q_move rfl rfl)) (sw_nil ?_)
      refine post_next (k + 1) (by exact .cons rfl (.cons rfl (.cons rfl (.cons rfl (.cons rfl .nil))))) (fun _ h => h) ⟨by omega, fun j hj => ?_⟩ (by omega)
      by_cases hjk : j = k
      · rw [hjk]; simpa using h2
      · exact hbe j (by omega)
  · skip
    have hk' : k = l.length := by simp at h; omega
    subst hk'
    have h3 : orL l = 0 := by rw [orL_skip hbe (Nat.le_refl _), List.drop_length]; rfl
    refine cw_exit (post_then_x (post_then_x (post_blk_eq (post_then (cw_seq (cw_region (sr rfl rfl rfl ((q_move rfl rfl)) (sr rfl rfl rfl ((q_assign rfl rfl)) (sw_nil (post_then (cw_ret (post_ret1 rfl (resOk_tmp rfl) ?_))))))))))))
    exact fun w' hw => ⟨by rw [h3], hw⟩
def worstC (l : List Int) : Int := if l.any fun x => decide (4 = x) then 4 else orL l
theorem worst_spec (sv : Value) (l : List Int) (w : World) (hs : Stb w [] (RdL sv l)) : Calls Tryz.prog 117 #[sv] w fun e w' => e = .returned (.int .i64 (worstC l)) ∧ Cl w [] [] w' := by
  refine calls_cw (vs := [_]) Tryz.func117 rfl Tryz.ntmps117 rfl (Cl.start0 w) (cw_seq (cw_region (sr rfl rfl rfl ((q_assign rfl rfl)) (sw_nil (post_then (cw_seq (cw_seq (cw_region (sr rfl rfl rfl ((q_move rfl rfl)) ?_)))))))))
  refine sw_step rfl rfl rfl (q_call (CanCall.mk Tryz.call145) rfl (.cons rfl inferInstance (.cons rfl inferInstance (.nil))) (fun _ w hw => callq hw (contains4_spec _ _ _ w (by exact stb_arg hw (by assumption))))) ?_
  refine sw_nil (post_then ?_)
  refine cw_cond rfl (fun h => ?_) (fun h => ?_)
  · skip
    have e : worstC l = 4 := by unfold worstC; rw [if_pos h]
    refine cw_seq (cw_region (sr rfl rfl rfl ((q_assign rfl rfl)) (sw_nil (post_then (cw_ret (post_then_r (post_ret1 rfl (resOk_tmp rfl) ?_)))))))
    exact fun w' hw => ⟨by rw [e], hw⟩
  · skip
    have e : worstC l = orL l := by unfold worstC; rw [if_neg (by rw [h]; decide)]
    refine cw_skip (post_then (cw_seq (cw_region (sr rfl rfl rfl ((q_move rfl rfl)) ?_))))
    refine sw_step rfl rfl rfl (q_call (CanCall.mk Tryz.call146) rfl (.cons rfl inferInstance (.nil)) (fun _ w hw => callq hw (orE_spec _ _ w (by exact stb_arg hw (by assumption))))) ?_
    refine sr rfl rfl rfl ((q_assign rfl rfl)) (sw_nil (post_then (cw_ret (post_ret1 rfl (resOk_tmp rfl) ?_))))
    exact fun w' hw => ⟨by rw [e], hw⟩
def SpIn (u : Sp) (w : World) : Prop := RdL u.p.v u.pl w
def spOk (u : Sp) : Bool := wordOk u.word && phonesOk u.pl 120
def spC (x y : Sp) : Int := cmpS x.word y.word
def lexE (l : List Sp) : Int := if 3000 < l.length then 4 else if riseB spC l && l.all spOk then 0 else 2
theorem byWord_spec (l : List Sp) : CmpL Tryz.prog 134 #[] spC (fun _ => True) l := by
  intro x hx y hy w _
  refine calls_cw (vs := [_, _]) Tryz.func134 rfl Tryz.ntmps134 rfl (Cl.start0 w) (cw_seq (cw_region ?_))
  refine sw_x rfl rfl rfl (e_box rfl rfl rfl) (fun b2 => ?_)
  refine sw_x rfl rfl rfl (e_box rfl rfl rfl) (fun b3 => ?_)
  refine sr rfl rfl rfl ((q_assign rfl rfl)) (sw_nil (post_then (cw_seq (cw_region (sr rfl rfl rfl ((q_fieldAddr rfl rfl)) ?_)))))
  refine sr rfl rfl rfl ((q_loadC rfl rfl (by exact .tail _ (.head _)) rfl)) ?_
  refine sr rfl rfl rfl ((q_fieldAddr rfl rfl)) ?_
  refine sr rfl rfl rfl ((q_loadC rfl rfl (by exact .head _) rfl)) ?_
  refine sw_step rfl rfl rfl (q_call (CanCall.mk Tryz.call94) rfl (.cons rfl inferInstance (.cons rfl inferInstance (.nil))) (fun _ w hw => callq hw (strCmp_spec _ _ w))) (sr rfl rfl rfl ((q_assign rfl rfl)) (sw_nil (post_then (cw_ret (post_ret1 rfl (resOk_tmp rfl) ?_)))))
  exact fun w' hw => ⟨rfl, (fun w h => Cl.sel (by exact .nil _) w h) _ hw⟩
theorem badSp_spec (l : List Sp) (hsz : ∀ u ∈ l, u.word.size ≤ 1000000) : PredL Tryz.prog 136 #[] (fun u => !spOk u) (fun w => Tab w ∧ ∀ u ∈ l, SpIn u w) l := by
  intro u hu w ⟨hT, hR⟩
  have hT1 := tab_stb hT
  have hus : u.word.size ≤ 9223372036854775806 := by have := hsz u hu; omega
  have r1 : Stb w [] (RdL u.p.v u.pl) := rd_stb (hR u hu)
  refine calls_cw (vs := [_]) Tryz.func136 rfl Tryz.ntmps136 rfl (Cl.start0 w) (cw_seq (cw_region ?_))
  refine sw_x rfl rfl rfl (e_box rfl rfl rfl) (fun b1 => ?_)
  refine sr rfl rfl rfl ((q_assign rfl rfl)) (sw_nil (post_then (cw_seq (cw_region (sr rfl rfl rfl ((q_fieldAddr rfl rfl)) ?_)))))
  refine sr rfl rfl rfl ((q_loadC rfl rfl (by exact .head _) rfl)) ?_
  refine sw_step rfl rfl rfl (q_call (CanCall.mk Tryz.call62) rfl (.cons rfl inferInstance (.nil)) (fun _ w hw => callq hw (isWord_spec _ w (by assumption) (stb_arg hw (by assumption))))) ?_
  refine sr rfl rfl rfl ((q_not rfl rfl)) (sr rfl rfl rfl ((q_move rfl rfl)) (sr rfl rfl rfl ((q_fieldAddr rfl rfl)) ?_))
  refine sr rfl rfl rfl ((q_loadC rfl rfl (by exact .head _) rfl)) ?_
  refine sw_step rfl rfl rfl (q_call (CanCall.mk Tryz.call63) rfl (.cons rfl inferInstance (.cons rfl inferInstance (.nil))) (fun _ w hw => callq hw (phones_spec _ _ _ w (by exact stb_arg hw (by assumption))))) ?_
  refine sr rfl rfl rfl ((q_not rfl rfl)) (sr rfl rfl rfl ((q_or2 rfl rfl rfl)) (sr rfl rfl rfl ((q_assign rfl rfl)) (sw_nil (post_then (cw_ret (post_ret1 rfl (resOk_tmp rfl) ?_))))))
  refine fun w' hw => ⟨?_, (fun w h => Cl.sel (by exact .nil _) w h) _ hw⟩
  congr 2
  unfold spOk; dsimp only
  cases wordOk u.word <;> cases phonesOk u.pl 120 <;> rfl
theorem lexicon_spec (sv : Value) (l : List Sp) (hsz : ∀ u ∈ l, u.word.size ≤ 1000000) (w : World) (hT : Stb w [] Tab) (hs : Stb w [] (RdL sv l)) (hp : Stb w [] fun w' => ∀ u ∈ l, SpIn u w') : Calls Tryz.prog 95 #[sv] w fun e w' => e = .returned (.int .i64 (lexE l)) ∧ Cl w [] [] w' := by
  have hL := rd_len hs.here
  have hTp : Stb w [] fun w' => Tab w' ∧ ∀ u ∈ l, SpIn u w' := ⟨fun w' k => ⟨hT.stb w' k, hp.stb w' k⟩⟩
  refine calls_cw (vs := [_]) Tryz.func95 rfl Tryz.ntmps95 rfl (Cl.start0 w) (cw_seq (cw_region (sr rfl rfl rfl ((q_assign rfl rfl)) (sw_nil (post_then (cw_seq (cw_seq (cw_region (sr rfl rfl rfl ((q_move rfl rfl)) ?_)))))))))
  refine sr rfl rfl rfl ((q_len rfl (.cons rfl inferInstance (.nil)) (by exact fun w hw => Stb.cl (by assumption) hw))) ?_
  refine sr rfl rfl rfl ((q_gtr rfl rfl rfl)) (sw_nil (post_then ?_))
  refine cw_cond rfl (fun h => ?_) (fun h => ?_)
  · skip
    have e : lexE l = 4 := by simp at h; unfold lexE; rw [if_pos (by omega)]
    refine cw_seq (cw_region (sr rfl rfl rfl ((q_assign rfl rfl)) (sw_nil (post_then (cw_ret (post_then_r (post_ret1 rfl (resOk_tmp rfl) ?_)))))))
    exact fun w' hw => ⟨by rw [e], hw⟩
  · skip
    have h1 : ¬ 3000 < l.length := by simp at h; omega
    refine cw_skip (post_then (cw_seq (cw_seq (cw_region (sr rfl rfl rfl ((q_move rfl rfl)) ?_)))))
    refine sw_step rfl rfl rfl (q_call (CanCall.mk Tryz.call133) rfl (.cons rfl inferInstance (.cons rfl inferInstance (.nil))) (fun _ w hw => callq hw (riseSp_spec _ _ _ _ _ _ w (by exact stb_arg hw (by assumption)) (stb_true w []) (CanCall.mk Tryz.call134) (byWord_spec l)))) ?_
    refine sr rfl rfl rfl ((q_not rfl rfl)) (sr rfl rfl rfl ((q_move rfl rfl)) (sr rfl rfl rfl ((q_move rfl rfl)) ?_))
    refine sw_step rfl rfl rfl (q_call (CanCall.mk Tryz.call135) rfl (.cons rfl inferInstance (.cons rfl inferInstance (.nil))) (fun _ w hw => callq hw (hasSp_spec _ _ _ _ _ _ w (by exact stb_arg hw (by assumption)) (stb_arg hw hTp) (CanCall.mk Tryz.call136) (badSp_spec l hsz)))) ?_
    refine sr rfl rfl rfl ((q_or2 rfl rfl rfl)) (sw_nil (post_then ?_))
    rw [all_not_any]
    refine cw_cond rfl (fun h2 => ?_) (fun h2 => ?_)
    · skip
      have e : lexE l = 2 := by
        unfold lexE; rw [if_neg h1, if_neg]
        cases h3 : riseB spC l <;> cases h4 : l.all spOk <;> simp [h3, h4] at h2 ⊢
      refine cw_seq (cw_region (sr rfl rfl rfl ((q_assign rfl rfl)) (sw_nil (post_then (cw_ret (post_then_r (post_ret1 rfl (resOk_tmp rfl) ?_)))))))
      exact fun w' hw => ⟨by rw [e], hw⟩
    · skip
      have e : lexE l = 0 := by
        unfold lexE; rw [if_neg h1, if_pos]
        cases h3 : riseB spC l <;> cases h4 : l.all spOk <;> simp [h3, h4] at h2 ⊢
      refine cw_skip (post_then (cw_seq (cw_region (sr rfl rfl rfl ((q_assign rfl rfl)) (sw_nil (post_then (cw_ret (post_ret1 rfl (resOk_tmp rfl) ?_))))))))
      exact fun w' hw => ⟨by rw [e], hw⟩
def lrnB (o : Lrn) : Bool := decide (1 ≤ o.reach) && decide (o.reach ≤ 3) && decide (1 ≤ o.least) && decide (o.least ≤ 1000) && decide (1 ≤ o.most) && decide (o.most ≤ 500)
theorem lrnOk_of {o : Lrn} (h : lrnB o = true) : LrnOk o := by
  unfold lrnB at h
  simp only [Bool.and_eq_true, decide_eq_true_eq] at h
  exact ⟨by omega, by omega, by omega⟩
def optE (l : List Sp) (p : List Pr) (o : Lrn) : Int := if worstC [lexE l, prsE p] ≠ 0 then worstC [lexE l, prsE p] else if lrnB o then 0 else 2
theorem options_spec (sl sp : Value) (l : List Sp) (p : List Pr) (o : Lrn) (hsz : ∀ u ∈ l, u.word.size ≤ 1000000) (w : World) (hT : Stb w [] Tab) (hs : Stb w [] (RdL sl l)) (hl : Stb w [] fun w' => ∀ u ∈ l, SpIn u w') (hp0 : Stb w [] (RdL sp p)) (hp : Stb w [] fun w' => ∀ u ∈ p, PrIn u w') :
    Calls Tryz.prog 69 #[sl, sp, val o] w fun e w' => e = .returned (.int .i64 (optE l p o)) ∧ Cl w [] [] w' := by
  refine calls_cw (vs := [_, _, _]) Tryz.func69 rfl Tryz.ntmps69 rfl (Cl.start0 w) (cw_seq (cw_region ?_))
  refine sw_x rfl rfl rfl (e_box rfl rfl rfl) (fun b5 => ?_)
  refine sr rfl rfl rfl ((q_assign rfl rfl)) (sw_nil (post_then (cw_seq (cw_seq (cw_region (sr rfl rfl rfl ((q_move rfl rfl)) ?_))))))
  refine sw_step rfl rfl rfl (q_call (CanCall.mk Tryz.call95) rfl (.cons rfl inferInstance (.nil)) (fun _ w hw => callq hw (lexicon_spec _ _ (by assumption) w (stb_arg hw (by assumption)) (by exact stb_arg hw (by assumption)) (stb_arg hw (by assumption))))) ?_
  refine sr rfl rfl rfl ((q_move rfl rfl)) ?_
  refine sw_step rfl rfl rfl (q_call (CanCall.mk Tryz.call61) rfl (.cons rfl inferInstance (.nil)) (fun _ w hw => callq hw (pairs_spec _ _ w (by exact stb_arg hw (by assumption)) (stb_arg hw (by assumption))))) ?_
  refine sw_x rfl rfl rfl (e_buildL (α := Int) (l := [lexE l, prsE p]) rfl (.cons rfl inferInstance (.cons rfl inferInstance (.nil))) rfl rfl rfl rfl) (fun s12 => ?_)
  refine sw_step rfl rfl rfl (q_call (CanCall.mk Tryz.call117) rfl (.cons rfl inferInstance (.nil)) (fun _ w hw => callq hw (worst_spec _ _ w (by exact stb_own hw (by exact .head _))))) ?_
  refine sr rfl rfl rfl ((q_assign rfl rfl)) (sw_nil (post_then (cw_seq (cw_region (sr rfl rfl rfl ((q_move rfl rfl)) (sr rfl rfl rfl ((q_neq rfl rfl rfl)) (sw_nil (post_then ?_))))))))
  refine cw_cond rfl (fun h => ?_) (fun h => ?_)
  · skip
    have e : optE l p o = worstC [lexE l, prsE p] := by unfold optE; rw [if_pos (by simpa using h)]
    refine cw_seq (cw_region (sr rfl rfl rfl ((q_move rfl rfl)) (sr rfl rfl rfl ((q_assign rfl rfl)) (sw_nil (post_then (cw_ret (post_then_r (post_ret1 rfl (resOk_tmp rfl) ?_))))))))
    exact fun w' hw => ⟨by rw [e], (fun w h => Cl.sel (by exact .nil _) w h) _ hw⟩
  · skip
    have e : optE l p o = if lrnB o then 0 else 2 := by unfold optE; rw [if_neg (by simpa using h)]
    refine cw_skip (post_then (cw_seq (cw_seq (cw_region (sr rfl rfl rfl ((q_fieldAddr rfl rfl)) ?_)))))
    refine sr rfl rfl rfl ((q_loadC rfl rfl (by exact .tail _ (.head _)) rfl)) ?_
    refine sr rfl rfl rfl ((q_lss rfl rfl rfl)) (sr rfl rfl rfl ((q_move rfl rfl)) (sr rfl rfl rfl ((q_fieldAddr rfl rfl)) ?_))
    refine sr rfl rfl rfl ((q_loadC rfl rfl (by exact .tail _ (.head _)) rfl)) ?_
    refine sr rfl rfl rfl ((q_gtr rfl rfl rfl)) (sr rfl rfl rfl ((q_or2 rfl rfl rfl)) (sr rfl rfl rfl ((q_move rfl rfl)) (sr rfl rfl rfl ((q_fieldAddr rfl rfl)) ?_)))
    refine sr rfl rfl rfl ((q_loadC rfl rfl (by exact .tail _ (.head _)) rfl)) ?_
    refine sr rfl rfl rfl ((q_lss rfl rfl rfl)) (sr rfl rfl rfl ((q_or2 rfl rfl rfl)) (sr rfl rfl rfl ((q_move rfl rfl)) (sr rfl rfl rfl ((q_fieldAddr rfl rfl)) ?_)))
    refine sr rfl rfl rfl ((q_loadC rfl rfl (by exact .tail _ (.head _)) rfl)) ?_
    refine sr rfl rfl rfl ((q_gtr rfl rfl rfl)) (sr rfl rfl rfl ((q_or2 rfl rfl rfl)) (sr rfl rfl rfl ((q_move rfl rfl)) (sr rfl rfl rfl ((q_fieldAddr rfl rfl)) ?_)))
    refine sr rfl rfl rfl ((q_loadC rfl rfl (by exact .tail _ (.head _)) rfl)) ?_
    refine sr rfl rfl rfl ((q_lss rfl rfl rfl)) (sr rfl rfl rfl ((q_or2 rfl rfl rfl)) (sr rfl rfl rfl ((q_move rfl rfl)) (sr rfl rfl rfl ((q_fieldAddr rfl rfl)) ?_)))
    refine sr rfl rfl rfl ((q_loadC rfl rfl (by exact .tail _ (.head _)) rfl)) ?_
    refine sr rfl rfl rfl ((q_gtr rfl rfl rfl)) (sr rfl rfl rfl ((q_or2 rfl rfl rfl)) (sw_nil (post_then ?_)))
    refine cw_cond rfl (fun h2 => ?_) (fun h2 => ?_)
    · skip
      have e2 : lrnB o = false := by
        cases h3 : lrnB o with
        | false => rfl
        | true =>
          unfold lrnB at h3
          simp only [Bool.and_eq_true, decide_eq_true_eq] at h3
          simp at h2; omega
      refine cw_seq (cw_region (sr rfl rfl rfl ((q_assign rfl rfl)) (sw_nil (post_then (cw_ret (post_then_r (post_ret1 rfl (resOk_tmp rfl) ?_)))))))
      exact fun w' hw => ⟨by rw [e, e2]; rfl, (fun w h => Cl.sel (by exact .nil _) w h) _ hw⟩
    · skip
      have e2 : lrnB o = true := by
        unfold lrnB
        simp only [Bool.and_eq_true, decide_eq_true_eq]
        simp at h2; omega
      refine cw_skip (post_then (cw_seq (cw_region (sr rfl rfl rfl ((q_assign rfl rfl)) (sw_nil (post_then (cw_ret (post_ret1 rfl (resOk_tmp rfl) ?_))))))))
      exact fun w' hw => ⟨by rw [e, e2]; rfl, (fun w h => Cl.sel (by exact .nil _) w h) _ hw⟩
end Go.Proofs.YtkmbliojafefdaaGreatDoor

set_option autoImplicit false
set_option maxRecDepth 100000
namespace Go.Proofs.YtkmbliojafefdaaGreatDoor
open Go.Sx
open Enc (enc val)
theorem path_ok {p : List Pr} : ∀ {ws : List Rn} {l : List ByteArray}, 0 ≤ leastC p ws l → (pathC p ws l).length = ws.length ∧ ∀ q ∈ pathC p ws l, ∃ x ∈ p, q = x.pl
  | [], l, _ => by simp [pathC]
  | c :: ws, l, h => by
    obtain ⟨x, _, hx, _, h0, he⟩ := path_step h
    have ih := path_ok h0
    rw [he]
    refine ⟨by simp [ih.1], fun q hq => ?_⟩
    rcases List.mem_cons.1 hq with rfl | hq
    · exact ⟨x, (offers_mem.1 hx).1, rfl⟩
    · exact ih.2 q hq
def EtIn (u : Ety) (w : World) : Prop := RdRQ u.s.v u.sl w
def entC (p : List Pr) (l : List Sp) : List (ByteArray × List (List ByteArray)) := (l.filter fun u => alOk p u.word u.pl).map fun u => (u.word, alP p u.word u.pl)
theorem ent_take {p : List Pr} {l : List Sp} {k : Nat} (hk : k < l.length) : entC p (l.take (k + 1)) = entC p (l.take k) ++ if alOk p (nth l k).word (nth l k).pl then [((nth l k).word, alP p (nth l k).word (nth l k).pl)] else [] := by
  unfold entC
  rw [List.take_succ_eq_append_getElem hk, List.filter_append, List.map_append, nth_get hk]
  congr 1
  by_cases h : alOk p l[k].word l[k].pl = true <;> simp [h]
theorem ent_le (p : List Pr) (l : List Sp) : (entC p l).length ≤ l.length := by
  unfold entC; rw [List.length_map]; exact List.length_filter_le _ _
theorem entries_spec (sl sp : SlV) (l : List Sp) (p : List Pr) (hsz : ∀ u ∈ l, u.word.size ≤ 1000000) (hl0 : lexE l = 0) (hp0 : prsE p = 0) (w : World) (hs : Stb w [] (RdL sl.v l)) (hli : Stb w [] fun w' => ∀ u ∈ l, SpIn u w') (hp : Stb w [] (RdL sp.v p)) (hpi : Stb w [] fun w' => ∀ u ∈ p, PrIn u w') :
    Calls Tryz.prog 71 #[sl.v, sp.v] w fun e w' => ∃ y : SlV × List Ety, e = .returned y.1.v ∧ (y.2.map fun u => (u.word, u.sl)) = entC p l ∧ Cl w [] [Sx.frz fun w => RdL y.1.v y.2 w ∧ ∀ u ∈ y.2, EtIn u w] w' := by
  have hL := rd_len hs.here
  obtain ⟨z1, z2, z3, z4, z5⟩ := prsE_zero hp0
  have hl1 : l.length ≤ 3000 ∧ ∀ u ∈ l, spOk u = true := by
    unfold lexE at hl0
    split at hl0
    · cases hl0
    · split at hl0
      · rename_i h1 h2
        simp only [Bool.and_eq_true, List.all_eq_true] at h2
        exact ⟨by omega, h2.2⟩
      · cases hl0
  refine calls_cw (vs := [_, _]) Tryz.func71 rfl Tryz.ntmps71 rfl (Cl.start0 w) (cw_seq (cw_region (sr rfl rfl rfl ((q_assign rfl rfl)) (sw_nil (post_then (cw_seq (cw_region (sr rfl rfl rfl ((q_assign rfl rfl)) (sw_nil (post_then (cw_seq (cw_seq (cw_region (sr rfl rfl rfl ((q_move rfl rfl)) ?_))))))))))))))
  refine sr rfl rfl rfl ((q_len rfl (.cons rfl inferInstance (.nil)) (by exact fun w hw => Stb.cl (by assumption) hw))) ?_
  refine sr rfl rfl rfl ((q_move rfl rfl)) (sw_nil (post_then (cw_block ?_)))
  refine cw_loop (S := Nat × SlV × List Ety) (fun y => [(1, [], sp.v), (5, [], y.2.1.v), (11, [], sl.v), (12, [], .int .i64 l.length), (13, [], .int .i64 y.1)]) (fun y => Cl w [] [ownL 153 y.2.1.v y.2.2, Sx.frz (fun w => ∀ u ∈ y.2.2, EtIn u w)]) (fun y => y.1 ≤ l.length ∧ (y.2.2.map fun u => (u.word, u.sl)) = entC p (l.take y.1)) (fun y => l.length - y.1) (0, ⟨none, 0, 0⟩, []) ⟨by simp, by simp [entC]⟩ (by exact .cons rfl (.cons rfl (.cons rfl (.cons rfl (.cons rfl .nil))))) (fun w' h => Cl.addNil 153 (cl_true (fun w => by simp) h)) ?_
  rintro ⟨k, so, out⟩ ⟨hk, hout⟩
  dsimp only at hk hout ⊢
  have hol : out.length ≤ 3000 := by
    have h1 := ent_le p (l.take k)
    rw [← hout, List.length_map, List.length_take] at h1; omega
  refine cw_seq (cw_region (sr rfl rfl rfl ((q_lss rfl rfl rfl)) (sw_nil (post_then (cw_seq ?_)))))
  refine cw_cond rfl (fun h => ?_) (fun h => ?_)
  · skip
    have hk' : k < l.length := by simp at h; omega
    obtain ⟨u, hu⟩ : ∃ u, nth l k = u := ⟨_, rfl⟩
    have hum : u ∈ l := by rw [← hu]; exact nth_mem hk'
    have huo := hl1.2 u hum
    have hus := hsz u hum
    have hui : Stb w [] (RdL u.p.v u.pl) := stb_map hli fun _ h => h u hum
    have h3 : wordOk u.word = true ∧ phonesOk u.pl 120 = true := by simpa [spOk] using huo
    have hrl : (runes u.word).length ≤ 40 := by have := h3.1; simp [wordOk] at this; omega
    have hll : u.pl.length ≤ 120 := by have := h3.2; simp [phonesOk] at this; omega
    have hst := ent_take (p := p) hk'
    rw [hu] at hst
    refine cw_skip (post_then (cw_seq (cw_block (cw_seq (cw_region ?_)))))
    refine sr rfl rfl rfl ((q_indexN rfl rfl rfl (by exact fun w hw => Stb.cl (by assumption) hw) (by intro hc; omega))) ?_
    refine sr rfl rfl rfl ((q_loadEl rfl rfl rfl (by exact fun w hw => Stb.cl (by assumption) hw) (by intro hc; omega))) ?_
    rw [hu]
    refine sw_x rfl rfl rfl (e_alloc rfl) (fun b7 => ?_)
    refine sw_eff0 rfl rfl (e_store (i := 0) rfl rfl rfl rfl rfl rfl rfl rfl) (sw_nil (post_then (cw_seq (cw_region (sr rfl rfl rfl ((q_move rfl rfl)) (sr rfl rfl rfl ((q_fieldAddr rfl rfl)) ?_))))))
    refine sr rfl rfl rfl ((q_loadC rfl rfl (by exact .head _) rfl)) ?_
    refine sr rfl rfl rfl ((q_fieldAddr rfl rfl)) ?_
    refine sr rfl rfl rfl ((q_loadC rfl rfl (by exact .head _) rfl)) ?_
    refine sw_x rfl rfl rfl (e_call (CanCall.mk Tryz.call64) rfl (.cons rfl inferInstance (.cons rfl inferInstance (.cons rfl inferInstance (.nil)))) (fun w1 hw => aligned_spec sp u.p p u.word u.pl (by omega) hus (by omega) z1 z2 (fun x hx => by have := z3 x hx; omega) w1 (stb_arg hw hp) (stb_arg hw hpi) (stb_arg hw hui))) (fun x23 => ?_)
    refine sw_imp fun _ => (sr rfl rfl rfl ((q_move rfl rfl)) (sr rfl rfl rfl ((q_extract rfl rfl rfl)) (sr rfl rfl rfl ((q_extract rfl rfl rfl)) (sr rfl rfl rfl ((q_extract rfl rfl rfl)) (sr rfl rfl rfl ((q_assign rfl rfl)) (sr rfl rfl rfl ((q_assign rfl rfl)) (sr rfl rfl rfl ((q_assign rfl rfl)) (sw_nil (post_then (cw_seq (cw_region (sr rfl rfl rfl ((q_move rfl rfl)) (sw_nil (post_then ?_))))))))))))))
    refine cw_cond rfl (fun h5 => ?_) (fun h5 => ?_)
    · skip
      have h6 : alOk p u.word u.pl = true := h5
      rw [if_pos h6] at hst
      refine cw_region (sr rfl rfl rfl ((q_move rfl rfl)) ?_)
      refine sr rfl rfl rfl ((q_loadA rfl rfl (by exact .tail _ (.head _)) rfl)) ?_
      refine sr rfl rfl rfl ((q_move rfl rfl)) (sr rfl rfl rfl ((q_build rfl (.cons rfl inferInstance (.cons rfl inferInstance (.nil))) rfl)) ?_)
      refine sw_x rfl rfl rfl (e_buildL (α := Ety) (l := [⟨u.word, u.p, x23, alP p u.word u.pl, u.pl⟩]) rfl (.cons rfl inferInstance (.nil)) rfl rfl rfl rfl) (fun s32 => ?_)
      refine sw_x rfl rfl rfl (e_append (i := 3) rfl (.cons rfl inferInstance (.cons rfl inferInstance (.nil))) rfl rfl (by exact fun w hw => rd_own hw (by exact .head _)) (by first | omega | (simp only [List.length_set, List.length_append, List.length_cons, List.length_nil, List.length_replicate, List.length_take, List.length_drop, List.length_map]; omega)) rfl) (fun s33 => ?_)
      refine sr rfl rfl rfl ((q_assign rfl rfl)) (sw_nil (post_blk (post_then (cw_region ?_))))
      refine sr rfl rfl rfl ((q_add rfl rfl rfl (by intro hc; omega))) ?_
      refine sr rfl rfl rfl ((q_move rfl rfl)) (sw_nil ?_)
      refine post_next (k + 1, s33, out ++ [⟨u.word, u.p, x23, alP p u.word u.pl, u.pl⟩]) (by exact .cons rfl (.cons rfl (.cons rfl (.cons rfl (.cons rfl .nil))))) (fun w' h => ?_) ⟨by simp only; omega, by simp only [List.map_append]; rw [hst, ← hout]; rfl⟩ (by simp only; omega)
      have h1 : Cl w [] ([Sx.frz (RdRQ x23.v (alP p u.word u.pl)), Sx.frz (fun w => ∀ u ∈ out, EtIn u w)] ++ [ownL 153 s33.v (out ++ [⟨u.word, u.p, x23, alP p u.word u.pl, u.pl⟩])]) w' := (fun w h => Cl.sel (by exact .take 1 rfl (.take 3 rfl (.take 2 rfl (.nil _)))) w h) _ h
      have h2 := Cl.frz (R := fun w => ∀ q ∈ out ++ [⟨u.word, u.p, x23, alP p u.word u.pl, u.pl⟩], EtIn q w) h1 fun w bs ⟨b1, _, _, k1, b2, _, _, k2, _⟩ q hq => by
        rcases List.mem_append.1 hq with hq | hq
        · exact frz_here k2 q hq
        · simp at hq; subst hq; exact frz_here k1
      exact (fun w h => Cl.sel (by exact .take 1 rfl (.take 0 rfl (.nil _))) w h) _ h2
    · skip
      have h6 : alOk p u.word u.pl = false := h5
      rw [if_neg (by rw [h6]; decide), List.append_nil] at hst
      refine cw_skip (post_blk (post_then (cw_region ?_)))
      refine sr rfl rfl rfl ((q_add rfl rfl rfl (by intro hc; omega))) ?_
      refine sr rfl rfl rfl ((q_move rfl rfl)) (sw_nil ?_)
      exact post_next (k + 1, so, out) (by exact .cons rfl (.cons rfl (.cons rfl (.cons rfl (.cons rfl .nil))))) (fun w' h => (fun w h => Cl.sel (by exact .take 2 rfl (.take 2 rfl (.nil _))) w h) _ h) ⟨by simp only; omega, by simp only; rw [hst, ← hout]⟩ (by simp only; omega)
  · skip
    have hk' : k = l.length := by simp at h; omega
    rw [hk', List.take_length] at hout
    refine cw_exit (post_then_x (post_then_x (post_blk_eq (post_then (cw_seq (cw_region (sr rfl rfl rfl ((q_move rfl rfl)) (sr rfl rfl rfl ((q_assign rfl rfl)) (sw_nil (post_then (cw_ret (post_ret1 rfl (resOk_tmp rfl) ?_))))))))))))
    exact fun w' hw => ⟨(so, out), rfl, hout, Cl.frz2 (Cl.frzL hw)⟩
end Go.Proofs.YtkmbliojafefdaaGreatDoor

set_option autoImplicit false
set_option maxRecDepth 100000
namespace Go.Proofs.YtkmbliojafefdaaGreatDoor
open Go.Sx
def XL.bl (e : XL) : XL := ⟨default, e.at_, default, e.wl, e.pl⟩
def Tly.bl (u : Tly) : Tly := ⟨u.t, default, u.n, u.m, u.pl⟩
theorem candB_bl (e : XL) (a : Int) : ∀ (n : Nat) (b : Int), candB e.bl a b n = candB e a b n
  | 0, _ => rfl
  | n + 1, b => by unfold candB; rw [candB_bl e a n]; rfl
theorem candL_bl (e : XL) (r : Int) : ∀ (n : Nat) (a : Int), candL e.bl r a n = candL e r a n
  | 0, _ => rfl
  | n + 1, a => by unfold candL; rw [candL_bl e r n, candB_bl]; rfl
theorem cands_bl (e : XL) (r : Int) : cands e.bl r = cands e r := candL_bl e r _ _
theorem cnt_bl (l : List XL) (pl : List ByteArray) : cnt (l.map XL.bl) pl = cnt l pl := by
  unfold cnt; rw [List.countP_map]; rfl
theorem most_bl (l : List XL) : mostC (l.map XL.bl) = ⟨default, (mostC l).b, (mostC l).m⟩ := by
  have key : ∀ (q : List XL) (s : MS), (q.map XL.bl).foldl (mostStep (l.map XL.bl)) ⟨default, s.b, s.m⟩ = ⟨default, (q.foldl (mostStep l) s).b, (q.foldl (mostStep l) s).m⟩ := by
    intro q
    induction q with
    | nil => intro s; rfl
    | cons x q ih =>
      intro s
      rw [List.map_cons, List.foldl_cons, List.foldl_cons]
      have h1 : mostStep (l.map XL.bl) ⟨default, s.b, s.m⟩ x.bl = ⟨default, (mostStep l s x).b, (mostStep l s x).m⟩ := by
        unfold mostStep
        rw [cnt_bl]
        show (if s.m < ((cnt l x.pl : Nat) : Int) ∨ (((cnt l x.pl : Nat) : Int) = s.m ∧ ordL x.pl s.b < 0) then (⟨default, x.pl, (cnt l x.pl : Nat)⟩ : MS) else _) = _
        by_cases h : s.m < ((cnt l x.pl : Nat) : Int) ∨ (((cnt l x.pl : Nat) : Int) = s.m ∧ ordL x.pl s.b < 0)
        · rw [if_pos h, if_pos h]
        · rw [if_neg h, if_neg h]
      rw [h1, ih]
  exact key l ⟨⟨none, 0, 0⟩, [], 0⟩
theorem held_bl (l : List XL) (r : Int) (k : TT) : heldC (l.map XL.bl) r k = (heldC l r k).map XL.bl := by
  unfold heldC
  rw [List.filter_map]
  congr 1
  apply List.filter_congr
  intro e _
  simp only [Function.comp, cands_bl]
theorem tly_bl (l : List XL) (r : Int) (t : TT) : tlyOf (l.map XL.bl) r t = (tlyOf l r t).bl := by
  unfold tlyOf Tly.bl
  rw [held_bl, most_bl, List.length_map]
theorem tallies_bl (l : List XL) (r least : Int) : tallies (l.map XL.bl) r least = (tallies l r least).map Tly.bl := by
  unfold tallies
  have h1 : ((l.map XL.bl).flatMap fun e => cands e r) = l.flatMap fun e => cands e r := by
    rw [List.flatMap_map]
    congr 1; funext e; exact cands_bl e r
  have h2 : tlyOf (l.map XL.bl) r = fun t => (tlyOf l r t).bl := by funext t; exact tly_bl l r t
  rw [h1, h2, List.filter_map, List.filter_map, List.map_map]
  rfl
theorem minBy_map {α β : Type} [Inhabited α] [Inhabited β] {c : α → α → Int} {d : β → β → Int} (f : α → β) (hf : ∀ x y, d (f x) (f y) = c x y) {l : List α} (h0 : 0 < l.length) : minBy d (l.map f) = f (minBy c l) := by
  have key : ∀ (q : List α) (m : α), (q.map f).foldl (fun m x => if d x m < 0 then x else m) (f m) = f (q.foldl (fun m x => if c x m < 0 then x else m) m) := by
    intro q
    induction q with
    | nil => intro m; rfl
    | cons x q ih =>
      intro m
      rw [List.map_cons, List.foldl_cons, List.foldl_cons, hf]
      split
      · exact ih x
      · exact ih m
  unfold minBy
  have h1 : nth (l.map f) 0 = f (nth l 0) := by rw [nth_get (by simpa using h0), nth_get h0]; simp
  rw [h1, ← List.map_drop]
  exact key _ _
theorem best_bl (l : List XL) (r least : Int) : bestC (l.map XL.bl) r least = (bestC l r least).map Tly.bl := by
  unfold bestC
  rw [tallies_bl]
  by_cases h : tallies l r least = []
  · rw [h]; rfl
  · rw [if_neg h, if_neg (by simpa using h), minBy_map (c := betC) Tly.bl (fun _ _ => rfl) (List.length_pos_iff.2 h)]
    rfl
theorem listF_bl (o : Lrn) : ∀ (n : Nat) (lf : List XL) (out : List (List Cond × List ByteArray)), listF o n (lf.map XL.bl) out = ((listF o n lf out).1.map XL.bl, (listF o n lf out).2)
  | 0, lf, out => rfl
  | n + 1, lf, out => by
    unfold listF
    rw [List.length_map, most_bl, best_bl]
    dsimp only
    split
    · split
      · rfl
      · cases bestC lf o.reach o.least with
        | none => rfl
        | some u =>
          simp only [Option.map_some]
          have h1 : ((lf.map XL.bl).filter fun e => !holdsC e.wl e.at_ u.bl.t.list) = (lf.filter fun e => !holdsC e.wl e.at_ u.t.list).map XL.bl := by
            rw [List.filter_map]; rfl
          rw [h1, listF_bl o n]; rfl
    · rfl
theorem listC_bl (l : List XL) (o : Lrn) : listC (l.map XL.bl) o = listC l o := by
  unfold listC lastC
  rw [List.length_map, listF_bl]
  simp only [List.length_map]
  congr 3
  split
  · rw [most_bl]
  · rw [most_bl]
abbrev XP := List Rn × Int × List ByteArray
def plX (e : XL) : XP := (e.wl, e.at_, e.pl)
def toXL (x : XP) : XL := ⟨default, x.2.1, default, x.1, x.2.2⟩
theorem listC_pl {l : List XL} {q : List XP} (h : l.map plX = q) (o : Lrn) : listC l o = listC (q.map toXL) o := by
  rw [← h, List.map_map, ← listC_bl]; rfl
def evAt (ws : List Rn) (ll : List (List ByteArray)) (i : Nat) : Rn × XP := (nth ws i, (ws, (i : Int), nth ll i))
def evOf (u : ByteArray × List (List ByteArray)) : List (Rn × XP) := (List.range (runes u.1).length).map fun i => evAt (runes u.1) u.2 i
def insR (acc : List Rn) (c : Rn) : List Rn := if c ∈ acc then acc else acc ++ [c]
def abcC (q : List (Rn × XP)) : List Rn := (q.map (·.1)).foldl insR []
def putR (c : Rn) : List Rn → List Rn
  | [] => [c]
  | x :: l => if c.v ≤ x.v then c :: x :: l else x :: putR c l
def sortR (l : List Rn) : List Rn := l.foldr putR []
def xsC (q : List (Rn × XP)) (c : Rn) : List XP := (q.filter fun x => decide (x.1 = c)).map (·.2)
def learnC (o : Lrn) (ents : List (ByteArray × List (List ByteArray))) : List (Int × List (List Cond × List ByteArray)) :=
  (sortR (abcC (ents.flatMap evOf))).map fun c => (c.v, listC ((xsC (ents.flatMap evOf) c).map toXL) o)
theorem abc_snoc (q : List (Rn × XP)) (x : Rn × XP) : abcC (q ++ [x]) = insR (abcC q) x.1 := by
  unfold abcC; rw [List.map_append, List.foldl_append]; rfl
theorem abc_mem (q : List (Rn × XP)) (c : Rn) : c ∈ abcC q ↔ xsC q c ≠ [] := by
  have key : ∀ q : List (Rn × XP), ∀ acc : List Rn, c ∈ (q.map (·.1)).foldl insR acc ↔ c ∈ acc ∨ xsC q c ≠ [] := by
    intro q
    induction q with
    | nil => intro acc; simp [xsC]
    | cons x q ih =>
      intro acc
      rw [List.map_cons, List.foldl_cons, ih]
      have e : xsC (x :: q) c = (if x.1 = c then [x.2] else []) ++ xsC q c := by
        unfold xsC
        by_cases h : x.1 = c <;> simp [h]
      rw [e]
      unfold insR
      by_cases h : x.1 = c
      · subst h
        by_cases h2 : x.1 ∈ acc <;> simp [h2]
      · have h3 : ¬ c = x.1 := fun e => h e.symm
        by_cases h2 : x.1 ∈ acc <;> simp [h2, h, h3]
  have := key q []
  unfold abcC
  simpa using this
theorem putR_perm (c : Rn) : ∀ l : List Rn, (putR c l).Perm (c :: l)
  | [] => .refl _
  | x :: l => by
    unfold putR
    split
    · exact .refl _
    · exact ((putR_perm c l).cons x).trans (.swap c x l)
theorem sortR_perm : ∀ l : List Rn, (sortR l).Perm l
  | [] => .refl _
  | c :: l => (putR_perm c _).trans ((sortR_perm l).cons c)
theorem putR_asc (c : Rn) : ∀ l : List Rn, l.Pairwise (fun x y => x.v ≤ y.v) → (putR c l).Pairwise fun x y => x.v ≤ y.v
  | [], _ => by simp [putR]
  | x :: l, h => by
    unfold putR
    rw [List.pairwise_cons] at h
    split
    · rename_i h1
      rw [List.pairwise_cons, List.pairwise_cons]
      refine ⟨fun y hy => ?_, h⟩
      rcases List.mem_cons.1 hy with rfl | hy
      · exact h1
      · exact Int.le_trans h1 (h.1 y hy)
    · rename_i h1
      rw [List.pairwise_cons]
      refine ⟨fun y hy => ?_, putR_asc c l h.2⟩
      rcases List.mem_cons.1 ((putR_perm c l).mem_iff.1 hy) with rfl | hy
      · omega
      · exact h.1 y hy
theorem sortR_asc : ∀ l : List Rn, (sortR l).Pairwise fun x y => x.v ≤ y.v
  | [] => .nil
  | c :: l => putR_asc c _ (sortR_asc l)
theorem asc_eq : ∀ {l m : List Rn}, l.Perm m → l.Pairwise (fun x y => x.v ≤ y.v) → m.Pairwise (fun x y => x.v ≤ y.v) → l = m
  | [], m, h, _, _ => h.nil_eq
  | x :: l, [], h, _, _ => absurd h.length_eq (by simp)
  | x :: l, y :: m, h, hl, hm => by
    rw [List.pairwise_cons] at hl hm
    have hx : x ∈ y :: m := h.mem_iff.1 (.head _)
    have hy : y ∈ x :: l := h.mem_iff.2 (.head _)
    have e : x = y := by
      rcases List.mem_cons.1 hx with e | hx
      · exact e
      · rcases List.mem_cons.1 hy with e | hy
        · exact e.symm
        · have h1 := hl.1 y hy
          have h2 := hm.1 x hx
          have h3 : x.v = y.v := by omega
          cases x; cases y; simp at h3; rw [h3]
    subst e
    rw [asc_eq (h.cons_inv) hl.2 hm.2]
theorem srt_asc {l : List Rn} (h : Srt l 0 l.length) : l.Pairwise fun x y => x.v ≤ y.v := by
  rw [List.pairwise_iff_getElem]
  intro i j hi hj hij
  have := h i j (Nat.zero_le _) hij hj
  rwa [nth_get hi, nth_get hj] at this
theorem sort_eq {l l' : List Rn} (h : l'.Perm l) (hs : Srt l' 0 l'.length) : l' = sortR l := asc_eq (h.trans (sortR_perm l).symm) (srt_asc hs) (sortR_asc l)
end Go.Proofs.YtkmbliojafefdaaGreatDoor

set_option autoImplicit false
set_option maxRecDepth 100000
namespace Go.Proofs.YtkmbliojafefdaaGreatDoor
open Go.Sx
open Enc (enc val)
instance : InfoT Tryz.prog 21 1 4 [.int .i32 0] := info_of (v := .int .i32 0) (by kernel_rfl) rfl rfl
instance : HasTy Tryz.prog 21 Rn := hasTy_cell Tryz.sizeOf21 Tryz.isAgg21 rfl (fun _ => rfl)
/-- The examples of a letter. -/
def fgX (G : List (Rn × XL)) (c : Rn) : List XL := (G.filter fun x => decide (x.1 = c)).map (·.2)
theorem fg_snoc (G : List (Rn × XL)) (x : Rn × XL) (c : Rn) : fgX (G ++ [x]) c = fgX G c ++ if x.1 = c then [x.2] else [] := by
  unfold fgX
  rw [List.filter_append, List.map_append]
  congr 1
  by_cases h : x.1 = c <;> simp [h]
theorem fg_le (G : List (Rn × XL)) (c : Rn) : (fgX G c).length ≤ G.length := by
  unfold fgX; rw [List.length_map]; exact List.length_filter_le _ _
def evG (G : List (Rn × XL)) : List (Rn × XP) := G.map fun x => (x.1, plX x.2)
theorem abc_le (q : List (Rn × XP)) : (abcC q).length ≤ q.length := by
  have key : ∀ (q : List Rn) (acc : List Rn), (q.foldl insR acc).length ≤ acc.length + q.length := by
    intro q
    induction q with
    | nil => intro acc; simp
    | cons x q ih =>
      intro acc
      rw [List.foldl_cons]
      have h := ih (insR acc x)
      have h2 : (insR acc x).length ≤ acc.length + 1 := by unfold insR; split <;> simp
      simp only [List.length_cons]; omega
  have := key (q.map (·.1)) []
  simpa [abcC] using this
theorem evG_len (G : List (Rn × XL)) : (evG G).length = G.length := by simp [evG]
theorem fg_pl (G : List (Rn × XL)) (c : Rn) : (fgX G c).map plX = xsC (evG G) c := by
  unfold fgX xsC evG
  rw [List.map_map, List.filter_map, List.map_map]
  rfl
theorem fg_nil {G : List (Rn × XL)} {c : Rn} : c ∈ abcC (evG G) ↔ fgX G c ≠ [] := by
  rw [abc_mem, ← fg_pl]
  simp
theorem fg_mem {G : List (Rn × XL)} {c : Rn} {e : XL} (h : e ∈ fgX G c) : ∃ x ∈ G, x.2 = e := by
  unfold fgX at h
  obtain ⟨x, hx, rfl⟩ := List.mem_map.1 h
  exact ⟨x, (List.mem_filter.1 hx).1, rfl⟩
/-- What entries must be. -/
structure EtyOk (u : Ety) : Prop where
  size : u.word.size ≤ 1000000
  few : (runes u.word).length ≤ 40
  len : u.sl.length = (runes u.word).length
  ok : ∀ q ∈ u.sl, q.length ≤ 1000 ∧ ∀ x ∈ q, phoneOk x = true
theorem sw_pureP {P : Program} {ops : Array Oper} {Q : Exit → Act → World → Prop} {n : Fr} {E : Env} {C : World → Prop} {l : List Oper} {p : Prop} (hp : ∀ w, C w → p) (h : p → SW P ops Q l n E C) : SW P ops Q l n E C := fun a w ha hw => h (hp w hw) a w ha hw
theorem evs_take {es : List Ety} {k : Nat} (hk : k < es.length) : ((es.take (k + 1)).map fun u => (u.word, u.sl)).flatMap evOf = ((es.take k).map fun u => (u.word, u.sl)).flatMap evOf ++ evOf ((nth es k).word, (nth es k).sl) := by
  rw [List.take_succ_eq_append_getElem hk, List.map_append, List.flatMap_append, nth_get hk]; simp
theorem evOf_take {u : ByteArray × List (List ByteArray)} {i : Nat} (hi : i < (runes u.1).length) : (evOf u).take (i + 1) = (evOf u).take i ++ [evAt (runes u.1) u.2 i] := by
  unfold evOf
  rw [List.take_succ_eq_append_getElem (by simpa using hi)]; simp
theorem evOf_len (u : ByteArray × List (List ByteArray)) : (evOf u).length = (runes u.1).length := by simp [evOf]
theorem learned_spec (sv : SlV) (es : List Ety) (o : Lrn) (ho : LrnOk o) (hn : es.length ≤ 3000) (heo : ∀ u ∈ es, EtyOk u) (h12 : (abcC ((es.map fun u => (u.word, u.sl)).flatMap evOf)).length ≤ 12) (w : World) (hs : Stb w [] (RdL sv.v es)) (hei : Stb w [] fun w' => ∀ u ∈ es, EtIn u w') :
    Calls Tryz.prog 70 #[sv.v, val o] w fun e w' => ∃ b : Bk, e = .returned (val b) ∧ (b.bl.map fun L => (L.c, L.rl.map fun u => (u.tl, u.pl))) = learnC o (es.map fun u => (u.word, u.sl)) ∧ Cl w [] [Sx.frz (BkIn b)] w' := by
  have hLn := rd_len hs.here
  refine calls_cw (vs := [_, _]) Tryz.func70 rfl Tryz.ntmps70 rfl (Cl.start0 w) (cw_seq (cw_region ?_))
  refine sw_x rfl rfl rfl (e_box rfl rfl rfl) (fun b3 => ?_)
  refine sw_x rfl rfl rfl (e_alloc rfl) (fun b4 => ?_)
  refine sw_nil (post_then (cw_seq (cw_region ?_)))
  refine sw_x rfl rfl rfl (e_makeMap (κ := Rn) (ν := SlV) rfl) (fun b15 => ?_)
  refine sr rfl rfl rfl ((q_assign rfl rfl)) (sw_nil (post_then (cw_seq (cw_region (sr rfl rfl rfl ((q_assign rfl rfl)) (sw_nil (post_then (cw_seq (cw_seq (cw_region (sr rfl rfl rfl ((q_move rfl rfl)) ?_)))))))))))
  refine sr rfl rfl rfl ((q_len rfl (.cons rfl inferInstance (.nil)) (by exact fun w hw => Stb.cl (by assumption) hw))) ?_
  refine sr rfl rfl rfl ((q_move rfl rfl)) (sw_nil (post_then (cw_block ?_)))
  refine cw_loop (S := Nat × SlV × List (Rn × XL) × List (Rn × SlV)) (fun y => [(3, [], .pointer (some ⟨b3, 0, none⟩)), (4, [], .pointer (some ⟨b4, 0, none⟩)), (5, [], .map (some b15)), (6, [], y.2.1.v), (16, [], sv.v), (17, [], .int .i64 es.length), (18, [], .int .i64 y.1)]) (fun y => Cl w [] ((ownL 21 y.2.1.v (abcC (evG y.2.2.1)) :: Sx.frz (fun w => ∀ x ∈ y.2.2.1, RdL x.2.w.v x.2.wl w) :: mpA b15 y.2.2.2 :: blk b4 (enc (default : Bk)) 45 :: blk b3 (enc o) 40 :: []) ++ rowsK 179 y.2.2.2 (fgX y.2.2.1))) (fun y => y.1 ≤ es.length ∧ (evG y.2.2.1) = ((es.take y.1).map fun u => (u.word, u.sl)).flatMap evOf ∧ y.2.2.1.length ≤ 40 * y.1 ∧ (∀ x ∈ y.2.2.1, ExOk x.2) ∧ Stb w [] (fun w' => ∀ x ∈ y.2.2.1, RdL x.2.p.v x.2.pl w') ∧ (y.2.2.2.map (·.1)).Nodup ∧ (∀ c, get? y.2.2.2 c = none ↔ fgX y.2.2.1 c = [])) (fun y => es.length - y.1) (0, ⟨none, 0, 0⟩, [], []) ⟨by simp, by simp [evG], by simp, by simp, ⟨fun w' _ x hx => by simp at hx⟩, by simp, fun c => by simp [fgX, get?]⟩ (by exact .cons rfl (.cons rfl (.cons rfl (.cons rfl (.cons rfl (.cons rfl (.cons rfl .nil))))))) (fun w' h => Cl.addNil 21 (cl_true (fun w => by simp) ((fun w h => Cl.sel (by exact .take 0 rfl (.take 0 rfl (.take 0 rfl (.nil _)))) w h) _ h))) ?_
  rintro ⟨k, sa, G, m⟩ ⟨hk, hG, hGl, hGo, hGp, hmn, hmg⟩
  dsimp only at hk hG hGl hGo hGp hmn hmg ⊢
  refine cw_seq (cw_region (sr rfl rfl rfl ((q_lss rfl rfl rfl)) (sw_nil (post_then (cw_seq ?_)))))
  refine cw_cond rfl (fun h => ?_) (fun h => ?_)
  · skip
    have hk' : k < es.length := by simp at h; omega
    obtain ⟨u, hu⟩ : ∃ u, nth es k = u := ⟨_, rfl⟩
    have hum : u ∈ es := by rw [← hu]; exact nth_mem hk'
    have huo := heo u hum
    obtain ⟨ws, hws⟩ : ∃ ws, runes u.word = ws := ⟨_, rfl⟩
    have hfew := huo.few
    have husz := huo.size
    have hlen := huo.len
    have hev := evs_take hk'
    rw [hu] at hev
    have hue : Stb w [] (EtIn u) := stb_map hei fun _ h => h u hum
    obtain ⟨vs, g1, ⟨g2, g3⟩, g4⟩ := hue.here
    have g1s := rd_stb g1
    refine cw_skip (post_then (cw_seq (cw_block (cw_seq (cw_region ?_)))))
    refine sr rfl rfl rfl ((q_indexN rfl rfl rfl (by exact fun w hw => Stb.cl (by assumption) hw) (by intro hc; omega))) ?_
    refine sr rfl rfl rfl ((q_loadEl rfl rfl rfl (by exact fun w hw => Stb.cl (by assumption) hw) (by intro hc; omega))) ?_
    rw [hu]
    refine sw_x rfl rfl rfl (e_alloc rfl) (fun b8 => ?_)
    refine sw_eff0 rfl rfl (e_store (i := 0) rfl rfl rfl rfl rfl rfl rfl rfl) (sw_nil (post_then (cw_seq (cw_region (sr rfl rfl rfl ((q_fieldAddr rfl rfl)) (sr rfl rfl rfl ((q_fieldAddr rfl rfl)) ?_))))))
    refine sr rfl rfl rfl ((q_loadC rfl rfl (by exact .head _) rfl)) ?_
    refine sw_x rfl rfl rfl (e_call (CanCall.mk Tryz.call110) rfl (.cons rfl inferInstance (.nil)) (fun w hw => letters_spec _ w (by omega))) (fun x25 => ?_)
    refine sw_imp (fun hx25 => ?_)
    refine sr rfl rfl rfl ((q_assign rfl rfl)) (sw_nil (post_then (cw_seq (cw_region (sr rfl rfl rfl ((q_move rfl rfl)) ?_)))))
    refine sr rfl rfl rfl ((q_len rfl (.cons rfl inferInstance (.nil)) (by exact fun w hw => rd_own hw (by exact .head _)))) ?_
    refine sr rfl rfl rfl ((q_move rfl rfl)) (sw_nil (post_then (cw_block ?_)))
    rw [hws] at hfew hlen ⊢
    refine cw_loop (S := Nat × SlV × List (Rn × XL) × List (Rn × SlV)) (fun y => [(3, [], .pointer (some ⟨b3, 0, none⟩)), (4, [], .pointer (some ⟨b4, 0, none⟩)), (5, [], .map (some b15)), (6, [], y.2.1.v), (8, [], .pointer (some ⟨b8, 0, none⟩)), (9, [], x25.v), (16, [], sv.v), (17, [], .int .i64 es.length), (18, [], .int .i64 k), (26, [], x25.v), (27, [], .int .i64 ws.length), (28, [], .int .i64 y.1)]) (fun y => Cl w [] ((ownL 21 y.2.1.v (abcC (evG y.2.2.1)) :: Sx.frz (fun w => (∀ x ∈ y.2.2.1, RdL x.2.w.v x.2.wl w) ∧ RdL x25.v ws w) :: mpA b15 y.2.2.2 :: blk b8 (enc u) 153 :: blk b4 (enc (default : Bk)) 45 :: blk b3 (enc o) 40 :: []) ++ rowsK 179 y.2.2.2 (fgX y.2.2.1))) (fun y => y.1 ≤ ws.length ∧ (evG y.2.2.1) = ((es.take k).map fun u => (u.word, u.sl)).flatMap evOf ++ (evOf (u.word, u.sl)).take y.1 ∧ y.2.2.1.length ≤ 40 * k + y.1 ∧ (∀ x ∈ y.2.2.1, ExOk x.2) ∧ Stb w [] (fun w' => ∀ x ∈ y.2.2.1, RdL x.2.p.v x.2.pl w') ∧ (y.2.2.2.map (·.1)).Nodup ∧ (∀ c, get? y.2.2.2 c = none ↔ fgX y.2.2.1 c = [])) (fun y => ws.length - y.1) (0, sa, G, m) ⟨by simp, by rw [hG]; simp, hGl, hGo, hGp, hmn, hmg⟩ (by exact .cons rfl (.cons rfl (.cons rfl (.cons rfl (.cons rfl (.cons rfl (.cons rfl (.cons rfl (.cons rfl (.cons rfl (.cons rfl (.cons rfl .nil)))))))))))) (fun w' h => ?_) ?_
    · have h1 : Cl w [] (ownL 21 x25.v ws :: (blk b8 (enc u) 153 :: ownL 21 sa.v (abcC (evG G)) :: Sx.frz (fun w => ∀ x ∈ G, RdL x.2.w.v x.2.wl w) :: mpA b15 m :: blk b4 (enc (default : Bk)) 45 :: blk b3 (enc o) 40 :: rowsK 179 m (fgX G))) w' := h
      have h2 : Cl w [] (Sx.frz (fun w => ∀ x ∈ G, RdL x.2.w.v x.2.wl w) :: Sx.frz (RdL x25.v ws) :: blk b8 (enc u) 153 :: ownL 21 sa.v (abcC (evG G)) :: mpA b15 m :: blk b4 (enc (default : Bk)) 45 :: blk b3 (enc o) 40 :: rowsK 179 m (fgX G)) w' := (fun w h => Cl.sel (by exact .take 3 rfl (.all _)) w h) _ h1.frzL
      have h3 : Cl w [] (ownL 21 sa.v (abcC (evG G)) :: Sx.frz (fun w => (∀ x ∈ G, RdL x.2.w.v x.2.wl w) ∧ RdL x25.v ws w) :: mpA b15 m :: blk b8 (enc u) 153 :: blk b4 (enc (default : Bk)) 45 :: blk b3 (enc o) 40 :: rowsK 179 m (fgX G)) w' := (fun w h => Cl.sel (by exact .take 2 rfl (.take 0 rfl (.take 1 rfl (.all _)))) w h) _ h2.frz2
      exact h3
    rintro ⟨i, sa, G, m⟩ ⟨hi, hG, hGl, hGo, hGp, hmn, hmg⟩
    dsimp only at hi hG hGl hGo hGp hmn hmg ⊢
    refine cw_seq (cw_region (sr rfl rfl rfl ((q_lss rfl rfl rfl)) (sw_nil (post_then (cw_seq ?_)))))
    refine cw_cond rfl (fun h2 => ?_) (fun h2 => ?_)
    · skip
      have hi' : i < ws.length := by simp at h2; omega
      obtain ⟨c, hc⟩ : ∃ c, nth ws i = c := ⟨_, rfl⟩
      have hev2 := evOf_take (u := (u.word, u.sl)) (i := i) (by rw [hws]; exact hi')
      simp only [hws] at hev2
      have hlen2 := fg_le G c
      have habl := abc_le (evG G)
      rw [evG_len] at habl
      have hvi : i < vs.length := by omega
      refine cw_skip (post_then (cw_seq (cw_block (cw_seq (cw_region (sr rfl rfl rfl ((q_move rfl rfl)) ?_))))))
      refine sr rfl rfl rfl ((q_indexN (xs := ws) rfl rfl rfl (fun w1 h1 => (rd_frz (R := fun w => (∀ x ∈ G, RdL x.2.w.v x.2.wl w) ∧ RdL x25.v ws w) h1 (by exact .tail _ (.head _))).2) (fun _ => hi'))) ?_
      refine sr rfl rfl rfl ((q_loadF (xs := ws) rfl rfl rfl (fun w1 h1 => (rd_frz (R := fun w => (∀ x ∈ G, RdL x.2.w.v x.2.wl w) ∧ RdL x25.v ws w) h1 (by exact .tail _ (.head _))).2) (fun _ => hi') rfl)) ?_
      rw [hc]
      refine sr rfl rfl rfl ((q_assign rfl rfl)) (sr rfl rfl rfl ((q_assign rfl rfl)) (sw_nil (post_then (cw_seq (cw_seq (cw_region (sr rfl rfl rfl ((q_move rfl rfl)) (sr rfl rfl rfl ((q_move rfl rfl)) ?_))))))))
      refine sr rfl rfl rfl ((q_lookup (κ := Rn) (ν := SlV) (k := c) rfl rfl rfl (by exact fun w hw => rdm_own hw (by exact .tail _ (.tail _ (.head _)))))) ?_
      refine sw_pureP (p := (getZ (⟨none, 0, 0⟩ : SlV) m c).addr.isNone = decide (fgX G c = [])) (fun w1 h1 => ?_) fun hnil => ?_
      · show (getZ (default : SlV) m c).addr.isNone = _
        have h3 := open_row (H := ownL 21 sa.v (abcC (evG G)) :: Sx.frz (fun w => (∀ x ∈ G, RdL x.2.w.v x.2.wl w) ∧ RdL x25.v ws w) :: mpA b15 m :: blk b8 (enc u) 153 :: blk b4 (enc (default : Bk)) 45 :: blk b3 (enc o) 40 :: []) hmn (fun h => (hmg c).1 h) h1
        by_cases hg : fgX G c = []
        · have h4 := (hmg c).2 hg
          have : (getZ (default : SlV) m c) = default := by unfold getZ; rw [h4]; rfl
          rw [this, decide_eq_true hg]; rfl
        · rw [decide_eq_false hg]
          cases ha : (getZ (default : SlV) m c).addr with
          | some a => rfl
          | none => exact absurd (rd_nil (rd_own h3 (.head _)) ha) hg
      refine sr rfl rfl rfl ((q_eqlNil rfl rfl)) (sw_nil (post_then ?_))
      rw [hnil]
      have hcm : c ∈ abcC (evG G) ↔ fgX G c ≠ [] := fg_nil
      refine cw_cut (S := SlV) (fun y => [(3, [], .pointer (some ⟨b3, 0, none⟩)), (4, [], .pointer (some ⟨b4, 0, none⟩)), (5, [], .map (some b15)), (6, [], y.v), (8, [], .pointer (some ⟨b8, 0, none⟩)), (9, [], x25.v), (10, [], .int .i64 i), (11, [], .int .i32 c.v), (16, [], sv.v), (17, [], .int .i64 es.length), (18, [], .int .i64 k), (26, [], x25.v), (27, [], .int .i64 ws.length), (28, [], .int .i64 i)]) (fun y => Cl w [] ((ownL 21 y.v (insR (abcC (evG G)) c) :: Sx.frz (fun w => (∀ x ∈ G, RdL x.2.w.v x.2.wl w) ∧ RdL x25.v ws w) :: mpA b15 m :: blk b8 (enc u) 153 :: blk b4 (enc (default : Bk)) 45 :: blk b3 (enc o) 40 :: []) ++ rowsK 179 m (fgX G))) (fun _ => True) ?_ ?_
      · refine cw_cond rfl (fun h3 => ?_) (fun h3 => ?_)
        · skip
          have h4 : insR (abcC (evG G)) c = abcC (evG G) ++ [c] := by
            unfold insR; rw [if_neg]
            rw [hcm]; simpa using h3
          refine cw_region (sr rfl rfl rfl ((q_move rfl rfl)) (sr rfl rfl rfl ((q_move rfl rfl)) ?_))
          refine sw_x rfl rfl rfl (e_buildL (α := Rn) (l := [c]) rfl (.cons rfl inferInstance (.nil)) rfl rfl rfl rfl) (fun s39 => ?_)
          refine sw_x rfl rfl rfl (e_append (i := 1) rfl (.cons rfl inferInstance (.cons rfl inferInstance (.nil))) rfl rfl (by exact fun w hw => rd_own hw (by exact .head _)) (by first | omega | (simp only [List.length_set, List.length_append, List.length_cons, List.length_nil, List.length_replicate, List.length_take, List.length_drop, List.length_map]; omega)) rfl) (fun s40 => ?_)
          refine sr rfl rfl rfl ((q_assign rfl rfl)) (sw_nil ?_)
          exact post_meet s40 (by exact .cons rfl (.cons rfl (.cons rfl (.cons rfl (.cons rfl (.cons rfl (.cons rfl (.cons rfl (.cons rfl (.cons rfl (.cons rfl (.cons rfl (.cons rfl (.cons rfl .nil)))))))))))))) (fun w' h => by rw [h4]; exact h.tail) trivial
        · skip
          have h4 : insR (abcC (evG G)) c = abcC (evG G) := by
            unfold insR; rw [if_pos]
            rw [hcm]; simpa using h3
          refine cw_skip ?_
          exact post_meet sa (by exact .cons rfl (.cons rfl (.cons rfl (.cons rfl (.cons rfl (.cons rfl (.cons rfl (.cons rfl (.cons rfl (.cons rfl (.cons rfl (.cons rfl (.cons rfl (.cons rfl .nil)))))))))))))) (fun w' h => by rw [h4]; exact h) trivial
      rintro sa2 -
      refine post_then ?_
      dsimp only
      refine cw_c (C' := Cl w [] (ownL 179 (getZ (default : SlV) m c).v (fgX G c) :: ownL 21 sa2.v (insR (abcC (evG G)) c) :: Sx.frz (fun w => (∀ x ∈ G, RdL x.2.w.v x.2.wl w) ∧ RdL x25.v ws w) :: mpA b15 m :: blk b8 (enc u) 153 :: blk b4 (enc (default : Bk)) 45 :: blk b3 (enc o) 40 :: rowsK 179 (eraseK m c) (fgX G))) (fun w' h => open_row hmn (fun h => (hmg c).1 h) h) (cw_region_a (Cl w [] [mpA b15 m, blk b8 (enc u) 153]) [15] mixed_Tryz ?_)
      refine aw_pure 0 rfl (by kernel_rfl) (by kernel_rfl) (by kernel_rfl) (by kernel_rfl) (by kernel_rfl) rfl rfl rfl (q_move rfl rfl) ?_
      refine aw_pure 1 rfl (by kernel_rfl) (by kernel_rfl) (by kernel_rfl) (by kernel_rfl) (by kernel_rfl) rfl rfl rfl (q_move rfl rfl) ?_
      refine aw_pure 2 rfl (by kernel_rfl) (by kernel_rfl) (by kernel_rfl) (by kernel_rfl) (by kernel_rfl) rfl rfl rfl (q_move rfl rfl) ?_
      refine aw_pure 3 rfl (by kernel_rfl) (by kernel_rfl) (by kernel_rfl) (by kernel_rfl) (by kernel_rfl) rfl rfl rfl (q_move rfl rfl) ?_
      refine aw_pure 5 rfl (by kernel_rfl) (by kernel_rfl) (by kernel_rfl) (by kernel_rfl) (by kernel_rfl) rfl rfl rfl (q_move rfl rfl) ?_
      refine aw_pure 6 rfl (by kernel_rfl) (by kernel_rfl) (by kernel_rfl) (by kernel_rfl) (by kernel_rfl) rfl rfl rfl (q_move rfl rfl) ?_
      refine aw_take 7 (fun w h => Cl.sel (by exact .take 3 rfl (.take 3 rfl (.nil _))) w h) rfl (by kernel_rfl) (by kernel_rfl) (by kernel_rfl) (by kernel_rfl) (by kernel_rfl) (by kernel_rfl) rfl rfl rfl (q_fieldAddr rfl rfl) ?_
      refine aw_take 8 (fun w h => Cl.sel (by exact .take 3 rfl (.take 3 rfl (.nil _))) w h) rfl (by kernel_rfl) (by kernel_rfl) (by kernel_rfl) (by kernel_rfl) (by kernel_rfl) (by kernel_rfl) rfl rfl rfl (q_loadC rfl rfl (by exact .tail _ (.head _)) rfl) ?_
      refine aw_pure 9 rfl (by kernel_rfl) (by kernel_rfl) (by kernel_rfl) (by kernel_rfl) (by kernel_rfl) rfl rfl rfl (q_move rfl rfl) ?_
      refine aw_take 10 (fun w h => Cl.sel (by exact .take 3 rfl (.take 3 rfl (.nil _))) w h) rfl (by kernel_rfl) (by kernel_rfl) (by kernel_rfl) (by kernel_rfl) (by kernel_rfl) (by kernel_rfl) rfl rfl rfl (q_indexN rfl rfl rfl (by exact fun w hw => Stb.cl (by assumption) hw) (by intro hc; omega)) ?_
      refine aw_take 11 (fun w h => Cl.sel (by exact .take 3 rfl (.take 3 rfl (.nil _))) w h) rfl (by kernel_rfl) (by kernel_rfl) (by kernel_rfl) (by kernel_rfl) (by kernel_rfl) (by kernel_rfl) rfl rfl rfl (q_loadEl rfl rfl rfl (by exact fun w hw => Stb.cl (by assumption) hw) (by intro hc; omega)) ?_
      refine aw_pure 12 rfl (by kernel_rfl) (by kernel_rfl) (by kernel_rfl) (by kernel_rfl) (by kernel_rfl) rfl rfl rfl (q_build rfl (.cons rfl inferInstance (.cons rfl inferInstance (.cons rfl inferInstance (.nil)))) rfl) ?_
      refine aw_take 4 (fun w h => Cl.sel (by exact .take 3 rfl (.take 3 rfl (.nil _))) w h) rfl (by kernel_rfl) (by kernel_rfl) (by kernel_rfl) (by kernel_rfl) (by kernel_rfl) (by kernel_rfl) rfl rfl rfl (q_lookup (κ := Rn) (ν := SlV) (k := c) rfl rfl rfl (by exact fun w hw => rdm_own hw (by exact .head _))) ?_
      refine aw_x 13 (by kernel_rfl) rfl rfl rfl rfl (e_buildL (α := XL) (l := [⟨x25, i, nth vs i, ws, nth u.sl i⟩]) rfl (.cons rfl inferInstance (.nil)) rfl rfl rfl rfl) (by intro hb; exact fun _ => (fun w h => Cl.sel (by exact .take 4 rfl (.take 4 rfl (.nil _))) w h)) (fun s54 => ?_)
      refine aw_x 14 (by kernel_rfl) rfl rfl rfl rfl (e_append (i := 1) rfl (.cons rfl inferInstance (.cons rfl inferInstance (.nil))) rfl rfl (by exact fun w hw => rd_own hw (by exact .head _)) (by first | omega | (simp only [List.length_set, List.length_append, List.length_cons, List.length_nil, List.length_replicate, List.length_take, List.length_drop, List.length_map]; omega)) rfl) (by intro hb; exact fun _ => (fun w h => Cl.sel (by exact .take 4 rfl (.take 4 rfl (.nil _))) w h)) (fun s55 => ?_)
      refine aw_one0 15 (by kernel_rfl) rfl rfl rfl (e_mapUpdate (κ := Rn) (ν := SlV) (i := 4) (.inl rfl) rfl rfl rfl rfl) (by intro hb; (exact absurd hb (by decide))) ?_
      refine aw_end (by kernel_rfl) ?_
      refine post_blk (post_then (cw_region ?_))
      refine sr rfl rfl rfl ((q_add rfl rfl rfl (by intro hc; omega))) ?_
      refine sr rfl rfl rfl ((q_move rfl rfl)) (sw_nil ?_)
      have hXp : Stb w [] (RdL (nth vs i).v (nth u.sl i)) := rd_stb (g3 i (by omega))
      have hXs : SpotOk (nth vs i) := g4 _ (nth_mem hvi)
      have hXo := huo.ok _ (nth_mem (l := u.sl) (i := i) (by omega))
      obtain ⟨X, hX⟩ : ∃ X : XL, (⟨x25, (i : Int), nth vs i, ws, nth u.sl i⟩ : XL) = X := ⟨_, rfl⟩
      rw [hX]
      have hXok : ExOk X := by rw [← hX]; exact ⟨hXs, hXo.1, hXo.2, by simp only; omega⟩
      have hXpl : RdL X.w.v X.wl = RdL x25.v ws := by rw [← hX]
      have hXpp : Stb w [] (RdL X.p.v X.pl) := by rw [← hX]; exact hXp
      have hXev : (c, plX X) = evAt ws u.sl i := by rw [← hX]; unfold evAt; rw [hc]; rfl
      have hev3 : evG (G ++ [(c, X)]) = evG G ++ [evAt ws u.sl i] := by rw [← hXev]; simp [evG]
      have hab : abcC (evG (G ++ [(c, X)])) = insR (abcC (evG G)) c := by rw [hev3, abc_snoc]; unfold evAt; rw [hc]
      refine post_next (i + 1, sa2, G ++ [(c, X)], upd m c s55) (by exact .cons rfl (.cons rfl (.cons rfl (.cons rfl (.cons rfl (.cons rfl (.cons rfl (.cons rfl (.cons rfl (.cons rfl (.cons rfl (.cons rfl .nil)))))))))))) (fun w' h => ?_) ⟨by simp only; omega, ?_, ?_, ?_, ?_, ?_, fun c' => ?_⟩ (by simp only; omega)
      · have h1 : Cl w [] (ownL 179 s55.v (fgX G c ++ [X]) :: ((ownL 21 sa2.v (insR (abcC (evG G)) c) :: Sx.frz (fun w => (∀ x ∈ G, RdL x.2.w.v x.2.wl w) ∧ RdL x25.v ws w) :: mpA b15 (upd m c s55) :: blk b8 (enc u) 153 :: blk b4 (enc (default : Bk)) 45 :: blk b3 (enc o) 40 :: []) ++ rowsK 179 (eraseK m c) (fgX G))) w' := h.tail
        have h2 := shut_row (f' := fgX (G ++ [(c, X)])) hmn (fun k' hk' => by rw [fg_snoc, if_neg (fun e => hk' e.symm), List.append_nil]) (by rw [fg_snoc, if_pos rfl]) h1
        have h3 : Cl w [] (Sx.frz (fun w => (∀ x ∈ G, RdL x.2.w.v x.2.wl w) ∧ RdL x25.v ws w) :: ownL 21 sa2.v (insR (abcC (evG G)) c) :: mpA b15 (upd m c s55) :: blk b8 (enc u) 153 :: blk b4 (enc (default : Bk)) 45 :: blk b3 (enc o) 40 :: rowsK 179 (upd m c s55) (fgX (G ++ [(c, X)]))) w' := (fun w h => Cl.sel (by exact .take 1 rfl (.all _)) w h) _ h2
        have h4 := Cl.frzM (R' := fun w => (∀ x ∈ G ++ [(c, X)], RdL x.2.w.v x.2.wl w) ∧ RdL x25.v ws w) h3 (fun w hh => ⟨fun x hx => by
          rcases List.mem_append.1 hx with hx | hx
          · exact hh.1 x hx
          · simp at hx; subst hx; rw [hXpl]; exact hh.2, hh.2⟩)
        simp only
        rw [hab]
        have h5 : Cl w [] (ownL 21 sa2.v (insR (abcC (evG G)) c) :: Sx.frz (fun w => (∀ x ∈ G ++ [(c, X)], RdL x.2.w.v x.2.wl w) ∧ RdL x25.v ws w) :: mpA b15 (upd m c s55) :: blk b8 (enc u) 153 :: blk b4 (enc (default : Bk)) 45 :: blk b3 (enc o) 40 :: rowsK 179 (upd m c s55) (fgX (G ++ [(c, X)]))) w' := (fun w h => Cl.sel (by exact .take 1 rfl (.all _)) w h) _ h4
        exact h5
      · simp only
        rw [hev3, hev2, ← List.append_assoc, ← hG]
      · simp only [List.length_append, List.length_cons, List.length_nil]; omega
      · intro x hx
        rcases List.mem_append.1 hx with hx | hx
        · exact hGo x hx
        · simp at hx; subst hx; exact hXok
      · exact ⟨fun w' k x hx => by
          rcases List.mem_append.1 hx with hx | hx
          · exact hGp.stb w' k x hx
          · simp at hx; subst hx; exact hXpp.stb w' k⟩
      · exact upd_nodup _ _ _ hmn
      · simp only
        rw [get?_upd, fg_snoc]
        by_cases hcc : c' = c
        · subst hcc; simp
        · rw [if_neg hcc, if_neg (fun e => hcc e.symm), List.append_nil]; exact hmg c'
    · skip
      have hi' : i = ws.length := by simp at h2; omega
      subst hi'
      rw [List.take_of_length_le (l := evOf (u.word, u.sl)) (by rw [evOf_len, hws]; exact Nat.le_refl _), ← hev] at hG
      refine cw_exit (post_then_x (post_then_x (post_blk_eq (post_blk (post_then (cw_region ?_))))))
      refine sr rfl rfl rfl ((q_add rfl rfl rfl (by intro hc; omega))) ?_
      refine sr rfl rfl rfl ((q_move rfl rfl)) (sw_nil ?_)
      refine post_next (k + 1, sa, G, m) (by exact .cons rfl (.cons rfl (.cons rfl (.cons rfl (.cons rfl (.cons rfl (.cons rfl .nil))))))) (fun w' h => ?_) ⟨by simp only; omega, hG, by simp only; omega, hGo, hGp, hmn, hmg⟩ (by simp only; omega)
      have h1 : Cl w [] (Sx.frz (fun w => (∀ x ∈ G, RdL x.2.w.v x.2.wl w) ∧ RdL x25.v ws w) :: ownL 21 sa.v (abcC (evG G)) :: mpA b15 m :: blk b4 (enc (default : Bk)) 45 :: blk b3 (enc o) 40 :: blk b8 (enc u) 153 :: rowsK 179 m (fgX G)) w' := (fun w h => Cl.sel (by exact .take 1 rfl (.take 0 rfl (.take 0 rfl (.take 1 rfl (.take 1 rfl (.all _)))))) w h) _ h
      have h2 := Cl.frzM (R' := fun w => ∀ x ∈ G, RdL x.2.w.v x.2.wl w) h1 (fun w hh => hh.1)
      have h3 : Cl w [] (blk b8 (enc u) 153 :: ownL 21 sa.v (abcC (evG G)) :: Sx.frz (fun w => ∀ x ∈ G, RdL x.2.w.v x.2.wl w) :: mpA b15 m :: blk b4 (enc (default : Bk)) 45 :: blk b3 (enc o) 40 :: rowsK 179 m (fgX G)) w' := (fun w h => Cl.sel (by exact .take 5 rfl (.take 1 rfl (.all _))) w h) _ h2
      exact h3.tail
  · skip
    have hk' : k = es.length := by simp at h; omega
    subst hk'
    rw [List.take_length] at hG
    have hG2 : evG G = (es.map fun u => (u.word, u.sl)).flatMap evOf := hG
    rw [← hG2] at h12
    refine cw_c (C' := Cl w [] [ownL 21 sa.v (abcC (evG G)), Sx.frz (fun w => ∀ x ∈ G, RdL x.2.w.v x.2.wl w), mpA b15 m, blk b4 (enc (default : Bk)) 45, blk b3 (enc o) 40, Sx.frz (fun w => ∀ kv ∈ m, RdL kv.2.v (fgX G kv.1) w)]) (fun w' h => rowsK_frz (H := [ownL 21 sa.v (abcC (evG G)), Sx.frz (fun w => ∀ x ∈ G, RdL x.2.w.v x.2.wl w), mpA b15 m, blk b4 (enc (default : Bk)) 45, blk b3 (enc o) 40]) h) (cw_exit (post_then_x (post_then_x (post_blk_eq (post_then (cw_seq (cw_region (sr rfl rfl rfl ((q_move rfl rfl)) ?_))))))))
    refine sw_x rfl rfl rfl (e_callH (A := [ownL 21 sa.v (abcC (evG G))]) (CanCall.mk Tryz.call118) rfl rfl (.cons rfl inferInstance (.nil)) (.refl _) (fun w1 bs h1 h2 h3 _ _ => sort12_spec sa (abcC (evG G)) h12 w1 bs h1 h2 h3)) (fun ab => ?_)
    refine sw_imp fun hab => ?_
    have habl := hab.1.perm.length_eq
    have habs : ab = sortR (abcC (evG G)) := sort_eq hab.1.perm (by rw [habl]; exact hab.2)
    refine sw_nil (post_then (cw_seq (cw_region ?_)))
    refine sw_x rfl rfl rfl (e_alloc rfl) (fun b12 => ?_)
    refine sw_nil (post_then (cw_seq (cw_seq (cw_region (sr rfl rfl rfl ((q_move rfl rfl)) ?_)))))
    refine sr rfl rfl rfl ((q_len rfl (.cons rfl inferInstance (.nil)) (by exact fun w hw => rd_own hw (by exact .tail _ (.head _))))) ?_
    refine sr rfl rfl rfl ((q_move rfl rfl)) (sw_nil (post_then (cw_block ?_)))
    refine cw_loop (S := Nat × SlV × List Let) (fun y => [(3, [], .pointer (some ⟨b3, 0, none⟩)), (4, [], .pointer (some ⟨b4, 0, none⟩)), (5, [], .map (some b15)), (12, [], .pointer (some ⟨b12, 0, none⟩)), (60, [], sa.v), (61, [], .int .i64 ab.length), (62, [], .int .i64 y.1)]) (fun y => Cl w [] [ownL 61 y.2.1.v y.2.2, Sx.frz (fun w => ∀ L ∈ y.2.2, LetIn L w), blk b12 [y.2.1.v] 45, ownL 21 sa.v ab, Sx.frz (fun w => ∀ x ∈ G, RdL x.2.w.v x.2.wl w), mpA b15 m, blk b4 (enc (default : Bk)) 45, blk b3 (enc o) 40, Sx.frz (fun w => ∀ kv ∈ m, RdL kv.2.v (fgX G kv.1) w)]) (fun y => y.1 ≤ ab.length ∧ (y.2.2.map fun L => (L.c, L.rl.map fun u => (u.tl, u.pl))) = (ab.take y.1).map fun c => (c.v, listC ((xsC (evG G) c).map toXL) o)) (fun y => ab.length - y.1) (0, ⟨none, 0, 0⟩, []) ⟨by simp, by simp⟩ (by exact .cons rfl (.cons rfl (.cons rfl (.cons rfl (.cons rfl (.cons rfl (.cons rfl .nil))))))) (fun w' h => Cl.addNil 61 (cl_true (fun w => by simp) h)) ?_
    rintro ⟨j, so, out⟩ ⟨hj, hout⟩
    dsimp only at hj hout ⊢
    have hol : out.length ≤ 12 := by
      have h1 := congrArg List.length hout
      simp only [List.length_map, List.length_take] at h1; omega
    refine cw_seq (cw_region (sr rfl rfl rfl ((q_lss rfl rfl rfl)) (sw_nil (post_then (cw_seq ?_)))))
    refine cw_cond rfl (fun h2 => ?_) (fun h2 => ?_)
    · skip
      have hj' : j < ab.length := by simp at h2; omega
      obtain ⟨c, hc⟩ : ∃ c, nth ab j = c := ⟨_, rfl⟩
      have hcm : fgX G c ≠ [] := by
        rw [← fg_nil]
        exact hab.1.perm.mem_iff.1 (by rw [← hc]; exact nth_mem hj')
      obtain ⟨s, hgs⟩ : ∃ s, get? m c = some s := by
        cases hg : get? m c with
        | none => exact absurd ((hmg c).1 hg) hcm
        | some s => exact ⟨s, rfl⟩
      have hgz : getZ (⟨none, 0, 0⟩ : SlV) m c = s := by unfold getZ; rw [hgs]; rfl
      have hmem : (c, s) ∈ m := (get?_mem hmn).1 hgs
      have hfl := fg_le G c
      have hfo : ∀ e ∈ fgX G c, ExOk e := fun e he => by
        obtain ⟨x, hx, rfl⟩ := fg_mem he
        exact hGo x hx
      have hrd : ∀ (H : List Asn) w1, Cl w [] H w1 → Sx.frz (fun w => ∀ kv ∈ m, RdL kv.2.v (fgX G kv.1) w) ∈ H → Stb w1 [] (RdL s.v (fgX G c)) := fun H w1 hw hm => (stb_frz hw hm).mono fun w2 h4 => h4 (c, s) hmem
      have hin2 : ∀ (H : List Asn) w1, Cl w [] H w1 → Sx.frz (fun w => ∀ x ∈ G, RdL x.2.w.v x.2.wl w) ∈ H → Stb w1 [] (fun w' => ∀ u ∈ fgX G c, ExIn u w') := fun H w1 hw hm => ⟨fun w2 k u hu => by
        obtain ⟨x, hx, rfl⟩ := fg_mem hu
        exact ⟨(stb_frz hw hm).stb w2 k x hx, (stb_arg hw hGp).stb w2 k x hx⟩⟩
      refine cw_skip (post_then (cw_seq (cw_block (cw_seq (cw_region ?_)))))
      refine sr rfl rfl rfl ((q_indexN rfl rfl rfl (by exact fun w hw => rd_own hw (by exact .tail _ (.tail _ (.tail _ (.head _))))) (by intro hc; omega))) ?_
      refine sr rfl rfl rfl ((q_loadEl rfl rfl rfl (by exact fun w hw => rd_own hw (by exact .tail _ (.tail _ (.tail _ (.head _))))) (by intro hc; omega))) ?_
      refine sr rfl rfl rfl ((q_assign rfl rfl)) (sw_nil (post_then ?_))
      rw [hc]
      refine cw_region_a (Cl w [] [blk b12 [so.v] 45, mpA b15 m, blk b3 (enc o) 40]) [12] mixed_Tryz ?_
      refine aw_take 0 (fun w h => Cl.sel (by exact .take 2 rfl (.take 4 rfl (.take 5 rfl (.nil _)))) w h) rfl (by kernel_rfl) (by kernel_rfl) (by kernel_rfl) (by kernel_rfl) (by kernel_rfl) (by kernel_rfl) rfl rfl rfl (q_fieldAddr rfl rfl) ?_
      refine aw_take 1 (fun w h => Cl.sel (by exact .take 2 rfl (.take 4 rfl (.take 5 rfl (.nil _)))) w h) rfl (by kernel_rfl) (by kernel_rfl) (by kernel_rfl) (by kernel_rfl) (by kernel_rfl) (by kernel_rfl) rfl rfl rfl (q_loadC rfl rfl (by exact .head _) rfl) ?_
      refine aw_pure 2 rfl (by kernel_rfl) (by kernel_rfl) (by kernel_rfl) (by kernel_rfl) (by kernel_rfl) rfl rfl rfl (q_move rfl rfl) ?_
      refine aw_pure 3 rfl (by kernel_rfl) (by kernel_rfl) (by kernel_rfl) (by kernel_rfl) (by kernel_rfl) rfl rfl rfl (q_move rfl rfl) ?_
      refine aw_pure 4 rfl (by kernel_rfl) (by kernel_rfl) (by kernel_rfl) (by kernel_rfl) (by kernel_rfl) rfl rfl rfl (q_move rfl rfl) ?_
      refine aw_take 6 (fun w h => Cl.sel (by exact .take 2 rfl (.take 4 rfl (.take 5 rfl (.nil _)))) w h) rfl (by kernel_rfl) (by kernel_rfl) (by kernel_rfl) (by kernel_rfl) (by kernel_rfl) (by kernel_rfl) rfl rfl rfl (q_loadA rfl rfl (by exact .tail _ (.tail _ (.head _))) rfl) ?_
      refine aw_take 5 (fun w h => Cl.sel (by exact .take 2 rfl (.take 4 rfl (.take 5 rfl (.nil _)))) w h) rfl (by kernel_rfl) (by kernel_rfl) (by kernel_rfl) (by kernel_rfl) (by kernel_rfl) (by kernel_rfl) rfl rfl rfl (q_lookup (κ := Rn) (ν := SlV) (k := c) rfl rfl rfl (by exact fun w hw => rdm_own hw (by exact .tail _ (.head _)))) ?_
      rw [hgz]
      refine aw_x 7 (by kernel_rfl) rfl rfl rfl rfl (e_call (CanCall.mk Tryz.call119) rfl (.cons rfl inferInstance (.cons rfl inferInstance (.nil))) (fun w1 hw => list119_spec s (fgX G c) o ho (by omega) hfo w1 (hrd _ w1 hw (by exact .tail _ (.tail _ (.tail _ (.tail _ (.tail _ (.tail _ (.tail _ (.tail _ (.head _)))))))))) (hin2 _ w1 hw (by exact .tail _ (.tail _ (.tail _ (.tail _ (.head _)))))))) (by intro hb; exact fun _ w h => (fun w h => Cl.sel (by exact .take 3 rfl (.take 5 rfl (.take 6 rfl (.nil _)))) w h) w h.2) (fun y73 => ?_)
      refine aw_imp fun hy => ?_
      refine aw_pure 8 rfl (by kernel_rfl) (by kernel_rfl) (by kernel_rfl) (by kernel_rfl) (by kernel_rfl) rfl rfl rfl (q_build rfl (.cons rfl inferInstance (.cons rfl inferInstance (.nil))) rfl) ?_
      refine aw_x 9 (by kernel_rfl) rfl rfl rfl rfl (e_buildL (α := Let) (l := [⟨c.v, y73.1, y73.2⟩]) rfl (.cons rfl inferInstance (.nil)) rfl rfl rfl rfl) (by intro hb; exact fun _ => (fun w h => Cl.sel (by exact .take 4 rfl (.take 6 rfl (.take 7 rfl (.nil _)))) w h)) (fun s75 => ?_)
      refine aw_x 10 (by kernel_rfl) rfl rfl rfl rfl (e_append (i := 2) rfl (.cons rfl inferInstance (.cons rfl inferInstance (.nil))) rfl rfl (by exact fun w hw => rd_own hw (by exact .head _)) (by first | omega | (simp only [List.length_set, List.length_append, List.length_cons, List.length_nil, List.length_replicate, List.length_take, List.length_drop, List.length_map]; omega)) rfl) (by intro hb; exact fun _ => (fun w h => Cl.sel (by exact .take 4 rfl (.take 6 rfl (.take 7 rfl (.nil _)))) w h)) (fun s76 => ?_)
      refine aw_take 11 (fun w h => Cl.sel (by exact .take 4 rfl (.take 6 rfl (.take 7 rfl (.nil _)))) w h) rfl (by kernel_rfl) (by kernel_rfl) (by kernel_rfl) (by kernel_rfl) (by kernel_rfl) (by kernel_rfl) rfl rfl rfl (q_fieldAddr rfl rfl) ?_
      refine aw_one0 12 (by kernel_rfl) rfl rfl rfl (e_store (i := 4) rfl rfl rfl rfl rfl rfl rfl rfl) (by intro hb; (exact absurd hb (by decide))) ?_
      refine aw_end (by kernel_rfl) ?_
      refine post_blk (post_then (cw_region ?_))
      refine sr rfl rfl rfl ((q_add rfl rfl rfl (by intro hc; omega))) ?_
      refine sr rfl rfl rfl ((q_move rfl rfl)) (sw_nil ?_)
      refine post_next (j + 1, s76, out ++ [⟨c.v, y73.1, y73.2⟩]) (by exact .cons rfl (.cons rfl (.cons rfl (.cons rfl (.cons rfl (.cons rfl (.cons rfl .nil))))))) (fun w' h => ?_) ⟨by simp only; omega, ?_⟩ (by simp only; omega)
      · have h1 : Cl w [] ([Sx.frz (fun w => RdL y73.1.v y73.2 w ∧ ∀ u ∈ y73.2, ChcIn u w), Sx.frz (fun w => ∀ L ∈ out, LetIn L w)] ++ [ownL 61 s76.v (out ++ [⟨c.v, y73.1, y73.2⟩]), blk b12 [s76.v] 45, ownL 21 sa.v ab, Sx.frz (fun w => ∀ x ∈ G, RdL x.2.w.v x.2.wl w), mpA b15 m, blk b4 (enc (default : Bk)) 45, blk b3 (enc o) 40, Sx.frz (fun w => ∀ kv ∈ m, RdL kv.2.v (fgX G kv.1) w)]) w' := (fun w h => Cl.sel (by exact .take 1 rfl (.take 2 rfl (.take 1 rfl (.take 1 rfl (.take 1 rfl (.take 1 rfl (.take 1 rfl (.take 1 rfl (.take 1 rfl (.take 1 rfl (.nil _))))))))))) w h) _ h
        have h2 := Cl.frz (R := fun w => ∀ q ∈ out ++ [⟨c.v, y73.1, y73.2⟩], LetIn q w) h1 fun w bs ⟨b1, _, _, k1, b2, _, _, k2, _⟩ q hq => by
          rcases List.mem_append.1 hq with hq | hq
          · exact frz_here k2 q hq
          · simp at hq; subst hq; exact frz_here k1
        exact (fun w h => Cl.sel (by exact .take 1 rfl (.take 0 rfl (.take 0 rfl (.take 0 rfl (.take 0 rfl (.take 0 rfl (.take 0 rfl (.take 0 rfl (.take 0 rfl (.nil _)))))))))) w h) _ h2
      · simp only
        rw [List.map_append, hout, List.take_succ_eq_append_getElem hj', List.map_append, ← nth_get hj', hc]
        congr 1
        simp only [List.map_cons, List.map_nil]
        rw [hy, listC_pl (fg_pl G c)]
    · skip
      have hj' : j = ab.length := by simp at h2; omega
      subst hj'
      rw [List.take_length] at hout
      refine cw_exit (post_then_x (post_then_x (post_blk_eq (post_then (cw_seq (cw_region ?_))))))
      refine sr rfl rfl rfl ((q_loadA rfl rfl (by exact .tail _ (.tail _ (.head _))) rfl)) ?_
      refine sw_eff0 rfl rfl (e_store (i := 6) rfl rfl rfl rfl rfl rfl rfl rfl) (sw_nil (post_then (cw_ret ?_)))
      refine post_ret1 rfl (resOk_blk (x := (⟨so, out⟩ : Bk)) rfl (by exact .tail _ (.tail _ (.tail _ (.tail _ (.tail _ (.tail _ (.head _))))))) (by rfl)) ?_
      refine fun w' h => ⟨⟨so, out⟩, rfl, ?_, ?_⟩
      · simp only
        rw [hout, habs, hG2]; rfl
      · have h1 : Cl w [] ([ownL 61 so.v out, Sx.frz (fun w => ∀ L ∈ out, LetIn L w)] ++ []) w' := (fun w h => Cl.sel (by exact .take 0 rfl (.take 0 rfl (.nil _))) w h) _ h
        exact Cl.frz h1 fun w bs ⟨b1, _, _, k1, b2, _, _, k2, _⟩ => ⟨ownL.rd k1, frz_here k2⟩
end Go.Proofs.YtkmbliojafefdaaGreatDoor

set_option autoImplicit false
set_option maxRecDepth 100000
namespace Go.Proofs.YtkmbliojafefdaaGreatDoor
open Go.Sx
open Enc (enc val)
theorem ent_ok {p : List Pr} {l : List Sp} (hsz : ∀ u ∈ l, u.word.size ≤ 1000000) (hl0 : lexE l = 0) (hp0 : prsE p = 0) {es : List Ety} (h : (es.map fun u => (u.word, u.sl)) = entC p l) : es.length ≤ 3000 ∧ ∀ u ∈ es, EtyOk u := by
  obtain ⟨z1, z2, z3, z4, z5⟩ := prsE_zero hp0
  have hl1 : l.length ≤ 3000 ∧ ∀ u ∈ l, spOk u = true := by
    unfold lexE at hl0
    split at hl0
    · cases hl0
    · split at hl0
      · rename_i h1 h2
        simp only [Bool.and_eq_true, List.all_eq_true] at h2
        exact ⟨by omega, h2.2⟩
      · cases hl0
  refine ⟨?_, fun u hu => ?_⟩
  · have h1 := ent_le p l
    rw [← h, List.length_map] at h1; omega
  · have h1 : (u.word, u.sl) ∈ entC p l := by rw [← h]; exact List.mem_map.2 ⟨u, hu, rfl⟩
    unfold entC at h1
    obtain ⟨x, hx, he⟩ := List.mem_map.1 h1
    obtain ⟨hx1, hx2⟩ := List.mem_filter.1 hx
    have e1 : x.word = u.word := congrArg Prod.fst he
    have e2 : alP p x.word x.pl = u.sl := congrArg Prod.snd he
    have hxo := hl1.2 x hx1
    have h3 : wordOk x.word = true ∧ phonesOk x.pl 120 = true := by simpa [spOk] using hxo
    have hrl : (runes x.word).length ≤ 40 := by have := h3.1; simp [wordOk] at this; omega
    have h4 : 0 ≤ leastC p (runes x.word) x.pl := by unfold alOk at hx2; simpa using hx2
    have h5 := path_ok h4
    have h6 : alP p x.word x.pl = pathC p (runes x.word) x.pl := by unfold alP; rw [if_pos hx2]
    refine ⟨by rw [← e1]; exact hsz x hx1, by rw [← e1]; exact hrl, by rw [← e1, ← e2, h6, h5.1], fun q hq => ?_⟩
    rw [← e2, h6] at hq
    obtain ⟨y, hy, rfl⟩ := h5.2 q hq
    have hy2 := z5 y hy
    unfold prOk at hy2
    simp only [Bool.and_eq_true] at hy2
    have h7 := hy2.1.1.2
    unfold phonesOk at h7
    simp only [Bool.and_eq_true, decide_eq_true_eq, List.all_eq_true] at h7
    exact ⟨by omega, h7.1⟩
def bkP (bl : List Let) : List (Int × List (List Cond × List ByteArray)) := bl.map fun L => (L.c, L.rl.map fun u => (u.tl, u.pl))
def learnP (l : List Sp) (p : List Pr) (o : Lrn) : List (Int × List (List Cond × List ByteArray)) := if optE l p o = 0 then learnC o (entC p l) else []
theorem optE_zero {l : List Sp} {p : List Pr} {o : Lrn} (h : optE l p o = 0) : lexE l = 0 ∧ prsE p = 0 ∧ LrnOk o := by
  unfold optE at h
  split at h
  · rename_i h1; exact absurd h h1
  · rename_i h1
    have h1 : worstC [lexE l, prsE p] = 0 := by simpa using h1
    split at h
    · rename_i h2
      unfold worstC at h1
      split at h1
      · cases h1
      · rw [orL2] at h1
        split at h1
        · rename_i h3; exact absurd h1 h3
        · rename_i h3; exact ⟨by simpa using h3, h1, lrnOk_of h2⟩
    · cases h
theorem learn_spec (sl sp : SlV) (l : List Sp) (p : List Pr) (o : Lrn) (hsz : ∀ u ∈ l, u.word.size ≤ 1000000) (h12 : optE l p o = 0 → (abcC ((entC p l).flatMap evOf)).length ≤ 12) (w : World) (hT : Stb w [] Tab) (hs : Stb w [] (RdL sl.v l)) (hl : Stb w [] fun w' => ∀ u ∈ l, SpIn u w') (hp0 : Stb w [] (RdL sp.v p)) (hp : Stb w [] fun w' => ∀ u ∈ p, PrIn u w') :
    Calls Tryz.prog 29 #[sl.v, sp.v, val o] w fun e w' => ∃ b : Bk, e = .returned (.tuple #[val b, .int .i64 (optE l p o)]) ∧ bkP b.bl = learnP l p o ∧ Cl w [] [Sx.frz (BkIn b)] w' := by
  refine calls_cw (vs := [_, _, _]) Tryz.func29 rfl Tryz.ntmps29 rfl (Cl.start0 w) (cw_seq (cw_region ?_))
  refine sw_x rfl rfl rfl (e_box rfl rfl rfl) (fun b5 => ?_)
  refine sw_x rfl rfl rfl (e_alloc rfl) (fun b6 => ?_)
  refine sr rfl rfl rfl ((q_assign rfl rfl)) (sw_nil (post_then (cw_seq (cw_seq (cw_region (sr rfl rfl rfl ((q_move rfl rfl)) (sr rfl rfl rfl ((q_move rfl rfl)) ?_)))))))
  refine sr rfl rfl rfl ((q_loadA rfl rfl (by exact .tail _ (.head _)) rfl)) ?_
  refine sw_step rfl rfl rfl (q_call (CanCall.mk Tryz.call69) rfl (.cons rfl inferInstance (.cons rfl inferInstance (.cons rfl inferInstance (.nil)))) (fun _ w1 hw => callq hw (options_spec _ _ l p o hsz w1 (stb_arg hw hT) (stb_arg hw hs) (stb_arg hw hl) (stb_arg hw hp0) (stb_arg hw hp)))) (sr rfl rfl rfl ((q_assign rfl rfl)) (sw_nil (post_then (cw_seq (cw_region (sr rfl rfl rfl ((q_move rfl rfl)) (sr rfl rfl rfl ((q_neq rfl rfl rfl)) (sw_nil (post_then ?_)))))))))
  refine cw_cond rfl (fun h => ?_) (fun h => ?_)
  · skip
    have h1 : optE l p o ≠ 0 := by simpa using h
    refine cw_seq (cw_region (sr rfl rfl rfl ((q_build rfl (.nil) rfl)) (sr rfl rfl rfl ((q_move rfl rfl)) (sw_eff0 rfl rfl (e_store (i := 0) rfl rfl rfl rfl rfl rfl rfl rfl) (sr rfl rfl rfl ((q_assign rfl rfl)) (sw_nil (post_then (cw_ret (post_then_r ?_)))))))))
    refine post_ret2 rfl (resOk_blk (x := (default : Bk)) rfl (by exact .head _) (by rfl)) (resOk_tmp rfl) ?_
    refine fun w' hw => ⟨default, rfl, by unfold learnP; rw [if_neg h1]; rfl, ?_⟩
    exact Cl.frz (H := []) ((fun w h => Cl.sel (by exact .nil _) w h) _ hw) fun w _ _ => ⟨rd_nil0 w, fun L hL => by cases hL⟩
  · skip
    have h1 : optE l p o = 0 := by simpa using h
    obtain ⟨z1, z2, z3⟩ := optE_zero h1
    refine cw_skip (post_then (cw_seq (cw_region_a (Cl w [] [blk b5 (enc o) 40]) [] mixed_Tryz ?_)))
    refine aw_pure 0 rfl (by kernel_rfl) (by kernel_rfl) (by kernel_rfl) (by kernel_rfl) (by kernel_rfl) rfl rfl rfl (q_move rfl rfl) ?_
    refine aw_pure 1 rfl (by kernel_rfl) (by kernel_rfl) (by kernel_rfl) (by kernel_rfl) (by kernel_rfl) rfl rfl rfl (q_move rfl rfl) ?_
    refine aw_take 3 (fun w h => Cl.sel (by exact .take 1 rfl (.nil _)) w h) rfl (by kernel_rfl) (by kernel_rfl) (by kernel_rfl) (by kernel_rfl) (by kernel_rfl) (by kernel_rfl) rfl rfl rfl (q_loadA rfl rfl (by exact .head _) rfl) ?_
    refine aw_x 2 (by kernel_rfl) rfl rfl rfl rfl (e_call (CanCall.mk Tryz.call71) rfl (.cons rfl inferInstance (.cons rfl inferInstance (.nil))) (fun w1 hw => entries_spec sl sp l p hsz z1 z2 w1 (stb_arg hw hs) (stb_arg hw hl) (stb_arg hw hp0) (stb_arg hw hp))) (by intro hb; exact fun _ w h => (fun w h => Cl.sel (by exact .take 2 rfl (.nil _)) w h) w h.2) (fun y19 => ?_)
    refine aw_imp fun hy => ?_
    obtain ⟨e1, e2⟩ := ent_ok hsz z1 z2 hy
    refine aw_x 4 (by kernel_rfl) rfl rfl rfl rfl (e_call (CanCall.mk Tryz.call70) rfl (.cons rfl inferInstance (.cons rfl inferInstance (.nil))) (fun w1 hw => learned_spec y19.1 y19.2 o z3 e1 e2 (by rw [hy]; exact h12 h1) w1 ((stb_frz (R := fun w => RdL y19.1.v y19.2 w ∧ ∀ u ∈ y19.2, EtIn u w) hw (by exact .head _)).mono fun _ h => h.1) ((stb_frz (R := fun w => RdL y19.1.v y19.2 w ∧ ∀ u ∈ y19.2, EtIn u w) hw (by exact .head _)).mono fun _ h => h.2))) (by intro hb; exact fun _ w h => (fun w h => Cl.sel (by exact .take 3 rfl (.nil _)) w h) w h.2) (fun b21 => ?_)
    refine aw_imp fun hb => ?_
    refine aw_one0 5 (by kernel_rfl) rfl rfl rfl (e_store (i := 2) rfl rfl rfl rfl rfl rfl rfl rfl) (by intro hb; exact (fun w h => Cl.sel (by exact .take 3 rfl (.nil _)) w h)) ?_
    refine aw_pure 6 rfl (by kernel_rfl) (by kernel_rfl) (by kernel_rfl) (by kernel_rfl) (by kernel_rfl) rfl rfl rfl (q_assign rfl rfl) ?_
    refine aw_end (by kernel_rfl) ?_
    refine post_then (cw_ret ?_)
    refine post_ret2 rfl (resOk_blk (x := b21) rfl (by exact .tail _ (.tail _ (.head _))) (by rfl)) (resOk_tmp rfl) ?_
    exact fun w' hw => ⟨b21, by rw [h1], by unfold bkP; rw [hb, hy]; unfold learnP; rw [if_pos h1], (fun w h => Cl.sel (by exact .take 0 rfl (.nil _)) w h) _ hw⟩
end Go.Proofs.YtkmbliojafefdaaGreatDoor

set_option autoImplicit false
set_option maxRecDepth 100000
namespace Go.Proofs.YtkmbliojafefdaaGreatDoor
open Go.Sx
open Enc (enc val)
theorem said39_spec (sv : Value) (l : List Snd) (hl : l.length ≤ 1000000) (w : World) (hs : Stb w [] (RdL sv l)) : Calls Tryz.prog 39 #[sv] w fun e w' => ∃ r : SlV, e = .returned r.v ∧ True ∧ Cl w [] [ownL 9 r.v (l.map (·.phone))] w' := by
  have hL := rd_len hs.here
  refine calls_cw (vs := [_]) Tryz.func39 rfl Tryz.ntmps39 rfl (Cl.start0 w) (cw_seq (cw_region (sr rfl rfl rfl ((q_assign rfl rfl)) (sw_nil (post_then (cw_seq (cw_region (sr rfl rfl rfl ((q_assign rfl rfl)) (sw_nil (post_then (cw_seq (cw_seq (cw_region (sr rfl rfl rfl ((q_assign rfl rfl)) (sw_nil (post_then (cw_block ?_)))))))))))))))))
  refine cw_loop (S := Nat × SlV) (fun y => [(0, [], sv), (3, [], y.2.v), (4, [], .int .i64 y.1)]) (fun y => Cl w [] [ownL 9 y.2.v ((l.take y.1).map (·.phone))]) (fun y => y.1 ≤ l.length) (fun y => l.length - y.1) (0, ⟨none, 0, 0⟩) (by simp) (by exact .cons rfl (.cons rfl (.cons rfl .nil))) (fun w' h => Cl.addNil 9 h) ?_
  rintro ⟨k, so⟩ hk
  dsimp only at hk ⊢
  have hkl : ((l.take k).map (·.phone)).length ≤ 1000000 := by rw [List.length_map, List.length_take]; omega
  refine cw_seq (cw_seq (cw_region (sr rfl rfl rfl ((q_move rfl rfl)) (sr rfl rfl rfl ((q_move rfl rfl)) ?_))))
  refine sr rfl rfl rfl ((q_len rfl (.cons rfl inferInstance (.nil)) (by exact fun w hw => Stb.cl (by assumption) hw))) ?_
  refine sr rfl rfl rfl ((q_lss rfl rfl rfl)) (sw_nil (post_then ?_))
  refine cw_cond rfl (fun h => ?_) (fun h => ?_)
  · skip
    have hk' : k < l.length := by simp at h; omega
    refine cw_skip (post_then (cw_seq (cw_block (cw_region (sr rfl rfl rfl ((q_move rfl rfl)) (sr rfl rfl rfl ((q_move rfl rfl)) (sr rfl rfl rfl ((q_move rfl rfl)) ?_)))))))
    refine sr rfl rfl rfl ((q_indexN rfl rfl rfl (by exact fun w hw => Stb.cl (by assumption) hw) (by intro hc; omega))) ?_
    refine sr rfl rfl rfl ((q_fieldEl rfl rfl (by exact fun w hw => Stb.cl (by assumption) hw) (by intro hc; omega))) ?_
    refine sr rfl rfl rfl ((q_loadF rfl rfl rfl (by exact fun w hw => Stb.cl (by assumption) hw) (by intro hc; omega) rfl)) ?_
    refine sw_x rfl rfl rfl (e_build1 (α := ByteArray) rfl rfl rfl rfl) (fun s17 => ?_)
    refine sw_x rfl rfl rfl (e_append (i := 1) rfl (.cons rfl inferInstance (.cons rfl inferInstance (.nil))) rfl rfl (by exact fun w hw => rd_own hw (by exact .head _)) (by first | omega | (simp only [List.length_set, List.length_append, List.length_cons, List.length_nil, List.length_replicate, List.length_take, List.length_drop, List.length_map]; omega)) rfl) (fun s18 => ?_)
    refine sr rfl rfl rfl ((q_assign rfl rfl)) (sw_nil (post_blk (post_then (cw_region (sr rfl rfl rfl ((q_move rfl rfl)) ?_)))))
    refine sr rfl rfl rfl ((q_add rfl rfl rfl (by intro hc; omega))) ?_
    refine sr rfl rfl rfl ((q_assign rfl rfl)) (sw_nil ?_)
    refine post_next (k + 1, s18) (by exact .cons rfl (.cons rfl (.cons rfl .nil))) (fun w' h => ?_) (by simp only; omega) (by simp only; omega)
    simp only
    rw [List.take_succ_eq_append_getElem hk', List.map_append, ← nth_get hk']
    exact (fun w h => Cl.sel (by exact .take 1 rfl (.nil _)) w h) _ h
  · skip
    have hk' : k = l.length := by simp at h; omega
    subst hk'
    rw [List.take_length]
    refine cw_exit (post_then_x (post_then_x (post_blk_eq (post_then (cw_seq (cw_region (sr rfl rfl rfl ((q_move rfl rfl)) (sr rfl rfl rfl ((q_assign rfl rfl)) (sw_nil (post_then (cw_ret (post_ret1 rfl (resOk_tmp rfl) ?_))))))))))))
    exact fun w' hw => ⟨so, rfl, trivial, hw⟩
instance : DecidableEq Cond := fun a b => decidable_of_iff (a.at_ = b.at_ ∧ a.c = b.c) ⟨fun h => by cases a; cases b; simp at h; simp [h], fun h => by rw [h]; exact ⟨rfl, rfl⟩⟩
section
variable {n : Fr} {E : Env} {C : World → Prop} {cs : List Bool} {o : Oper}
theorem neq109 (a b : Cond) (w : World) : (binOp .neq 109 (val a) (val b)).run Tryz.prog w = .ok (.bool (!decide (a = b))) w := by
  obtain ⟨a1, a2⟩ := a
  obtain ⟨b1, b2⟩ := b
  show (binOp .neq 109 (.agg #[.int .i64 a1, .int .i32 a2]) (.agg #[.int .i64 b1, .int .i32 b2])).run Tryz.prog w = _
  simp [go_sem]
  by_cases h1 : a1 = b1 <;> by_cases h2 : a2 = b2 <;> simp [h1, h2] <;> omega
theorem q_neqCond {t' : TypeId} {x y : Operand} {cx cy : List Bool} {a b : Cond} (ho : o.op = .binOp .neq 109 x y t') (hx : evl E x = some (cx, val a)) (hy : evl E y = some (cy, val b)) [sx : Sub cx cs] [sy : Sub cy cs] : OpR Tryz.prog n E C cs o (.bool (!decide (a = b))) :=
  .of_run fun ac ha hc w _ => by
    have hg : (eqGuard .neq 109 x y (val a) (val b)).run Tryz.prog w = .ok () w := by kernel_rfl
    unfold execOp; simp only [ho]; rw [ha.eval hx sx hc, ha.eval hy sy hc]
    simp [hg, neq109, Result.andThen]
end
theorem sameTests_spec (sa sb : Value) (a b : List Cond) (w : World) (ha : Stb w [] (RdL sa a)) (hb : Stb w [] (RdL sb b)) : Calls Tryz.prog 60 #[sa, sb] w fun e w' => e = .returned (.bool (decide (a = b))) ∧ Cl w [] [] w' := by
  have hLa := rd_len ha.here
  have hLb := rd_len hb.here
  refine calls_cw (vs := [_, _]) Tryz.func60 rfl Tryz.ntmps60 rfl (Cl.start0 w) (cw_seq (cw_region (sr rfl rfl rfl ((q_assign rfl rfl)) (sw_nil (post_then (cw_seq (cw_seq (cw_region (sr rfl rfl rfl ((q_move rfl rfl)) ?_)))))))))
  refine sr rfl rfl rfl ((q_len rfl (.cons rfl inferInstance (.nil)) (by exact fun w hw => Stb.cl (by assumption) hw))) ?_
  refine sr rfl rfl rfl ((q_move rfl rfl)) ?_
  refine sr rfl rfl rfl ((q_len rfl (.cons rfl inferInstance (.nil)) (by exact fun w hw => Stb.cl (by assumption) hw))) ?_
  refine sr rfl rfl rfl ((q_neq rfl rfl rfl)) (sw_nil (post_then ?_))
  refine cw_cond rfl (fun h => ?_) (fun h => ?_)
  · skip
    have h2 : ¬ a = b := fun e => by subst e; simp at h
    refine cw_seq (cw_region (sr rfl rfl rfl ((q_assign rfl rfl)) (sw_nil (post_then (cw_ret (post_then_r (post_ret1 rfl (resOk_tmp rfl) ?_)))))))
    exact fun w' hw => ⟨by rw [decide_eq_false h2], hw⟩
  · skip
    have hl : a.length = b.length := by simp at h; omega
    refine cw_skip (post_then (cw_seq (cw_seq (cw_region (sr rfl rfl rfl ((q_assign rfl rfl)) (sw_nil (post_then (cw_block ?_))))))))
    refine cw_loop (S := Nat) (fun k => [(0, [], sa), (1, [], sb), (5, [], .int .i64 k)]) (fun _ => Cl w [] []) (fun k => k ≤ a.length ∧ ∀ j, j < k → nth a j = nth b j) (fun k => a.length - k) 0 ⟨Nat.zero_le _, fun j hj => by omega⟩ (by exact .cons rfl (.cons rfl (.cons rfl .nil))) (fun _ h => h) ?_
    rintro k ⟨hk, hbe⟩
    refine cw_seq (cw_seq (cw_region (sr rfl rfl rfl ((q_move rfl rfl)) (sr rfl rfl rfl ((q_move rfl rfl)) ?_))))
    refine sr rfl rfl rfl ((q_len rfl (.cons rfl inferInstance (.nil)) (by exact fun w hw => Stb.cl (by assumption) hw))) ?_
    refine sr rfl rfl rfl ((q_lss rfl rfl rfl)) (sw_nil (post_then ?_))
    refine cw_cond rfl (fun h2 => ?_) (fun h2 => ?_)
    · skip
      have hk' : k < a.length := by simp at h2; omega
      have hkb : k < b.length := by omega
      refine cw_skip (post_then (cw_seq (cw_block (cw_seq (cw_region_a (Cl w [] []) [] mixed_Tryz ?_)))))
      refine aw_pure 0 rfl (by kernel_rfl) (by kernel_rfl) (by kernel_rfl) (by kernel_rfl) (by kernel_rfl) rfl rfl rfl (q_move rfl rfl) ?_
      refine aw_pure 1 rfl (by kernel_rfl) (by kernel_rfl) (by kernel_rfl) (by kernel_rfl) (by kernel_rfl) rfl rfl rfl (q_move rfl rfl) ?_
      refine aw_take 2 (fun w h => Cl.sel (by exact .nil _) w h) rfl (by kernel_rfl) (by kernel_rfl) (by kernel_rfl) (by kernel_rfl) (by kernel_rfl) (by kernel_rfl) rfl rfl rfl (q_indexN rfl rfl rfl (by exact fun w hw => Stb.cl (by assumption) hw) (by intro hc; omega)) ?_
      refine aw_take 3 (fun w h => Cl.sel (by exact .nil _) w h) rfl (by kernel_rfl) (by kernel_rfl) (by kernel_rfl) (by kernel_rfl) (by kernel_rfl) (by kernel_rfl) rfl rfl rfl (q_loadEl rfl rfl rfl (by exact fun w hw => Stb.cl (by assumption) hw) (by intro hc; omega)) ?_
      refine aw_pure 4 rfl (by kernel_rfl) (by kernel_rfl) (by kernel_rfl) (by kernel_rfl) (by kernel_rfl) rfl rfl rfl (q_move rfl rfl) ?_
      refine aw_pure 5 rfl (by kernel_rfl) (by kernel_rfl) (by kernel_rfl) (by kernel_rfl) (by kernel_rfl) rfl rfl rfl (q_move rfl rfl) ?_
      refine aw_take 6 (fun w h => Cl.sel (by exact .nil _) w h) rfl (by kernel_rfl) (by kernel_rfl) (by kernel_rfl) (by kernel_rfl) (by kernel_rfl) (by kernel_rfl) rfl rfl rfl (q_indexN rfl rfl rfl (by exact fun w hw => Stb.cl (by assumption) hw) (by intro hc; omega)) ?_
      refine aw_take 7 (fun w h => Cl.sel (by exact .nil _) w h) rfl (by kernel_rfl) (by kernel_rfl) (by kernel_rfl) (by kernel_rfl) (by kernel_rfl) (by kernel_rfl) rfl rfl rfl (q_loadEl rfl rfl rfl (by exact fun w hw => Stb.cl (by assumption) hw) (by intro hc; omega)) ?_
      refine aw_take 8 (fun w h => Cl.sel (by exact .nil _) w h) rfl (by kernel_rfl) (by kernel_rfl) (by kernel_rfl) (by kernel_rfl) (by kernel_rfl) (by kernel_rfl) rfl rfl rfl (q_neqCond (a := nth a k) (b := nth b k) rfl rfl rfl) ?_
      refine aw_end (by kernel_rfl) ?_
      refine post_then ?_
      refine cw_cond rfl (fun h3 => ?_) (fun h3 => ?_)
      · skip
        have h4 : ¬ a = b := fun e => by subst e; simp at h3
        refine cw_seq (cw_region (sr rfl rfl rfl ((q_assign rfl rfl)) (sw_nil (post_then (cw_ret (post_blk_r (post_then_r (post_then_r (post_blk_r (post_then_r (post_ret1 rfl (resOk_tmp rfl) ?_)))))))))))
        exact fun w' hw => ⟨by rw [decide_eq_false h4], hw⟩
      · skip
        have h4 : nth a k = nth b k := by simpa using h3
        refine cw_skip (post_blk (post_then (cw_region (sr rfl rfl rfl ((q_move rfl rfl)) ?_))))
        refine sr rfl rfl rfl ((q_add rfl rfl rfl (by intro hc; omega))) ?_
        refine sr rfl rfl rfl ((q_assign rfl rfl)) (sw_nil ?_)
        exact post_next (k + 1) (by exact .cons rfl (.cons rfl (.cons rfl .nil))) (fun _ h => h) ⟨by omega, fun j hj => by
          rcases Nat.lt_or_ge j k with h5 | h5
          · exact hbe j h5
          · have : j = k := by omega
            subst this; exact h4⟩ (by omega)
    · skip
      have hk' : k = a.length := by simp at h2; omega
      have h4 : a = b := List.ext_getElem hl fun i h5 h6 => by
        have := hbe i (by omega)
        rwa [nth_get h5, nth_get h6] at this
      refine cw_exit (post_then_x (post_then_x (post_blk_eq (post_then (cw_seq (cw_region (sr rfl rfl rfl ((q_assign rfl rfl)) (sw_nil (post_then (cw_ret (post_ret1 rfl (resOk_tmp rfl) ?_)))))))))))
      exact fun w' hw => ⟨by rw [decide_eq_true h4], hw⟩
def exL (s1 s2 s3 : SlV) : List Sp := [⟨⟨#[97, 99, 101]⟩, s1, [⟨#[101, 105]⟩, ⟨#[115]⟩]⟩, ⟨⟨#[97, 116, 101]⟩, s2, [⟨#[101, 105]⟩, ⟨#[116]⟩]⟩, ⟨⟨#[99, 97, 116]⟩, s3, [⟨#[107]⟩, ⟨#[97]⟩, ⟨#[116]⟩]⟩]
def exP (s1 s2 s3 s4 s5 s6 : SlV) : List Pr := [⟨97, s1, 0, [⟨#[97]⟩]⟩, ⟨97, s2, 1, [⟨#[101, 105]⟩]⟩, ⟨99, s3, 0, [⟨#[107]⟩]⟩, ⟨99, s4, 1, [⟨#[115]⟩]⟩, ⟨101, ⟨none, 0, 0⟩, 0, []⟩, ⟨101, s5, 1, [⟨#[101]⟩]⟩, ⟨116, s6, 0, [⟨#[116]⟩]⟩]
def ExR (a b s1 s2 s3 t1 t2 t3 t4 t5 t6 : SlV) (w : World) : Prop := (RdL a.v (exL s1 s2 s3) w ∧ ∀ u ∈ exL s1 s2 s3, SpIn u w) ∧ (RdL b.v (exP t1 t2 t3 t4 t5 t6) w ∧ ∀ u ∈ exP t1 t2 t3 t4 t5 t6, PrIn u w)
structure ExS where
  a : SlV
  b : SlV
  s1 : SlV
  s2 : SlV
  s3 : SlV
  t1 : SlV
  t2 : SlV
  t3 : SlV
  t4 : SlV
  t5 : SlV
  t6 : SlV
theorem example_spec (w : World) : Calls Tryz.prog 59 #[] w fun e w' => ∃ y : ExS, e = .returned (.tuple #[y.a.v, y.b.v]) ∧ True ∧ Cl w [] [Sx.frz (ExR y.a y.b y.s1 y.s2 y.s3 y.t1 y.t2 y.t3 y.t4 y.t5 y.t6)] w' := by
  refine calls_cw (vs := []) Tryz.func59 rfl Tryz.ntmps59 rfl (Cl.start0 w) (cw_seq (cw_region (sr rfl rfl rfl ((q_assign rfl rfl)) (sr rfl rfl rfl ((q_assign rfl rfl)) (sw_nil (post_then (cw_seq (cw_region ?_))))))))
  refine sw_x rfl rfl rfl (e_buildL (α := ByteArray) (l := [⟨#[101, 105]⟩, ⟨#[115]⟩]) rfl (.cons rfl inferInstance (.cons rfl inferInstance (.nil))) rfl rfl rfl rfl) (fun s4 => ?_)
  refine sr rfl rfl rfl ((q_build rfl (.cons rfl inferInstance (.cons rfl inferInstance (.nil))) rfl)) ?_
  refine sw_x rfl rfl rfl (e_buildL (α := ByteArray) (l := [⟨#[101, 105]⟩, ⟨#[116]⟩]) rfl (.cons rfl inferInstance (.cons rfl inferInstance (.nil))) rfl rfl rfl rfl) (fun s6 => ?_)
  refine sr rfl rfl rfl ((q_build rfl (.cons rfl inferInstance (.cons rfl inferInstance (.nil))) rfl)) ?_
  refine sw_x rfl rfl rfl (e_buildL (α := ByteArray) (l := [⟨#[107]⟩, ⟨#[97]⟩, ⟨#[116]⟩]) rfl (.cons rfl inferInstance (.cons rfl inferInstance (.cons rfl inferInstance (.nil)))) rfl rfl rfl rfl) (fun s8 => ?_)
  refine sr rfl rfl rfl ((q_build rfl (.cons rfl inferInstance (.cons rfl inferInstance (.nil))) rfl)) ?_
  refine sw_x rfl rfl rfl (e_buildL (α := Sp) (l := exL s4 s6 s8) rfl (.cons rfl inferInstance (.cons rfl inferInstance (.cons rfl inferInstance (.nil)))) rfl rfl rfl rfl) (fun s10 => ?_)
  refine sr rfl rfl rfl ((q_assign rfl rfl)) (sw_nil (post_then (cw_seq (cw_region ?_))))
  refine sw_x rfl rfl rfl (e_build1 (α := ByteArray) rfl rfl rfl rfl) (fun s11 => ?_)
  refine sr rfl rfl rfl ((q_build rfl (.cons rfl inferInstance (.cons rfl inferInstance (.nil))) rfl)) ?_
  refine sw_x rfl rfl rfl (e_build1 (α := ByteArray) rfl rfl rfl rfl) (fun s13 => ?_)
  refine sr rfl rfl rfl ((q_build rfl (.cons rfl inferInstance (.cons rfl inferInstance (.cons rfl inferInstance (.nil)))) rfl)) ?_
  refine sw_x rfl rfl rfl (e_build1 (α := ByteArray) rfl rfl rfl rfl) (fun s15 => ?_)
  refine sr rfl rfl rfl ((q_build rfl (.cons rfl inferInstance (.cons rfl inferInstance (.nil))) rfl)) ?_
  refine sw_x rfl rfl rfl (e_build1 (α := ByteArray) rfl rfl rfl rfl) (fun s17 => ?_)
  refine sr rfl rfl rfl ((q_build rfl (.cons rfl inferInstance (.cons rfl inferInstance (.cons rfl inferInstance (.nil)))) rfl)) (sr rfl rfl rfl ((q_build rfl (.cons rfl inferInstance (.nil)) rfl)) ?_)
  refine sw_x rfl rfl rfl (e_build1 (α := ByteArray) rfl rfl rfl rfl) (fun s20 => ?_)
  refine sr rfl rfl rfl ((q_build rfl (.cons rfl inferInstance (.cons rfl inferInstance (.cons rfl inferInstance (.nil)))) rfl)) ?_
  refine sw_x rfl rfl rfl (e_build1 (α := ByteArray) rfl rfl rfl rfl) (fun s22 => ?_)
  refine sr rfl rfl rfl ((q_build rfl (.cons rfl inferInstance (.cons rfl inferInstance (.nil))) rfl)) ?_
  refine sw_x rfl rfl rfl (e_buildL (α := Pr) (l := exP s11 s13 s15 s17 s20 s22) rfl (.cons rfl inferInstance (.cons rfl inferInstance (.cons rfl inferInstance (.cons rfl inferInstance (.cons rfl inferInstance (.cons rfl inferInstance (.cons rfl inferInstance (.nil)))))))) rfl rfl rfl rfl) (fun s24 => ?_)
  refine sr rfl rfl rfl ((q_assign rfl rfl)) (sw_nil (post_then (cw_seq (cw_region (sr rfl rfl rfl ((q_move rfl rfl)) (sr rfl rfl rfl ((q_move rfl rfl)) (sr rfl rfl rfl ((q_assign rfl rfl)) (sr rfl rfl rfl ((q_assign rfl rfl)) (sw_nil (post_then (cw_ret (post_ret2 rfl (resOk_tmp rfl) (resOk_tmp rfl) ?_))))))))))))
  refine fun w' hw => ⟨⟨s10, s24, s4, s6, s8, s11, s13, s15, s17, s20, s22⟩, rfl, trivial, ?_⟩
  have h1 : Cl w [] ([ownL 68 s24.v (exP s11 s13 s15 s17 s20 s22), ownL 9 s22.v ([⟨#[116]⟩] : List ByteArray), ownL 9 s20.v ([⟨#[101]⟩] : List ByteArray), ownL 9 s17.v ([⟨#[115]⟩] : List ByteArray), ownL 9 s15.v ([⟨#[107]⟩] : List ByteArray), ownL 9 s13.v ([⟨#[101, 105]⟩] : List ByteArray), ownL 9 s11.v ([⟨#[97]⟩] : List ByteArray), ownL 56 s10.v (exL s4 s6 s8), ownL 9 s8.v ([⟨#[107]⟩, ⟨#[97]⟩, ⟨#[116]⟩] : List ByteArray), ownL 9 s6.v ([⟨#[101, 105]⟩, ⟨#[116]⟩] : List ByteArray), ownL 9 s4.v ([⟨#[101, 105]⟩, ⟨#[115]⟩] : List ByteArray)] ++ []) w' := (fun w h => Cl.sel (by exact .take 0 rfl (.take 0 rfl (.take 0 rfl (.take 0 rfl (.take 0 rfl (.take 0 rfl (.take 0 rfl (.take 0 rfl (.take 0 rfl (.take 0 rfl (.take 0 rfl (.nil _)))))))))))) w h) _ hw
  refine Cl.frz h1 fun w bs ⟨_, _, _, k24, _, _, _, k22, _, _, _, k20, _, _, _, k17, _, _, _, k15, _, _, _, k13, _, _, _, k11, _, _, _, k10, _, _, _, k8, _, _, _, k6, _, _, _, k4, _⟩ => ?_
  refine ⟨⟨ownL.rd k10, fun u hu => ?_⟩, ownL.rd k24, fun u hu => ?_⟩
  · simp only [exL, List.mem_cons, List.not_mem_nil, or_false] at hu
    rcases hu with rfl | rfl | rfl
    · exact ownL.rd k4
    · exact ownL.rd k6
    · exact ownL.rd k8
  · simp only [exP, List.mem_cons, List.not_mem_nil, or_false] at hu
    rcases hu with rfl | rfl | rfl | rfl | rfl | rfl | rfl
    · exact ownL.rd k11
    · exact ownL.rd k13
    · exact ownL.rd k15
    · exact ownL.rd k17
    · exact rd_nil0 w
    · exact ownL.rd k20
    · exact ownL.rd k22
end Go.Proofs.YtkmbliojafefdaaGreatDoor

set_option autoImplicit false
set_option maxRecDepth 100000
namespace Go.Proofs.YtkmbliojafefdaaGreatDoor
open Go.Sx
variable (s1 s2 s3 t1 t2 t3 t4 t5 t6 : SlV)
theorem ex_alignN : alignN (exP t1 t2 t3 t4 t5 t6) ⟨#[97, 116, 101]⟩ ([⟨#[101, 105]⟩, ⟨#[116]⟩] : List ByteArray) = 1 := by kernel_rfl
theorem ex_alignE : alignE (exP t1 t2 t3 t4 t5 t6) ⟨#[97, 116, 101]⟩ ([⟨#[101, 105]⟩, ⟨#[116]⟩] : List ByteArray) = 0 := by kernel_rfl
theorem ex_alignP : alignP (exP t1 t2 t3 t4 t5 t6) ⟨#[97, 116, 101]⟩ ([⟨#[101, 105]⟩, ⟨#[116]⟩] : List ByteArray) = [([⟨#[101, 105]⟩] : List ByteArray), ([⟨#[116]⟩] : List ByteArray), ([] : List ByteArray)] := by kernel_rfl
theorem ex_optE : optE (exL s1 s2 s3) (exP t1 t2 t3 t4 t5 t6) (⟨2, 1, 10⟩ : Lrn) = 0 := by kernel_rfl
theorem ex_abc : (abcC ((entC (exP t1 t2 t3 t4 t5 t6) (exL s1 s2 s3)).flatMap evOf)).length = 4 := by kernel_rfl
def exBk : List (Int × List (List Cond × List ByteArray)) := [(97, [([⟨-1, 0⟩], ([⟨#[101, 105]⟩] : List ByteArray)), ([], ([⟨#[97]⟩] : List ByteArray))]), (99, [([⟨-1, 0⟩], ([⟨#[107]⟩] : List ByteArray)), ([], ([⟨#[115]⟩] : List ByteArray))]), (101, [([], [])]), (116, [([], ([⟨#[116]⟩] : List ByteArray))])]
theorem ex_learn : learnP (exL s1 s2 s3) (exP t1 t2 t3 t4 t5 t6) (⟨2, 1, 10⟩ : Lrn) = exBk := by kernel_rfl
theorem two_rules {rl : List Chc} {a1 a2 : List Cond} {l1 l2 : List ByteArray} (h : (rl.map fun u => (u.tl, u.pl)) = [(a1, l1), (a2, l2)]) : ∃ u v : Chc, rl = [⟨u.t, u.p, a1, l1⟩, ⟨v.t, v.p, a2, l2⟩] := by
  match rl, h with
  | [u, v], h =>
    simp only [List.map_cons, List.map_nil, List.cons.injEq, Prod.mk.injEq, and_true] at h
    obtain ⟨⟨rfl, rfl⟩, rfl, rfl⟩ := h
    exact ⟨u, v, rfl⟩
theorem one_rule {rl : List Chc} {a1 : List Cond} {l1 : List ByteArray} (h : (rl.map fun u => (u.tl, u.pl)) = [(a1, l1)]) : ∃ u : Chc, rl = [⟨u.t, u.p, a1, l1⟩] := by
  match rl, h with
  | [u], h =>
    simp only [List.map_cons, List.map_nil, List.cons.injEq, Prod.mk.injEq, and_true] at h
    obtain ⟨rfl, rfl⟩ := h
    exact ⟨u, rfl⟩
structure BkS where
  r1 : SlV
  r2 : SlV
  r3 : SlV
  r4 : SlV
  u1 : Chc
  u2 : Chc
  u3 : Chc
  u4 : Chc
  u5 : Chc
  u6 : Chc
def exBl (b : BkS) : List Let := [⟨97, b.r1, [⟨b.u1.t, b.u1.p, [⟨-1, 0⟩], ([⟨#[101, 105]⟩] : List ByteArray)⟩, ⟨b.u2.t, b.u2.p, [], ([⟨#[97]⟩] : List ByteArray)⟩]⟩, ⟨99, b.r2, [⟨b.u3.t, b.u3.p, [⟨-1, 0⟩], ([⟨#[107]⟩] : List ByteArray)⟩, ⟨b.u4.t, b.u4.p, [], ([⟨#[115]⟩] : List ByteArray)⟩]⟩, ⟨101, b.r3, [⟨b.u5.t, b.u5.p, [], []⟩]⟩, ⟨116, b.r4, [⟨b.u6.t, b.u6.p, [], ([⟨#[116]⟩] : List ByteArray)⟩]⟩]
theorem ex_shape {bl : List Let} (h : bkP bl = exBk) : ∃ b, bl = exBl b := by
  have hl : bl.length = 4 := by have := congrArg List.length h; simpa [bkP, exBk] using this
  obtain ⟨L1, L2, L3, L4, rfl⟩ : ∃ L1 L2 L3 L4, bl = [L1, L2, L3, L4] := by
    match bl, hl with
    | [a, b, c, d], _ => exact ⟨a, b, c, d, rfl⟩
  simp only [bkP, exBk, List.map_cons, List.map_nil, List.cons.injEq, Prod.mk.injEq, and_true] at h
  obtain ⟨⟨c1, h1⟩, ⟨c2, h2⟩, ⟨c3, h3⟩, c4, h4⟩ := h
  obtain ⟨u1, u2, e1⟩ := two_rules h1
  obtain ⟨u3, u4, e2⟩ := two_rules h2
  obtain ⟨u5, e3⟩ := one_rule h3
  obtain ⟨u6, e4⟩ := one_rule h4
  refine ⟨⟨L1.r, L2.r, L3.r, L4.r, u1, u2, u3, u4, u5, u6⟩, ?_⟩
  obtain ⟨c1', r1, l1⟩ := L1
  obtain ⟨c2', r2, l2⟩ := L2
  obtain ⟨c3', r3, l3⟩ := L3
  obtain ⟨c4', r4, l4⟩ := L4
  simp only at c1 c2 c3 c4 e1 e2 e3 e4
  subst c1 c2 c3 c4 e1 e2 e3 e4
  rfl
variable (b : BkS)
theorem ex_sayE : sayE (exBl b) ⟨#[99, 97, 116]⟩ = 0 := by kernel_rfl
theorem ex_sayR : (sayR (exBl b) ⟨#[99, 97, 116]⟩).map (·.phone) = ([⟨#[107]⟩, ⟨#[97]⟩, ⟨#[116]⟩] : List ByteArray) := by kernel_rfl
theorem ex_sayL : (sayR (exBl b) ⟨#[99, 97, 116]⟩).length = 3 := by kernel_rfl
theorem ex_joinE : joinE [(⟨⟨none, 0, 0⟩, s1, s2, s3, [], ([⟨#[97]⟩] : List ByteArray), ([⟨#[122]⟩] : List ByteArray), ([⟨#[97]⟩] : List ByteArray)⟩ : Jnt)] [([⟨#[108]⟩, ⟨#[101]⟩] : List ByteArray), ([⟨#[97]⟩, ⟨#[109]⟩, ⟨#[105]⟩] : List ByteArray)] = 0 := by kernel_rfl
theorem ex_joinR : joinR [(⟨⟨none, 0, 0⟩, s1, s2, s3, [], ([⟨#[97]⟩] : List ByteArray), ([⟨#[122]⟩] : List ByteArray), ([⟨#[97]⟩] : List ByteArray)⟩ : Jnt)] [([⟨#[108]⟩, ⟨#[101]⟩] : List ByteArray), ([⟨#[97]⟩, ⟨#[109]⟩, ⟨#[105]⟩] : List ByteArray)] = [([⟨#[108]⟩, ⟨#[101]⟩, ⟨#[122]⟩] : List ByteArray), ([⟨#[97]⟩, ⟨#[109]⟩, ⟨#[105]⟩] : List ByteArray)] := by kernel_rfl
theorem ex_accE : accentE [(⟨⟨#[114]⟩, s1, [([⟨#[82]⟩] : List ByteArray), ([⟨#[82]⟩, ⟨#[120]⟩] : List ByteArray)]⟩ : Fgn)] ([⟨#[114]⟩, ⟨#[97]⟩, ⟨#[114]⟩] : List ByteArray) 5 = 0 := by kernel_rfl
theorem ex_accR : accentR [(⟨⟨#[114]⟩, s1, [([⟨#[82]⟩] : List ByteArray), ([⟨#[82]⟩, ⟨#[120]⟩] : List ByteArray)]⟩ : Fgn)] ([⟨#[114]⟩, ⟨#[97]⟩, ⟨#[114]⟩] : List ByteArray) 5 = ([⟨#[82]⟩, ⟨#[120]⟩, ⟨#[97]⟩, ⟨#[82]⟩, ⟨#[120]⟩] : List ByteArray) := by kernel_rfl
end Go.Proofs.YtkmbliojafefdaaGreatDoor
