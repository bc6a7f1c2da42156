import Derived.Test.YtekikelejncgeaaP
set_option autoImplicit false
set_option linter.unusedSimpArgs false
set_option linter.unusedVariables false
set_option maxRecDepth 100000
namespace Go.Proofs.Ytekikelejncgeaa
open Go.Sx
open Enc (enc val)

theorem stable_spec (sv : SlV) (l : List Int) (g : FuncId) (cap : Array Value) (dom : Int → Prop) (cv : Int → Int → Int) (R : World → Prop) (hgc : CanCall Try.prog g) (hg : CmpF Try.prog g cap dom cv R) (ho : PreO dom cv) (hd : ∀ k, k < l.length → dom (nth l k))
    (hl : l.length ≤ 19) (w : World) (bs : List Nat) (hs : Sep [ownL 3 sv.v l] w bs) (hn : bs.Nodup) (hlt : ∀ b ∈ bs, b < w.heap.size) (hR : Stb w bs R) :
    Calls Try.prog 86 #[sv.v, .int .i64 l.length, .func (.func g) #[] cap] w fun e w' => ∃ l' : List Int, e = .returned (.tuple #[]) ∧ (Mix l l' 0 l.length ∧ SrtC cv l' 0 l.length) ∧ Cl w bs [ownL 3 sv.v l'] w' := by
  refine calls_cw (vs := [_, _, _]) Try.func86 rfl Try.ntmps86 rfl (Cl.start hs hn hlt) ?_
  refine cw_seq ?_
  -- region 0
  refine cw_region ?_
  refine sw_step rfl rfl rfl (OpR.q (q_assign rfl rfl)) ?_
  refine sw_nil ?_
  refine post_then ?_
  refine cw_seq ?_
  -- region 1
  refine cw_region ?_
  refine sw_step rfl rfl rfl (OpR.q (q_move rfl rfl)) ?_
  refine sw_step rfl rfl rfl (OpR.q (q_assign rfl rfl)) ?_
  refine sw_step rfl rfl rfl (OpR.q (q_assign rfl rfl)) ?_
  refine sw_nil ?_
  refine post_then ?_
  refine cw_seq ?_
  refine cw_block ?_
  -- STOP at: loop
  refine cw_loop (S := Unit) (fun _ => [(0, [], sv.v), (1, [], .int .i64 l.length), (2, [], .func (.func g) #[] cap), (6, [], .int .i64 20), (7, [], .int .i64 0), (8, [], .int .i64 20)]) (fun _ => Cl w bs [ownL 3 sv.v l]) (fun _ => True) (fun _ => 0) () trivial (by exact .cons rfl (.cons rfl (.cons rfl (.cons rfl (.cons rfl (.cons rfl .nil)))))) (fun _ h => h) ?_
  rintro ⟨⟩ _
  refine cw_seq ?_
  refine cw_seq ?_
  -- region 2
  refine cw_region ?_
  refine sw_step rfl rfl rfl (OpR.q (q_move rfl rfl)) ?_
  refine sw_step rfl rfl rfl (OpR.q (q_move rfl rfl)) ?_
  refine sw_step rfl rfl rfl (OpR.q (q_leq rfl rfl rfl)) ?_
  refine sw_nil ?_
  refine post_then ?_
  -- STOP at: cond
  refine cw_cond rfl (fun h => ?_) (fun h => ?_)
  · skip
    simp at h; omega
  · skip
    refine cw_exit ?_
    refine post_then_x ?_
    refine post_then_x ?_
    refine post_blk_eq ?_
    refine post_then ?_
    refine cw_seq ?_
    -- region 6
    refine cw_region ?_
    refine sw_step rfl rfl rfl (OpR.q (q_move rfl rfl)) ?_
    refine sw_step rfl rfl rfl (OpR.q (q_move rfl rfl)) ?_
    refine sw_step rfl rfl rfl (OpR.q (q_move rfl rfl)) ?_
    refine sw_step rfl rfl rfl (OpR.q (q_move rfl rfl)) ?_
    -- STOP at: t27  := call {callee=(value F97), args=[t23, t24, t25, t26], argTypes=[37, 3, 3, 29]} :0
    refine sw_x rfl rfl rfl (e_callH (A := [ownL 3 sv.v l]) (F := []) (CanCall.mk Try.call97) rfl rfl (.cons rfl inferInstance (.cons rfl inferInstance (.cons rfl inferInstance (.cons rfl inferInstance (.nil))))) (.refl _) (fun w bs h1 h2 h3 h4 _ => insertionC_spec sv l 0 l.length g cap dom cv R hgc hg ho hd (by omega) (by omega) (by omega) w bs h1 h2 h3 (h4 _ hR))) (fun l27 => ?_)
    refine sw_imp fun hm => ?_
    refine sw_nil ?_
    refine post_then ?_
    refine cw_block ?_
    -- STOP at: loop
    refine cw_loop (S := Unit) (fun _ => [(1, [], .int .i64 l.length), (6, [], .int .i64 20)]) (fun _ => Cl w bs [ownL 3 sv.v l27]) (fun _ => True) (fun _ => 0) () trivial (by exact .cons rfl (.cons rfl .nil)) (fun _ h => h) ?_
    rintro ⟨⟩ _
    refine cw_seq ?_
    refine cw_seq ?_
    -- region 7
    refine cw_region ?_
    refine sw_step rfl rfl rfl (OpR.q (q_move rfl rfl)) ?_
    refine sw_step rfl rfl rfl (OpR.q (q_move rfl rfl)) ?_
    refine sw_step rfl rfl rfl (OpR.q (q_lss rfl rfl rfl)) ?_
    refine sw_nil ?_
    refine post_then ?_
    -- STOP at: cond
    refine cw_cond rfl (fun h2 => ?_) (fun h2 => ?_)
    · skip
      simp at h2; omega
    · skip
      refine cw_exit ?_
      refine post_then_x ?_
      refine post_then_x ?_
      refine post_blk_eq ?_
      refine post_end0 rfl ?_
      exact fun w' hw => ⟨l27, rfl, hm, hw⟩
theorem stableFunc_spec (sv : SlV) (l : List Int) (g : FuncId) (cap : Array Value) (dom : Int → Prop) (cv : Int → Int → Int) (R : World → Prop) (hgc : CanCall Try.prog g) (hg : CmpF Try.prog g cap dom cv R) (ho : PreO dom cv) (hd : ∀ k, k < l.length → dom (nth l k))
    (hl : l.length ≤ 19) (w : World) (bs : List Nat) (hs : Sep [ownL 3 sv.v l] w bs) (hn : bs.Nodup) (hlt : ∀ b ∈ bs, b < w.heap.size) (hR : Stb w bs R) :
    Calls Try.prog 57 #[sv.v, .func (.func g) #[] cap] w fun e w' => ∃ l' : List Int, e = .returned (.tuple #[]) ∧ (Mix l l' 0 l.length ∧ SrtC cv l' 0 l.length) ∧ Cl w bs [ownL 3 sv.v l'] w' := by
  refine calls_cw (vs := [_, _]) Try.func57 rfl Try.ntmps57 rfl (Cl.start hs hn hlt) ?_
  -- region 0
  refine cw_region ?_
  refine sw_step rfl rfl rfl (OpR.q (q_move rfl rfl)) ?_
  refine sw_step rfl rfl rfl (OpR.q (q_move rfl rfl)) ?_
  refine sw_step rfl rfl rfl (OpR.q (q_len rfl (.cons rfl inferInstance (.nil)) (by exact fun w hw => rd_own hw (by exact .head _)))) ?_
  refine sw_step rfl rfl rfl (OpR.q (q_move rfl rfl)) ?_
  -- STOP at: t8   := call {callee=(value F86), args=[t4, t6, t7], argTypes=[37, 3, 29]} :0
  refine sw_x rfl rfl rfl (e_callH (A := [ownL 3 sv.v l]) (F := []) (CanCall.mk Try.call86) rfl rfl (.cons rfl inferInstance (.cons rfl inferInstance (.cons rfl inferInstance (.nil)))) (.refl _) (fun w bs h1 h2 h3 h4 _ => stable_spec sv l g cap dom cv R hgc hg ho hd hl w bs h1 h2 h3 (h4 _ hR))) (fun l27 => ?_)
  refine sw_imp fun hm => ?_
  refine sw_nil ?_
  refine post_end0 rfl ?_
  exact fun w' hw => ⟨l27, rfl, hm, hw⟩

def badC (c : Chance) : Bool := !inB c.all 1 1099511627776 || !inB c.of 0 c.all
theorem holm1_spec : PredF Try.prog 56 #[] badC (fun _ => True) := by
  refine ⟨fun c w _ => ?_⟩
  obtain ⟨c1, c2⟩ := c
  refine calls_cw (vs := [_]) Try.func56 rfl Try.ntmps56 rfl (Cl.start0 w) ?_
  refine cw_seq ?_
  -- region 0
  refine cw_region ?_
  refine sw_x rfl rfl rfl (e_box rfl rfl rfl) (fun b1 => ?_)
  refine sw_step rfl rfl rfl (OpR.q (q_assign rfl rfl)) ?_
  refine sw_nil ?_
  refine post_then ?_
  refine cw_seq ?_
  -- region 1
  refine cw_region ?_
  refine sw_step rfl rfl rfl (OpR.q (q_fieldAddr rfl rfl)) ?_
  refine sw_step rfl rfl rfl (OpR.q (q_loadC rfl rfl (by exact .head _) rfl)) ?_
  refine sw_step rfl rfl rfl (q_call (CanCall.mk Try.call52) rfl (.cons rfl inferInstance (.cons rfl inferInstance (.cons rfl inferInstance (.nil)))) (fun _ w hw => callq hw (within_spec _ _ _ w))) ?_
  refine sw_step rfl rfl rfl (OpR.q (q_not rfl rfl)) ?_
  refine sw_step rfl rfl rfl (OpR.q (q_move rfl rfl)) ?_
  refine sw_step rfl rfl rfl (OpR.q (q_fieldAddr rfl rfl)) ?_
  refine sw_step rfl rfl rfl (OpR.q (q_loadC rfl rfl (by exact .head _) rfl)) ?_
  refine sw_step rfl rfl rfl (OpR.q (q_fieldAddr rfl rfl)) ?_
  refine sw_step rfl rfl rfl (OpR.q (q_loadC rfl rfl (by exact .head _) rfl)) ?_
  refine sw_step rfl rfl rfl (q_call (CanCall.mk Try.call52) rfl (.cons rfl inferInstance (.cons rfl inferInstance (.cons rfl inferInstance (.nil)))) (fun _ w hw => callq hw (within_spec _ _ _ w))) ?_
  refine sw_step rfl rfl rfl (OpR.q (q_not rfl rfl)) ?_
  refine sw_step rfl rfl rfl (OpR.q (q_or2 rfl rfl rfl)) ?_
  refine sw_step rfl rfl rfl (OpR.q (q_assign rfl rfl)) ?_
  refine sw_nil ?_
  refine post_then ?_
  refine cw_ret ?_
  refine post_ret1 rfl (resOk_tmp rfl) ?_
  exact fun w' hw => ⟨rfl, (fun w h => Cl.sel (by exact .nil _) w h) _ hw⟩
theorem okC_of {c : Chance} (h : badC c = false) : okC c ∧ 1 ≤ c.all := by
  simp [badC, inB] at h
  refine ⟨⟨⟨?_, ?_⟩, ?_, ?_⟩, ?_⟩ <;> omega
theorem cvC_pre {p : List Chance} (hp : ∀ c ∈ p, okC c ∧ 1 ≤ c.all) : PreO (domC p) (cvC p) := by
  have key : ∀ a b : Chance, 0 ≤ cmpC a b ↔ b.of * a.all ≤ a.of * b.all := fun a b => by
    simp only [cmpC, cmp3]
    split
    · omega
    · split <;> omega
  refine ⟨fun x y _ _ h => ?_, fun x y z hx hy hz h1 h2 => ?_⟩
  · by_cases h' : cvC p y x < 0
    · have k1 := key (nth p x.toNat) (nth p y.toNat)
      have k2 := key (nth p y.toNat) (nth p x.toNat)
      simp only [cvC] at h h'
      omega
    · omega
  · obtain ⟨hx1, hx2⟩ := hx
    obtain ⟨hy1, hy2⟩ := hy
    obtain ⟨hz1, hz2⟩ := hz
    have ox := hp (nth p x.toNat) (by rw [nth_get (by omega)]; exact List.getElem_mem _)
    have oy := hp (nth p y.toNat) (by rw [nth_get (by omega)]; exact List.getElem_mem _)
    have oz := hp (nth p z.toNat) (by rw [nth_get (by omega)]; exact List.getElem_mem _)
    simp only [cvC] at h1 h2 ⊢
    rw [key] at h1 h2 ⊢
    generalize nth p x.toNat = cx at *
    generalize nth p y.toNat = cy at *
    generalize nth p z.toNat = cz at *
    -- cx.of * cy.all ≤ cy.of * cx.all, cy.of * cz.all ≤ cz.of * cy.all
    have m1 : cx.of * cy.all * cz.all ≤ cy.of * cx.all * cz.all := Int.mul_le_mul_of_nonneg_right h1 (by omega)
    have m2 : cy.of * cz.all * cx.all ≤ cz.of * cy.all * cx.all := Int.mul_le_mul_of_nonneg_right h2 (by have := ox.2; omega)
    have e1 : cy.of * cx.all * cz.all = cy.of * cz.all * cx.all := Int.mul_right_comm _ _ _
    have e2 : cx.of * cy.all * cz.all = cx.of * cz.all * cy.all := Int.mul_right_comm _ _ _
    have e3 : cz.of * cy.all * cx.all = cz.of * cx.all * cy.all := Int.mul_right_comm _ _ _
    have m3 : cx.of * cz.all * cy.all ≤ cz.of * cx.all * cy.all := by omega
    exact Int.le_of_mul_le_mul_right m3 (by have := oy.2; omega)
end Go.Proofs.Ytekikelejncgeaa
