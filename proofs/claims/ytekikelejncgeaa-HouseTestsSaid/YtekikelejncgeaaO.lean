import Derived.Test.YtekikelejncgeaaN
set_option autoImplicit false
set_option linter.unusedSimpArgs false
set_option linter.unusedVariables false
set_option maxRecDepth 100000
namespace Go.Proofs.Ytekikelejncgeaa
open Go.Sx
open Enc (enc val)

def okC (c : Chance) : Prop := (0 ≤ c.of ∧ c.of ≤ 1099511627776) ∧ (0 ≤ c.all ∧ c.all ≤ 1099511627776)
def cmpC (a b : Chance) : Int := cmp3 (a.of * b.all) (b.of * a.all)
theorem cmp_parts (p q : Int) : orL [cmp3 (p / 18446744073709551616) (q / 18446744073709551616), cmp3 (p % 18446744073709551616) (q % 18446744073709551616)] = cmp3 p q := by
  simp only [orL, cmp3]
  repeat' split
  all_goals omega
theorem less_spec (a b : Chance) (ha : okC a) (hb : okC b) (w : World) : Calls Try.prog 59 #[val a, val b] w fun e w' => ∃ u : Unit, e = .returned (.int .i64 (cmpC a b)) ∧ True ∧ Cl w [] [] w' := by
  obtain ⟨a1, a2⟩ := a
  obtain ⟨c1, c2⟩ := b
  obtain ⟨⟨h1, h2⟩, h3, h4⟩ := ha
  obtain ⟨⟨g1, g2⟩, g3, g4⟩ := hb
  dsimp only at h1 h2 h3 h4 g1 g2 g3 g4
  refine calls_cw (vs := [_, _]) Try.func59 rfl Try.ntmps59 rfl (Cl.start0 w) ?_
  refine cw_seq ?_
  -- region 0
  refine cw_region ?_
  refine sw_x rfl rfl rfl (e_box rfl rfl rfl) (fun b2 => ?_)
  refine sw_x rfl rfl rfl (e_box rfl rfl rfl) (fun b3 => ?_)
  refine sw_step rfl rfl rfl (OpR.q (q_assign rfl rfl)) ?_
  refine sw_nil ?_
  refine post_then ?_
  refine cw_seq ?_
  -- region 1
  refine cw_region ?_
  refine sw_step rfl rfl rfl (OpR.q (q_fieldAddr rfl rfl)) ?_
  refine sw_step rfl rfl rfl (OpR.q (q_loadC rfl rfl (by exact .tail _ (.head _)) rfl)) ?_
  refine sw_step rfl rfl rfl (OpR.q (q_conv rfl rfl)) ?_
  refine sw_step rfl rfl rfl (OpR.q (q_fieldAddr rfl rfl)) ?_
  refine sw_step rfl rfl rfl (OpR.q (q_loadC rfl rfl (by exact .head _) rfl)) ?_
  refine sw_step rfl rfl rfl (OpR.q (q_conv rfl rfl)) ?_
  -- STOP at: t16  := call {callee=(value F87), args=[t12, t15], argTypes=[101, 101]} :119
  refine sw_step rfl rfl rfl (q_call (CanCall.mk Try.call87) rfl (.cons rfl inferInstance (.cons rfl inferInstance (.nil))) (fun _ w hw => callq hw (mul64_spec _ _ (by rw [wrap64]; omega) (by rw [wrap64]; omega) w))) ?_
  refine sw_step rfl rfl rfl (OpR.q (q_move rfl rfl)) ?_
  refine sw_step rfl rfl rfl (OpR.q (q_extract rfl rfl rfl)) ?_
  refine sw_step rfl rfl rfl (OpR.q (q_extract rfl rfl rfl)) ?_
  refine sw_step rfl rfl rfl (OpR.q (q_assign rfl rfl)) ?_
  refine sw_step rfl rfl rfl (OpR.q (q_assign rfl rfl)) ?_
  refine sw_nil ?_
  refine post_then ?_
  refine cw_seq ?_
  -- region 2
  refine cw_region ?_
  refine sw_step rfl rfl rfl (OpR.q (q_fieldAddr rfl rfl)) ?_
  refine sw_step rfl rfl rfl (OpR.q (q_loadC rfl rfl (by exact .head _) rfl)) ?_
  refine sw_step rfl rfl rfl (OpR.q (q_conv rfl rfl)) ?_
  refine sw_step rfl rfl rfl (OpR.q (q_fieldAddr rfl rfl)) ?_
  refine sw_step rfl rfl rfl (OpR.q (q_loadC rfl rfl (by exact .tail _ (.head _)) rfl)) ?_
  refine sw_step rfl rfl rfl (OpR.q (q_conv rfl rfl)) ?_
  -- STOP at: t26  := call {callee=(value F87), args=[t22, t25], argTypes=[101, 101]} :119
  refine sw_step rfl rfl rfl (q_call (CanCall.mk Try.call87) rfl (.cons rfl inferInstance (.cons rfl inferInstance (.nil))) (fun _ w hw => callq hw (mul64_spec _ _ (by rw [wrap64]; omega) (by rw [wrap64]; omega) w))) ?_
  refine sw_step rfl rfl rfl (OpR.q (q_move rfl rfl)) ?_
  refine sw_step rfl rfl rfl (OpR.q (q_extract rfl rfl rfl)) ?_
  refine sw_step rfl rfl rfl (OpR.q (q_extract rfl rfl rfl)) ?_
  refine sw_step rfl rfl rfl (OpR.q (q_assign rfl rfl)) ?_
  refine sw_step rfl rfl rfl (OpR.q (q_assign rfl rfl)) ?_
  refine sw_nil ?_
  refine post_then ?_
  refine cw_seq ?_
  -- region 3
  refine cw_region ?_
  refine sw_step rfl rfl rfl (OpR.q (q_move rfl rfl)) ?_
  refine sw_step rfl rfl rfl (OpR.q (q_move rfl rfl)) ?_
  refine sw_step rfl rfl rfl (q_call (CanCall.mk Try.call89) rfl (.cons rfl inferInstance (.cons rfl inferInstance (.nil))) (fun _ w hw => callq hw (compare_spec _ _ w))) ?_
  refine sw_step rfl rfl rfl (OpR.q (q_move rfl rfl)) ?_
  refine sw_step rfl rfl rfl (OpR.q (q_move rfl rfl)) ?_
  refine sw_step rfl rfl rfl (q_call (CanCall.mk Try.call89) rfl (.cons rfl inferInstance (.cons rfl inferInstance (.nil))) (fun _ w hw => callq hw (compare_spec _ _ w))) ?_
  -- STOP at: t35  := buildSlice 37 2 [<0, t31>, <1, t34>] :37
  refine sw_x rfl rfl rfl (e_buildL (α := Int) (l := [_, _]) rfl (.cons rfl inferInstance (.cons rfl inferInstance (.nil))) rfl rfl rfl rfl) (fun s35 => ?_)
  -- STOP at: t36  := call {callee=(value F88), args=[t35], argTypes=[37]} :3
  refine sw_step rfl rfl rfl (q_call (CanCall.mk Try.call88) rfl (.cons rfl inferInstance (.nil)) (fun _ w hw => callq hw (or_spec _ _ w (stb_own hw (.head _))))) ?_
  refine sw_step rfl rfl rfl (OpR.q (q_assign rfl rfl)) ?_
  refine sw_nil ?_
  refine post_then ?_
  refine cw_ret ?_
  refine post_ret1 rfl (resOk_tmp rfl) ?_
  refine fun w' hw => ⟨(), ?_, trivial, (fun w h => Cl.sel (by exact .nil _) w h) _ hw⟩
  rw [wrap_id (z := a1) (by omega), wrap_id (z := a2) (by omega), wrap_id (z := c1) (by omega), wrap_id (z := c2) (by omega)]
  rw [cmp_parts]
  rfl

/-- A function value that compares, and only reads. -/
structure CmpF (P : Program) (g : FuncId) (cap : Array Value) (dom : Int → Prop) (cv : Int → Int → Int) (R : World → Prop) : Prop where
  call : ∀ i j w, dom i → dom j → Stb w [] R → Calls P g ([.int .i64 i, .int .i64 j].toArray ++ cap) w fun e w' => e = .returned (.int .i64 (cv i j)) ∧ Cl w [] [] w'
def domC (p : List Chance) (i : Int) : Prop := 0 ≤ i ∧ i < p.length
def cvC (p : List Chance) (i j : Int) : Int := cmpC (nth p i.toNat) (nth p j.toNat)
theorem holm2_spec (sp : SlV) (p : List Chance) (b : Nat) (hp : ∀ c ∈ p, okC c) : CmpF Try.prog 58 #[.pointer (some ⟨b, 0, none⟩)] (domC p) (cvC p) (fun w => BlkAt b [sp.v] 22 w ∧ RdL sp.v p w) := by
  refine ⟨fun i j w hi hj hR => ?_⟩
  have h1 : Stb w [] (BlkAt b [sp.v] 22) := ⟨fun w' k => (hR.stb w' k).1⟩
  have h2 : Stb w [] (RdL sp.v p) := ⟨fun w' k => (hR.stb w' k).2⟩
  obtain ⟨hi1, hi2⟩ := hi
  obtain ⟨hj1, hj2⟩ := hj
  have hci : okC (nth p i.toNat) := by rw [nth_get (by omega)]; exact hp _ (List.getElem_mem _)
  have hcj : okC (nth p j.toNat) := by rw [nth_get (by omega)]; exact hp _ (List.getElem_mem _)
  refine calls_cw (vs := [_, _, _]) Try.func58 rfl Try.ntmps58 rfl (Cl.start0 w) ?_
  refine cw_seq ?_
  -- region 0
  refine cw_region ?_
  refine sw_step rfl rfl rfl (OpR.q (q_assign rfl rfl)) ?_
  refine sw_nil ?_
  refine post_then ?_
  refine cw_seq ?_
  -- region 1
  refine cw_region_q mixed_Try (by kernel_rfl) ?_
  refine qw_step rfl rfl rfl (OpR.q (q_loadS rfl rfl (fun w hw => Stb.cl (by assumption) hw) rfl)) ?_
  refine qw_step rfl rfl rfl (OpR.q (q_move rfl rfl)) ?_
  refine qw_step rfl rfl rfl (OpR.q (q_index rfl rfl rfl (by exact fun w hw => Stb.cl (by assumption) hw) (by intro hc; omega))) ?_
  refine qw_step rfl rfl rfl (OpR.q (q_loadEl rfl rfl rfl (by exact fun w hw => Stb.cl (by assumption) hw) (by intro hc; omega))) ?_
  refine qw_step rfl rfl rfl (OpR.q (q_loadS rfl rfl (fun w hw => Stb.cl (by assumption) hw) rfl)) ?_
  refine qw_step rfl rfl rfl (OpR.q (q_move rfl rfl)) ?_
  refine qw_step rfl rfl rfl (OpR.q (q_index rfl rfl rfl (by exact fun w hw => Stb.cl (by assumption) hw) (by intro hc; omega))) ?_
  refine qw_step rfl rfl rfl (OpR.q (q_loadEl rfl rfl rfl (by exact fun w hw => Stb.cl (by assumption) hw) (by intro hc; omega))) ?_
  refine qw_step rfl rfl rfl (q_call (CanCall.mk Try.call59) rfl (.cons rfl inferInstance (.cons rfl inferInstance (.nil))) (fun _ w hw => callq hw ((less_spec _ _ (by assumption) (by assumption) w).mono fun e w' ⟨_, h1, _, h2⟩ => ⟨h1, h2⟩))) ?_
  refine qw_step rfl rfl rfl (OpR.q (q_assign rfl rfl)) ?_
  refine qw_end ?_
  refine post_then ?_
  refine cw_ret ?_
  refine post_ret1 rfl (resOk_tmp rfl) ?_
  exact fun w' hw => ⟨rfl, hw⟩
end Go.Proofs.Ytekikelejncgeaa
