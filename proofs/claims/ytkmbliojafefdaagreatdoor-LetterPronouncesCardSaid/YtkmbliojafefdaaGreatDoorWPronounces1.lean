import Derived.Test.YtkmbliojafefdaaGreatDoorWPronounces0
import Derived.Test.YtkmbliojafefdaaGreatDoorRows
import Derived.LaidMore
import Derived.Lay
import Derived.Stop.Joined
import Derived.Test.YtkmbliojafefdaaGreatDoorVPronounces1

set_option autoImplicit false
set_option linter.unusedSimpArgs false
set_option linter.unusedVariables false
set_option maxRecDepth 100000
namespace Go.Proofs.YtkmbliojafefdaaGreatDoor
open Go.Sx
open Enc (enc val)
theorem refPron_spec (sl : SlV) (b : Bk) (l : List Sp) (s : ByteArray) (hz : s.size ≤ 1000) (hpl : ∀ u ∈ l, u.pl.length ≤ 1000) (hg : BGood b.bl) (w : World) (hs : Stb w [] (RdL sl.v l)) (hp : Stb w [] fun w' => ∀ u ∈ l, SpIn u w') (hb : Stb w [] (BkIn b)) :
    Calls Tryz.prog 58 #[sl.v, val b, .string s] w fun e w' => ∃ r : SlV, e = .returned r.v ∧ True ∧ Cl w [] [ownL 136 r.v (pronC l b.bl s)] w' := by
  have hL := rd_len hs.here
  have hib := idxW_bd l s
  have hrs := runes_len_le s
  refine calls_cw (vs := [_, _, _]) Tryz.func58 rfl Tryz.ntmps58 rfl (Cl.start0 w) (cw_seq (cw_region ?_))
  refine sw_x rfl rfl rfl (e_box rfl rfl rfl) (fun b4 => ?_)
  refine sr rfl rfl rfl ((q_assign rfl rfl)) (sw_nil (post_then (cw_seq (cw_region (sr rfl rfl rfl ((q_assign rfl rfl)) (sw_nil (post_then (cw_seq (cw_seq (cw_region (sr rfl rfl rfl ((q_move rfl rfl)) (sr rfl rfl rfl ((q_move rfl rfl)) (sw_step rfl rfl rfl (q_call (CanCall.mk Tryz.call97) rfl (.cons rfl inferInstance (.cons rfl inferInstance (.nil))) (fun _ w hw => callq hw (index_spec _ l _ w (stb_arg hw hs)))) (sr rfl rfl rfl ((q_assign rfl rfl)) (sw_nil (post_then (cw_seq (cw_region (sr rfl rfl rfl ((q_move rfl rfl)) (sr rfl rfl rfl ((q_geq rfl rfl rfl)) (sw_nil (post_then ?_))))))))))))))))))))))
  refine cw_cond rfl (fun h => ?_) (fun h => ?_)
  · skip
    have h1 : 0 ≤ idxW l s := by simpa using h
    have e1 : pronC l b.bl s = entS l (idxW l s) := by unfold pronC; rw [if_pos h1]
    rw [e1]
    obtain ⟨i, hi⟩ : ∃ i, idxW l s = i := ⟨_, rfl⟩
    rw [hi] at h1 hib ⊢
    have him : i.toNat < l.length := by omega
    have hxs : Stb w [] (RdL (nth l i.toNat).p.v (nth l i.toNat).pl) := stb_mem hp (nth_mem him)
    have hxl := hpl _ (nth_mem him)
    have hxL := rd_len hxs.here
    refine cw_seq (cw_seq (cw_region (sr rfl rfl rfl ((q_assign rfl rfl)) (sw_nil (post_then (cw_block ?_))))))
    refine cw_loop (S := Nat × SlV) (fun y => [(0, [], sl.v), (7, [], y.2.v), (8, [], .int .i64 i), (9, [], .int .i64 y.1)]) (fun y => Cl w [] [ownL 136 y.2.v ((entS l i).take y.1)]) (fun y => y.1 ≤ (nth l i.toNat).pl.length) (fun y => (nth l i.toNat).pl.length - y.1) (0, ⟨none, 0, 0⟩) (by simp) (by exact .cons rfl (.cons rfl (.cons rfl (.cons rfl .nil)))) (fun w' h => Cl.addNil 136 ((fun w h => Cl.sel (by exact .nil _) w h) _ h)) ?_
    rintro ⟨j, so⟩ hj
    dsimp only at hj ⊢
    have htl : ((entS l i).take j).length ≤ 1000 := by rw [List.length_take]; omega
    refine cw_seq (cw_seq (cw_region (sr rfl rfl rfl ((q_move rfl rfl)) (sr rfl rfl rfl ((q_move rfl rfl)) (sr rfl rfl rfl ((q_move rfl rfl)) ?_)))))
    refine sr rfl rfl rfl ((q_index rfl rfl rfl (by exact fun w hw => Stb.cl (by assumption) hw) (by intro hc; omega))) ?_
    refine sr rfl rfl rfl ((q_fieldEl rfl rfl (by exact fun w hw => Stb.cl (by assumption) hw) (by intro hc; omega))) ?_
    refine sr rfl rfl rfl ((q_loadF rfl rfl rfl (by exact fun w hw => Stb.cl (by assumption) hw) (by intro hc; omega) rfl)) ?_
    refine sr rfl rfl rfl ((q_len rfl (.cons rfl inferInstance (.nil)) (by exact fun w hw => Stb.cl (by assumption) hw))) ?_
    refine sr rfl rfl rfl ((q_lss rfl rfl rfl)) (sw_nil (post_then ?_))
    refine cw_cond rfl (fun h2 => ?_) (fun h2 => ?_)
    · skip
      have hj' : j < (nth l i.toNat).pl.length := by simp at h2; omega
      have hst := sndS_take (fr := 0) (why := 1) (ix := i) hj'
      refine cw_skip (post_then (cw_seq (cw_block (cw_region (sr rfl rfl rfl ((q_move rfl rfl)) (sr rfl rfl rfl ((q_move rfl rfl)) (sr rfl rfl rfl ((q_move rfl rfl)) ?_)))))))
      refine sr rfl rfl rfl ((q_index rfl rfl rfl (by exact fun w hw => Stb.cl (by assumption) hw) (by intro hc; omega))) ?_
      refine sr rfl rfl rfl ((q_fieldEl rfl rfl (by exact fun w hw => Stb.cl (by assumption) hw) (by intro hc; omega))) ?_
      refine sr rfl rfl rfl ((q_loadF rfl rfl rfl (by exact fun w hw => Stb.cl (by assumption) hw) (by intro hc; omega) rfl)) ?_
      refine sr rfl rfl rfl ((q_move rfl rfl)) ?_
      refine sr rfl rfl rfl ((q_indexN rfl rfl rfl (by exact fun w hw => Stb.cl (by assumption) hw) (by intro hc; omega))) ?_
      refine sr rfl rfl rfl ((q_loadEl rfl rfl rfl (by exact fun w hw => Stb.cl (by assumption) hw) (by intro hc; omega))) ?_
      refine sr rfl rfl rfl ((q_move rfl rfl)) (sr rfl rfl rfl ((q_build rfl (.cons rfl inferInstance (.cons rfl inferInstance (.cons rfl inferInstance (.nil)))) rfl)) ?_)
      refine sw_x rfl rfl rfl (e_build1 (α := Snd) (x := (⟨nth (nth l i.toNat).pl j, 0, 1, i⟩ : Snd)) rfl rfl rfl rfl) (fun s41 => ?_)
      refine sw_x rfl rfl rfl (e_append (i := 1) rfl (.cons rfl inferInstance (.cons rfl inferInstance (.nil))) rfl rfl (by exact fun w hw => rd_own hw (by exact .head _)) (by first | omega | (simp only [List.length_set, List.length_append, List.length_cons, List.length_nil, List.length_replicate, List.length_take, List.length_drop, List.length_map]; omega)) rfl) (fun s42 => ?_)
      refine sr rfl rfl rfl ((q_assign rfl rfl)) (sw_nil (post_blk (post_then (cw_region (sr rfl rfl rfl ((q_move rfl rfl)) ?_)))))
      refine sr rfl rfl rfl ((q_add rfl rfl rfl (by intro hc; omega))) ?_
      refine sr rfl rfl rfl ((q_assign rfl rfl)) (sw_nil ?_)
      exact post_next (j + 1, s42) (by exact .cons rfl (.cons rfl (.cons rfl (.cons rfl .nil)))) (fun w' h => by simp only; unfold entS at h ⊢; rw [hst]; exact (fun w h => Cl.sel (by exact .take 1 rfl (.nil _)) w h) _ h) (by simp only; omega) (by simp only; omega)
    · skip
      have hj' : j = (nth l i.toNat).pl.length := by simp at h2; omega
      subst hj'
      have hst : (entS l i).take (nth l i.toNat).pl.length = entS l i := sndS_all
      rw [hst]
      refine cw_exit (post_then_x (post_then_x (post_blk_eq (post_then (cw_seq (cw_region (sr rfl rfl rfl ((q_move rfl rfl)) (sr rfl rfl rfl ((q_assign rfl rfl)) (sw_nil (post_then (cw_ret (post_then_r (post_ret1 rfl (resOk_tmp rfl) ?_)))))))))))))
      exact fun w' hw => ⟨so, rfl, trivial, hw⟩
  · skip
    have h1 : ¬ 0 ≤ idxW l s := by simpa using h
    have e1 : pronC l b.bl s = if splV (okW l s) s.size 0 < 0 then sayC b.bl (runes s) else parF l 0 (splS l s) := by unfold pronC; rw [if_neg h1]
    rw [e1]
    refine cw_skip (post_then (cw_seq (cw_region (sr rfl rfl rfl ((q_move rfl rfl)) (sr rfl rfl rfl ((q_move rfl rfl)) ?_)))))
    refine sw_x rfl rfl rfl (e_call (CanCall.mk Tryz.call54) rfl (.cons rfl inferInstance (.cons rfl inferInstance (.nil))) (fun w1 hw => refSplit_spec sl l s hz w1 (stb_arg hw hs))) (fun s46 => ?_)
    refine sw_imp fun _ => ?_
    obtain ⟨ps, hps⟩ : ∃ ps, (if splV (okW l s) s.size 0 < 0 then [] else splS l s) = ps := ⟨_, rfl⟩
    have hmem : ∀ q ∈ ps, 0 ≤ idxW l q ∧ q.size ≤ s.size := by
      rw [← hps]
      split
      · intro q hq; cases hq
      · rename_i hh; exact splS_mem hh
    have hle : ps.length ≤ s.size + 1 := by
      rw [← hps]
      split
      · simp
      · rename_i hh; exact splS_le l s hh
    have hend : (0 < ps.length → ¬ splV (okW l s) s.size 0 < 0 ∧ ps = splS l s) ∧ (ps.length = 0 → splV (okW l s) s.size 0 < 0) := by
      rw [← hps]
      split
      · rename_i hh; exact ⟨fun h => by simp at h, fun _ => hh⟩
      · rename_i hh; exact ⟨fun _ => ⟨hh, rfl⟩, fun h => by have := splS_pos hh; omega⟩
    rw [hps]
    refine sr rfl rfl rfl ((q_assign rfl rfl)) (sw_nil (post_then (cw_seq (cw_region (sr rfl rfl rfl ((q_assign rfl rfl)) (sw_nil (post_then (cw_seq (cw_seq (cw_region (sr rfl rfl rfl ((q_assign rfl rfl)) (sw_nil (post_then (cw_block ?_))))))))))))))
    refine cw_loop (S := Nat × Int × SlV × List Snd) (fun y => [(0, [], sl.v), (2, [], .string s), (4, [], .pointer (some ⟨b4, 0, none⟩)), (7, [], y.2.2.1.v), (10, [], s46.v), (11, [], .int .i64 y.2.1), (12, [], .int .i64 y.1)]) (fun y => Cl w [] [ownL 136 y.2.2.1.v y.2.2.2, ownL 9 s46.v ps, blk b4 [b.b.v] 45]) (fun y => y.1 ≤ ps.length ∧ 0 ≤ y.2.1 ∧ y.2.1 ≤ 1000 * y.1 ∧ y.2.2.2.length ≤ 1000 * y.1 ∧ parF l 0 ps = y.2.2.2 ++ parF l y.2.1 (ps.drop y.1)) (fun y => ps.length - y.1) (0, 0, ⟨none, 0, 0⟩, []) ⟨by simp, by simp, by simp, by simp, by simp⟩ (by exact .cons rfl (.cons rfl (.cons rfl (.cons rfl (.cons rfl (.cons rfl (.cons rfl .nil))))))) (fun w' h => Cl.addNil 136 ((fun w h => Cl.sel (by exact .take 0 rfl (.take 0 rfl (.nil _))) w h) _ h)) ?_
    rintro ⟨k, fr, so, out⟩ ⟨hk, hf0, hf1, hol, hout⟩
    dsimp only at hk hf0 hf1 hol hout ⊢
    refine cw_seq (cw_seq (cw_region (sr rfl rfl rfl ((q_move rfl rfl)) (sr rfl rfl rfl ((q_move rfl rfl)) ?_))))
    refine sr rfl rfl rfl ((q_len rfl (.cons rfl inferInstance (.nil)) (by exact fun w hw => rd_own hw (by exact .tail _ (.head _))))) ?_
    refine sr rfl rfl rfl ((q_lss rfl rfl rfl)) (sw_nil (post_then ?_))
    refine cw_cond rfl (fun h2 => ?_) (fun h2 => ?_)
    · skip
      have hk' : k < ps.length := by simp at h2; omega
      obtain ⟨q, hq⟩ : ∃ q, nth ps k = q := ⟨_, rfl⟩
      have hqm := hmem q (by rw [← hq]; exact nth_mem hk')
      have hst := parF_drop (l := l) (fr := fr) hk'
      rw [hq] at hst
      obtain ⟨i, hi⟩ : ∃ i, idxW l q = i := ⟨_, rfl⟩
      have hib := idxW_bd l q
      rw [hi] at hst hqm hib
      have him : i.toNat < l.length := by omega
      have hxs : Stb w [] (RdL (nth l i.toNat).p.v (nth l i.toNat).pl) := stb_mem hp (nth_mem him)
      have hxl := hpl _ (nth_mem him)
      have hxL := rd_len hxs.here
      have hrl := runes_len_le q
      rw [hst] at hout
      refine cw_skip (post_then (cw_seq (cw_block (cw_seq (cw_region (sr rfl rfl rfl ((q_move rfl rfl)) (sr rfl rfl rfl ((q_move rfl rfl)) (sr rfl rfl rfl ((q_move rfl rfl)) ?_))))))))
      refine sr rfl rfl rfl ((q_indexN rfl rfl rfl (by exact fun w hw => rd_own hw (by exact .tail _ (.head _))) (by intro hc; omega))) ?_
      refine sr rfl rfl rfl ((q_loadEl rfl rfl rfl (by exact fun w hw => rd_own hw (by exact .tail _ (.head _))) (by intro hc; omega))) ?_
      rw [hq]
      refine sw_step rfl rfl rfl (q_call (CanCall.mk Tryz.call97) rfl (.cons rfl inferInstance (.cons rfl inferInstance (.nil))) (fun _ w1 hw => callq hw (index_spec _ l q w1 (stb_arg hw hs)))) ?_
      rw [hi]
      refine sr rfl rfl rfl ((q_assign rfl rfl)) (sw_nil (post_then (cw_seq (cw_seq (cw_region (sr rfl rfl rfl ((q_assign rfl rfl)) (sw_nil (post_then (cw_block ?_)))))))))
      refine cw_loop (S := Nat × SlV × List Snd) (fun y => [(0, [], sl.v), (2, [], .string s), (4, [], .pointer (some ⟨b4, 0, none⟩)), (7, [], y.2.1.v), (10, [], s46.v), (11, [], .int .i64 fr), (12, [], .int .i64 k), (13, [], .int .i64 i), (14, [], .int .i64 y.1)]) (fun y => Cl w [] [ownL 136 y.2.1.v y.2.2, ownL 9 s46.v ps, blk b4 [b.b.v] 45]) (fun y => y.1 ≤ (nth l i.toNat).pl.length ∧ y.2.2 = out ++ (sndS (nth l i.toNat).pl fr 2 i).take y.1) (fun y => (nth l i.toNat).pl.length - y.1) (0, so, out) ⟨by simp, by simp⟩ (by exact .cons rfl (.cons rfl (.cons rfl (.cons rfl (.cons rfl (.cons rfl (.cons rfl (.cons rfl (.cons rfl .nil))))))))) (fun w' h => h) ?_
      rintro ⟨j, so2, out2⟩ ⟨hj, hout2⟩
      dsimp only at hj hout2 ⊢
      have hol2 : out2.length ≤ 1000 * k + 1000 := by rw [hout2, List.length_append, List.length_take, sndS_len]; omega
      refine cw_seq (cw_seq (cw_region (sr rfl rfl rfl ((q_move rfl rfl)) (sr rfl rfl rfl ((q_move rfl rfl)) (sr rfl rfl rfl ((q_move rfl rfl)) ?_)))))
      refine sr rfl rfl rfl ((q_index rfl rfl rfl (by exact fun w hw => Stb.cl (by assumption) hw) (by intro hc; omega))) ?_
      refine sr rfl rfl rfl ((q_fieldEl rfl rfl (by exact fun w hw => Stb.cl (by assumption) hw) (by intro hc; omega))) ?_
      refine sr rfl rfl rfl ((q_loadF rfl rfl rfl (by exact fun w hw => Stb.cl (by assumption) hw) (by intro hc; omega) rfl)) ?_
      refine sr rfl rfl rfl ((q_len rfl (.cons rfl inferInstance (.nil)) (by exact fun w hw => Stb.cl (by assumption) hw))) ?_
      refine sr rfl rfl rfl ((q_lss rfl rfl rfl)) (sw_nil (post_then ?_))
      refine cw_cond rfl (fun h3 => ?_) (fun h3 => ?_)
      · skip
        have hj' : j < (nth l i.toNat).pl.length := by simp at h3; omega
        have hst2 := sndS_take (fr := fr) (why := 2) (ix := i) hj'
        refine cw_skip (post_then (cw_seq (cw_block (cw_region (sr rfl rfl rfl ((q_move rfl rfl)) (sr rfl rfl rfl ((q_move rfl rfl)) (sr rfl rfl rfl ((q_move rfl rfl)) ?_)))))))
        refine sr rfl rfl rfl ((q_index rfl rfl rfl (by exact fun w hw => Stb.cl (by assumption) hw) (by intro hc; omega))) ?_
        refine sr rfl rfl rfl ((q_fieldEl rfl rfl (by exact fun w hw => Stb.cl (by assumption) hw) (by intro hc; omega))) ?_
        refine sr rfl rfl rfl ((q_loadF rfl rfl rfl (by exact fun w hw => Stb.cl (by assumption) hw) (by intro hc; omega) rfl)) ?_
        refine sr rfl rfl rfl ((q_move rfl rfl)) ?_
        refine sr rfl rfl rfl ((q_indexN rfl rfl rfl (by exact fun w hw => Stb.cl (by assumption) hw) (by intro hc; omega))) ?_
        refine sr rfl rfl rfl ((q_loadEl rfl rfl rfl (by exact fun w hw => Stb.cl (by assumption) hw) (by intro hc; omega))) ?_
        refine sr rfl rfl rfl ((q_move rfl rfl)) (sr rfl rfl rfl ((q_move rfl rfl)) (sr rfl rfl rfl ((q_build rfl (.cons rfl inferInstance (.cons rfl inferInstance (.cons rfl inferInstance (.cons rfl inferInstance (.nil))))) rfl)) ?_))
        refine sw_x rfl rfl rfl (e_build1 (α := Snd) (x := (⟨nth (nth l i.toNat).pl j, fr, 2, i⟩ : Snd)) rfl rfl rfl rfl) (fun s81 => ?_)
        refine sw_x rfl rfl rfl (e_append (i := 1) rfl (.cons rfl inferInstance (.cons rfl inferInstance (.nil))) rfl rfl (by exact fun w hw => rd_own hw (by exact .head _)) (by first | omega | (simp only [List.length_set, List.length_append, List.length_cons, List.length_nil, List.length_replicate, List.length_take, List.length_drop, List.length_map]; omega)) rfl) (fun s82 => ?_)
        refine sr rfl rfl rfl ((q_assign rfl rfl)) (sw_nil (post_blk (post_then (cw_region (sr rfl rfl rfl ((q_move rfl rfl)) ?_)))))
        refine sr rfl rfl rfl ((q_add rfl rfl rfl (by intro hc; omega))) ?_
        refine sr rfl rfl rfl ((q_assign rfl rfl)) (sw_nil ?_)
        exact post_next (j + 1, s82, out2 ++ [(⟨nth (nth l i.toNat).pl j, fr, 2, i⟩ : Snd)]) (by exact .cons rfl (.cons rfl (.cons rfl (.cons rfl (.cons rfl (.cons rfl (.cons rfl (.cons rfl (.cons rfl .nil))))))))) (fun w' h => (fun w h => Cl.sel (by exact .take 1 rfl (.take 1 rfl (.take 1 rfl (.nil _)))) w h) _ h) ⟨by simp only; omega, by simp only; rw [hst2, hout2, List.append_assoc]⟩ (by simp only; omega)
      · skip
        have hj' : j = (nth l i.toNat).pl.length := by simp at h3; omega
        subst hj'
        rw [sndS_all] at hout2
        refine cw_exit (post_then_x (post_then_x (post_blk_eq (post_then (cw_region (sr rfl rfl rfl ((q_move rfl rfl)) (sr rfl rfl rfl ((q_move rfl rfl)) (sr rfl rfl rfl ((q_move rfl rfl)) ?_))))))))
        refine sr rfl rfl rfl ((q_indexN rfl rfl rfl (by exact fun w hw => rd_own hw (by exact .tail _ (.head _))) (by intro hc; omega))) ?_
        refine sr rfl rfl rfl ((q_loadEl rfl rfl rfl (by exact fun w hw => rd_own hw (by exact .tail _ (.head _))) (by intro hc; omega))) ?_
        rw [hq]
        refine sw_x rfl rfl rfl (e_runes rfl rfl Tryz.underlying9 Tryz.underlying21 (by omega)) (fun s88 => ?_)
        refine sr rfl rfl rfl ((q_len rfl (.cons rfl inferInstance (.nil)) (by exact fun w hw => rd_own hw (by exact .head _)))) ?_
        refine sr rfl rfl rfl ((q_add rfl rfl rfl (by intro hc; omega))) ?_
        refine sr rfl rfl rfl ((q_assign rfl rfl)) (sw_nil (post_blk (post_then (cw_region (sr rfl rfl rfl ((q_move rfl rfl)) ?_)))))
        refine sr rfl rfl rfl ((q_add rfl rfl rfl (by intro hc; omega))) ?_
        refine sr rfl rfl rfl ((q_assign rfl rfl)) (sw_nil ?_)
        refine post_next (k + 1, fr + (runes q).length, so2, out2) (by exact .cons rfl (.cons rfl (.cons rfl (.cons rfl (.cons rfl (.cons rfl (.cons rfl .nil))))))) (fun w' h => (fun w h => Cl.sel (by exact .take 1 rfl (.take 1 rfl (.take 1 rfl (.nil _)))) w h) _ h) ⟨by simp only; omega, by simp only; omega, by simp only; omega, by simp only; omega, ?_⟩ (by simp only; omega)
        simp only
        rw [hout, hout2, List.append_assoc]
    · skip
      have hk' : k = ps.length := by simp at h2; omega
      rw [parF_end (by omega), List.append_nil] at hout
      refine cw_exit (post_then_x (post_then_x (post_blk_eq (post_then (cw_seq (cw_seq (cw_region (sr rfl rfl rfl ((q_move rfl rfl)) ?_))))))))
      refine sr rfl rfl rfl ((q_len rfl (.cons rfl inferInstance (.nil)) (by exact fun w hw => rd_own hw (by exact .tail _ (.head _))))) ?_
      refine sr rfl rfl rfl ((q_gtr rfl rfl rfl)) (sw_nil (post_then ?_))
      refine cw_cond rfl (fun h3 => ?_) (fun h3 => ?_)
      · skip
        have h4 := hend.1 (by simp only [decide_eq_true_eq] at h3; omega)
        refine cw_seq (cw_region (sr rfl rfl rfl ((q_move rfl rfl)) (sr rfl rfl rfl ((q_assign rfl rfl)) (sw_nil (post_then (cw_ret (post_then_r (post_ret1 rfl (resOk_tmp rfl) ?_))))))))
        exact fun w' hw => ⟨so, rfl, trivial, by rw [if_neg h4.1, ← h4.2, hout]; exact (fun w h => Cl.sel (by exact .take 0 rfl (.nil _)) w h) _ hw⟩
      · skip
        have h4 := hend.2 (by simp only [decide_eq_false_iff_not] at h3; omega)
        refine cw_skip (post_then (cw_seq (cw_region ?_)))
        refine sr rfl rfl rfl ((q_loadA rfl rfl (by exact .tail _ (.tail _ (.head _))) rfl)) ?_
        refine sr rfl rfl rfl ((q_move rfl rfl)) ?_
        refine sw_x rfl rfl rfl (e_runes rfl rfl Tryz.underlying9 Tryz.underlying21 (by omega)) (fun s97 => ?_)
        refine sw_x rfl rfl rfl (e_call (CanCall.mk Tryz.call43) rfl (.cons rfl inferInstance (.cons rfl inferInstance (.nil))) (fun w1 hw => refSay_spec b _ (runes s) (by omega) hg w1 (stb_arg hw hb) (stb_own hw (by exact .head _)))) (fun s98 => ?_)
        refine sw_imp fun _ => (sr rfl rfl rfl ((q_assign rfl rfl)) (sw_nil (post_then (cw_ret (post_ret1 rfl (resOk_tmp rfl) ?_)))))
        exact fun w' hw => ⟨s98, rfl, trivial, by rw [if_pos h4]; exact (fun w h => Cl.sel (by exact .take 0 rfl (.nil _)) w h) _ hw⟩
end Go.Proofs.YtkmbliojafefdaaGreatDoor

/- Method values: functions with their first argument bound. General lemmas, no program text. -/
set_option autoImplicit false
set_option linter.unusedSectionVars false
namespace Go.Sx
open Enc (enc val)
section
variable {P : Program} {n : Fr} {E : Env} {C : World → Prop} {cs : List Bool} {o : Oper} {w0 : World} {fp : List Nat} {H : List Asn}
theorem q_func_b {f : Fn} {l : List Operand} {vs : List Value} (ho : o.op = .makeFunc f l.toArray #[]) (hv : Evs E cs l vs) : OpR P n E C cs o (.func f vs.toArray #[]) :=
  .of_run fun e he hc w _ => by
    unfold execOp; simp only [ho]
    rw [List.map_toArray, hv.eval he hc]
    simp [Instr.makeFunc]
theorem e_callB {α : Type} {vf : α → Value} {p : α → Prop} {B : α → List Asn} {f : FuncId} {first : Array Value} {x : Operand} {cx : List Bool} {l : List Operand} {ts : Array TypeId} {vs : List Value} (hf : CanCall P f) (ho : o.op = .call { callee := .value x, args := l.toArray, argTypes := ts })
    (hx : evl E x = some (cx, .func (.func f) first #[])) [hs : Sub cx []] (hv : Evs E [] l vs)
    (h : ∀ w, Cl w0 fp H w → Calls P f (first ++ vs.toArray) w fun e w' => ∃ x, e = .returned (vf x) ∧ p x ∧ Cl w [] (B x) w') : OpE P n E (Cl w0 fp H) o (fun v w' => ∃ x, v = vf x ∧ p x ∧ Cl w0 fp (B x ++ H) w') :=
  .of_call (f := f) (args := first ++ vs.toArray) (fun a w ha hw => by
    unfold execOp; simp only [ho]
    simp only [resolve, ha.eval hx hs AllT.nil, Deferred.ofValue, invoke, List.map_toArray, hv.eval ha AllT.nil, Sem.run_bind, Sem.run_pure, Result.andThen_ok, Array.append_empty]
    simp [hf.run]) fun w hw => (h w hw).mono fun e w' ⟨x, he, hp, hc⟩ => ⟨_, he, x, rfl, hp, hw.split0.2.2 _ _ hc⟩
end
end Go.Sx

set_option autoImplicit false
set_option maxRecDepth 100000
namespace Go.Proofs.YtkmbliojafefdaaGreatDoor
open Go.Sx
open Enc (enc val)
/-- A method value: a function, the block of its receiver. -/
structure Fv where
  g : Nat
  b : Nat
instance : Inhabited Fv := ⟨⟨0, 0⟩⟩
instance : Enc Fv := ⟨fun u => [.func (.func u.g) #[.pointer (some ⟨u.b, 0, none⟩)] #[]], 1, fun u => .func (.func u.g) #[.pointer (some ⟨u.b, 0, none⟩)] #[], fun _ => rfl, by simp [Value.oneCell'], fun _ => rfl, by decide⟩
instance : HasTy Tryz.prog 132 Fv := hasTy_cell Tryz.sizeOf132 Tryz.isAgg132 rfl (fun _ => rfl)
def pronE (l : List Sp) (bl : List Let) (s : ByteArray) : Int := if lexE l = 0 then (if bookOk bl && wordOk s then (if 120 < (pronC l bl s).length then 4 else 0) else 2) else lexE l
def pronR (l : List Sp) (bl : List Let) (s : ByteArray) : List Snd := if pronE l bl s = 0 then pronC l bl s else []
/-- The three ways: which function, whether it says something, what. -/
def wayG (k : Nat) : Nat := if k = 0 then 102 else if k = 1 then 103 else 79
def wayB (l : List Sp) (s : ByteArray) (k : Nat) : Bool := if k = 0 then decide (0 ≤ idxW l s) else if k = 1 then decide (¬ splV (okW l s) s.size 0 < 0) else true
def wayR (l : List Sp) (bl : List Let) (s : ByteArray) (k : Nat) : List Snd := if k = 0 then (if 0 ≤ idxW l s then entS l (idxW l s) else []) else if k = 1 then (if splV (okW l s) s.size 0 < 0 then [] else parF l 0 (splS l s)) else sayC bl (runes s)
theorem way_can (k : Nat) : CanCall Tryz.prog (wayG k) := by
  unfold wayG
  split
  · exact CanCall.mk Tryz.call102
  · split
    · exact CanCall.mk Tryz.call103
    · exact CanCall.mk Tryz.call79
theorem way_spec (k bs : Nat) (lx : SlV) (b : Bk) (l : List Sp) (s : ByteArray) (hz : s.size ≤ 1000) (hn : (runes s).length ≤ 80) (hr : riseB spC l = true) (hpl : ∀ u ∈ l, u.pl.length ≤ 1000) (hg : BGood b.bl) (w : World) (hsp : Stb w [] (BlkAt bs [lx.v, b.b.v] 131)) (hs : Stb w [] (RdL lx.v l)) (hp : Stb w [] fun w' => ∀ u ∈ l, SpIn u w') (hb : Stb w [] (BkIn b)) :
    Calls Tryz.prog (wayG k) #[.pointer (some ⟨bs, 0, none⟩), .string s] w fun e w' => ∃ r : SlV, e = .returned (.tuple #[r.v, .bool (wayB l s k)]) ∧ True ∧ Cl w [] [ownL 136 r.v (wayR l b.bl s k)] w' := by
  unfold wayG wayB wayR
  by_cases h0 : k = 0
  · simp only [if_pos h0]
    exact entry_spec bs lx b l s hr hpl w hsp hs hp
  · simp only [if_neg h0]
    by_cases h1 : k = 1
    · simp only [if_pos h1]
      exact speakParts_spec bs lx b l s hz hr hpl w hsp hs hp
    · simp only [if_neg h1]
      exact rules_spec bs lx b s (by omega) hn hg w hsp hb
theorem wayB_0 (l : List Sp) (s : ByteArray) : wayB l s 0 = decide (0 ≤ idxW l s) := rfl
theorem wayB_1 (l : List Sp) (s : ByteArray) : wayB l s 1 = decide (¬ splV (okW l s) s.size 0 < 0) := rfl
theorem wayR_0 (l : List Sp) (bl : List Let) (s : ByteArray) : wayR l bl s 0 = if 0 ≤ idxW l s then entS l (idxW l s) else [] := rfl
theorem wayR_1 (l : List Sp) (bl : List Let) (s : ByteArray) : wayR l bl s 1 = if splV (okW l s) s.size 0 < 0 then [] else parF l 0 (splS l s) := rfl
theorem wayR_2 (l : List Sp) (bl : List Let) (s : ByteArray) : wayR l bl s 2 = sayC bl (runes s) := rfl
theorem way_is {l : List Sp} {bl : List Let} {s : ByteArray} {k : Nat} (hk : k < 3) (h0 : ∀ j, j < k → wayB l s j = false) (h1 : wayB l s k = true) : wayR l bl s k = pronC l bl s := by
  unfold pronC
  rcases (by omega : k = 0 ∨ k = 1 ∨ k = 2) with rfl | rfl | rfl
  · rw [wayB_0, decide_eq_true_eq] at h1
    rw [wayR_0, if_pos h1, if_pos h1]
  · have g0 := h0 0 (by omega)
    rw [wayB_0, decide_eq_false_iff_not] at g0
    rw [wayB_1, decide_eq_true_eq] at h1
    rw [wayR_1, if_neg g0, if_neg h1, if_neg h1]
  · have g0 := h0 0 (by omega)
    rw [wayB_0, decide_eq_false_iff_not] at g0
    have g1 := h0 1 (by omega)
    rw [wayB_1, decide_eq_false_iff_not, Decidable.not_not] at g1
    rw [wayR_2, if_neg g0, if_pos g1]
theorem pronounce_spec (sl : SlV) (b : Bk) (l : List Sp) (s : ByteArray) (hz : s.size ≤ 1000) (hsz : ∀ u ∈ l, u.word.size ≤ 1000000) (w : World) (hT : Stb w [] Tab) (hs : Stb w [] (RdL sl.v l)) (hp : Stb w [] fun w' => ∀ u ∈ l, SpIn u w') (hb : Stb w [] (BkIn b)) :
    Calls Tryz.prog 57 #[sl.v, val b, .string s] w fun e w' => ∃ r : SlV, e = .returned (.tuple #[r.v, .int .i64 (pronE l b.bl s)]) ∧ True ∧ Cl w [] [ownL 136 r.v (pronR l b.bl s)] w' := by
  have hs2 : s.size ≤ 9223372036854775806 := by omega
  refine calls_cw (vs := [_, _, _]) Tryz.func57 rfl Tryz.ntmps57 rfl (Cl.start0 w) (cw_seq (cw_region ?_))
  refine sw_x rfl rfl rfl (e_box rfl rfl rfl) (fun b4 => ?_)
  refine sr rfl rfl rfl ((q_assign rfl rfl)) (sr rfl rfl rfl ((q_assign rfl rfl)) (sw_nil (post_then (cw_seq (cw_seq (cw_region (sr rfl rfl rfl ((q_move rfl rfl)) (sw_step rfl rfl rfl (q_call (CanCall.mk Tryz.call95) rfl (.cons rfl inferInstance (.nil)) (fun _ w hw => callq hw (lexicon_spec _ l hsz w (stb_arg hw hT) (stb_arg hw hs) (stb_arg hw hp)))) (sr rfl rfl rfl ((q_assign rfl rfl)) (sw_nil (post_then (cw_seq (cw_region (sr rfl rfl rfl ((q_move rfl rfl)) (sr rfl rfl rfl ((q_neq rfl rfl rfl)) (sw_nil (post_then ?_)))))))))))))))))
  refine cw_cond rfl (fun h => ?_) (fun h => ?_)
  · skip
    have h1 : lexE l ≠ 0 := by simpa using h
    have e1 : pronE l b.bl s = lexE l := by unfold pronE; rw [if_neg h1]
    have e2 : pronR l b.bl s = [] := by unfold pronR; rw [if_neg (by rw [e1]; exact h1)]
    refine cw_seq (cw_region (sr rfl rfl rfl ((q_move rfl rfl)) (sr rfl rfl rfl ((q_assign rfl rfl)) (sr rfl rfl rfl ((q_assign rfl rfl)) (sw_nil (post_then (cw_ret (post_then_r (post_ret2 rfl (resOk_tmp rfl) (resOk_tmp rfl) ?_)))))))))
    exact fun w' hw => ⟨⟨none, 0, 0⟩, by rw [e1]; rfl, trivial, by rw [e2]; exact Cl.addNil 136 ((fun w h => Cl.sel (by exact .nil _) w h) _ hw)⟩
  · skip
    have h1 : lexE l = 0 := by simpa using h
    have hE : pronE l b.bl s = if bookOk b.bl && wordOk s then (if 120 < (pronC l b.bl s).length then 4 else 0) else 2 := by unfold pronE; rw [if_pos h1]
    obtain ⟨hr, hall⟩ := lexE_ok h1
    have hpl : ∀ u ∈ l, u.pl.length ≤ 120 := fun u hu => by
      have := List.all_eq_true.1 hall u hu
      simp [spOk, phonesOk] at this; omega
    refine cw_skip (post_then (cw_seq (cw_seq (cw_region ?_))))
    refine sr rfl rfl rfl ((q_loadA rfl rfl (by exact .head _) rfl)) ?_
    refine sw_step rfl rfl rfl (q_call (CanCall.mk Tryz.call33) rfl (.cons rfl inferInstance (.nil)) (fun _ w hw => callq hw (validBook_spec b w (stb_arg hw hb)))) (sr rfl rfl rfl ((q_not rfl rfl)) (sr rfl rfl rfl ((q_move rfl rfl)) (sr rfl rfl rfl ((q_move rfl rfl)) ?_)))
    refine sw_step rfl rfl rfl (q_call (CanCall.mk Tryz.call62) rfl (.cons rfl inferInstance (.nil)) (fun _ w hw => callq hw (isWord_spec _ w (by assumption) (stb_arg hw (by assumption))))) ?_
    refine sr rfl rfl rfl ((q_not rfl rfl)) (sr rfl rfl rfl ((q_or2 rfl rfl rfl)) (sw_nil (post_then ?_)))
    refine cw_cond rfl (fun h2 => ?_) (fun h2 => ?_)
    · skip
      have e1 : pronE l b.bl s = 2 := by
        rw [hE, if_neg]
        cases q1 : bookOk b.bl <;> cases q2 : wordOk s <;> simp [q1, q2] at h2 ⊢
      have e2 : pronR l b.bl s = [] := by unfold pronR; rw [if_neg (by rw [e1]; decide)]
      refine cw_seq (cw_region (sr rfl rfl rfl ((q_assign rfl rfl)) (sr rfl rfl rfl ((q_assign rfl rfl)) (sw_nil (post_then (cw_ret (post_then_r (post_ret2 rfl (resOk_tmp rfl) (resOk_tmp rfl) ?_))))))))
      exact fun w' hw => ⟨⟨none, 0, 0⟩, by rw [e1]; rfl, trivial, by rw [e2]; exact Cl.addNil 136 ((fun w h => Cl.sel (by exact .nil _) w h) _ hw)⟩
    · skip
      have h3 : bookOk b.bl = true ∧ wordOk s = true := by
        cases q1 : bookOk b.bl <;> cases q2 : wordOk s <;> simp [q1, q2] at h2 ⊢
      rw [if_pos (by rw [h3.1, h3.2]; rfl)] at hE
      have hg := good_of h3.1
      have hrl : (runes s).length ≤ 40 := by have := h3.2; simp [wordOk] at this; omega
      refine cw_skip (post_then (cw_seq (cw_region (sr rfl rfl rfl ((q_move rfl rfl)) ?_))))
      refine sr rfl rfl rfl ((q_loadA rfl rfl (by exact .head _) rfl)) ?_
      refine sr rfl rfl rfl ((q_build rfl (.cons rfl inferInstance (.cons rfl inferInstance (.nil))) rfl)) ?_
      refine sw_x rfl rfl rfl (e_box rfl rfl rfl) (fun b30 => ?_)
      refine sr rfl rfl rfl ((q_assign rfl rfl)) (sw_nil (post_then (cw_seq (cw_seq (cw_region (sr rfl rfl rfl ((q_move rfl rfl)) (sr rfl rfl rfl ((q_func_b rfl (.cons rfl inferInstance (.nil)))) (sr rfl rfl rfl ((q_move rfl rfl)) (sr rfl rfl rfl ((q_func_b rfl (.cons rfl inferInstance (.nil)))) (sr rfl rfl rfl ((q_move rfl rfl)) (sr rfl rfl rfl ((q_func_b rfl (.cons rfl inferInstance (.nil)))) ?_)))))))))))
      refine sw_x rfl rfl rfl (e_buildL (α := Fv) (l := [⟨102, b30⟩, ⟨103, b30⟩, ⟨79, b30⟩]) rfl (.cons rfl inferInstance (.cons rfl inferInstance (.cons rfl inferInstance (.nil)))) rfl rfl rfl rfl) (fun s37 => ?_)
      refine sr rfl rfl rfl ((q_len rfl (.cons rfl inferInstance (.nil)) (by exact fun w hw => rd_own hw (by exact .head _)))) ?_
      refine sr rfl rfl rfl ((q_move rfl rfl)) (sw_nil (post_then (cw_block ?_)))
      refine cw_loop (S := Nat) (fun k => [(2, [], .string s), (37, [], s37.v), (38, [], .int .i64 3), (39, [], .int .i64 k)]) (fun _ => Cl w [] [ownL 132 s37.v ([⟨102, b30⟩, ⟨103, b30⟩, ⟨79, b30⟩] : List Fv), blk b30 [sl.v, b.b.v] 131]) (fun k => k ≤ 3 ∧ ∀ j, j < k → wayB l s j = false) (fun k => 3 - k) 0 ⟨by omega, fun j hj => by omega⟩ (by exact .cons rfl (.cons rfl (.cons rfl (.cons rfl .nil)))) (fun w h => Cl.sel (by exact .take 0 rfl (.take 0 rfl (.nil _))) w h) ?_
      rintro k ⟨hk, hbe⟩
      have hl3 : ([⟨102, b30⟩, ⟨103, b30⟩, ⟨79, b30⟩] : List Fv).length = 3 := rfl
      refine cw_seq (cw_region (sr rfl rfl rfl ((q_lss rfl rfl rfl)) (sw_nil (post_then (cw_seq ?_)))))
      refine cw_cond rfl (fun h4 => ?_) (fun h4 => ?_)
      · skip
        have hk' : k < 3 := by simp at h4; omega
        have hf : nth ([⟨102, b30⟩, ⟨103, b30⟩, ⟨79, b30⟩] : List Fv) k = ⟨wayG k, b30⟩ := by
          rcases (by omega : k = 0 ∨ k = 1 ∨ k = 2) with rfl | rfl | rfl <;> rfl
        refine cw_skip (post_then (cw_seq (cw_block (cw_seq (cw_region ?_)))))
        refine sr rfl rfl rfl ((q_indexN rfl rfl rfl (by exact fun w hw => rd_own hw (by exact .head _)) (by intro hc; omega))) ?_
        refine sr rfl rfl rfl ((q_loadEl rfl rfl rfl (by exact fun w hw => rd_own hw (by exact .head _)) (by intro hc; omega))) ?_
        refine sr rfl rfl rfl ((q_assign rfl rfl)) (sw_nil (post_then (cw_seq (cw_region (sr rfl rfl rfl ((q_move rfl rfl)) (sr rfl rfl rfl ((q_move rfl rfl)) ?_))))))
        rw [hf]
        refine sw_x rfl rfl rfl (e_callB (way_can k) rfl rfl (.cons rfl inferInstance (.nil)) (fun w1 hw => way_spec k b30 sl b l s hz (by omega) hr (fun u hu => by have := hpl u hu; omega) hg w1 (stb_blk hw (by exact .tail _ (.head _))) (stb_arg hw hs) (stb_arg hw hp) (stb_arg hw hb))) (fun s46 => ?_)
        refine sw_imp fun _ => (sr rfl rfl rfl ((q_move rfl rfl)) (sr rfl rfl rfl ((q_extract rfl rfl rfl)) (sr rfl rfl rfl ((q_extract rfl rfl rfl)) (sr rfl rfl rfl ((q_assign rfl rfl)) (sr rfl rfl rfl ((q_assign rfl rfl)) (sw_nil (post_then (cw_seq (cw_region (sr rfl rfl rfl ((q_move rfl rfl)) (sw_nil (post_then ?_))))))))))))
        refine cw_cond rfl (fun h5 => ?_) (fun h5 => ?_)
        · skip
          have e0 := way_is (bl := b.bl) hk' hbe h5
          rw [e0]
          refine cw_seq (cw_seq (cw_region (sr rfl rfl rfl ((q_move rfl rfl)) ?_)))
          refine sr rfl rfl rfl ((q_len rfl (.cons rfl inferInstance (.nil)) (by exact fun w hw => rd_own hw (by exact .head _)))) ?_
          refine sr rfl rfl rfl ((q_gtr rfl rfl rfl)) (sw_nil (post_then ?_))
          refine cw_cond rfl (fun h6 => ?_) (fun h6 => ?_)
          · skip
            have e1 : pronE l b.bl s = 4 := by rw [hE, if_pos (by simp only [decide_eq_true_eq] at h6; omega)]
            have e2 : pronR l b.bl s = [] := by unfold pronR; rw [if_neg (by rw [e1]; decide)]
            refine cw_seq (cw_region (sr rfl rfl rfl ((q_assign rfl rfl)) (sr rfl rfl rfl ((q_assign rfl rfl)) (sw_nil (post_then (cw_ret (post_then_r (post_blk_r (post_then_r (post_then_r (post_blk_r (post_then_r (post_ret2 rfl (resOk_tmp rfl) (resOk_tmp rfl) ?_)))))))))))))
            exact fun w' hw => ⟨⟨none, 0, 0⟩, by rw [e1]; rfl, trivial, by rw [e2]; exact Cl.addNil 136 ((fun w h => Cl.sel (by exact .nil _) w h) _ hw)⟩
          · skip
            have e1 : pronE l b.bl s = 0 := by rw [hE, if_neg (by simp only [decide_eq_false_iff_not] at h6; omega)]
            have e2 : pronR l b.bl s = pronC l b.bl s := by unfold pronR; rw [if_pos e1]
            refine cw_skip (post_then (cw_seq (cw_region (sr rfl rfl rfl ((q_move rfl rfl)) (sr rfl rfl rfl ((q_assign rfl rfl)) (sr rfl rfl rfl ((q_assign rfl rfl)) (sw_nil (post_then (cw_ret (post_blk_r (post_then_r (post_then_r (post_blk_r (post_then_r (post_ret2 rfl (resOk_tmp rfl) (resOk_tmp rfl) ?_)))))))))))))))
            exact fun w' hw => ⟨s46, by rw [e1]; rfl, trivial, by rw [e2]; exact (fun w h => Cl.sel (by exact .take 0 rfl (.nil _)) w h) _ hw⟩
        · skip
          refine cw_skip (post_blk (post_then (cw_region ?_)))
          refine sr rfl rfl rfl ((q_add rfl rfl rfl (by intro hc; omega))) ?_
          refine sr rfl rfl rfl ((q_move rfl rfl)) (sw_nil ?_)
          exact post_next (k + 1) (by exact .cons rfl (.cons rfl (.cons rfl (.cons rfl .nil)))) (fun w h => Cl.sel (by exact .take 1 rfl (.take 1 rfl (.nil _))) w h) ⟨by omega, fun j hj => by
            rcases Nat.lt_or_ge j k with b1 | b1
            · exact hbe j b1
            · have : j = k := by omega
              subst this; exact h5⟩ (by omega)
      · skip
        exfalso
        have hk' : k = 3 := by simp at h4; omega
        have := hbe 2 (by omega)
        cases this
end Go.Proofs.YtkmbliojafefdaaGreatDoor

set_option autoImplicit false
set_option maxRecDepth 100000
namespace Go.Proofs.YtkmbliojafefdaaGreatDoor
open Go.Sx
open Enc (enc val)
instance : DecidableEq Snd := fun a b => decidable_of_iff (a.phone = b.phone ∧ a.fr = b.fr ∧ a.why = b.why ∧ a.ix = b.ix) ⟨fun h => by cases a; cases b; simp at h; simp [h], fun h => by rw [h]; exact ⟨rfl, rfl, rfl, rfl⟩⟩
section
variable {n : Fr} {E : Env} {C : World → Prop} {cs : List Bool} {o : Oper}
theorem neq136 (a b : Snd) (w : World) : (binOp .neq 136 (val a) (val b)).run Tryz.prog w = .ok (.bool (!decide (a = b))) w := by
  obtain ⟨a1, a2, a3, a4⟩ := a
  obtain ⟨b1, b2, b3, b4⟩ := b
  show (binOp .neq 136 (.agg #[.string a1, .int .i64 a2, .int .i64 a3, .int .i64 a4]) (.agg #[.string b1, .int .i64 b2, .int .i64 b3, .int .i64 b4])).run Tryz.prog w = _
  have hin : a1.toList = b1.toList ↔ a1 = b1 := ⟨fun h => by rw [ba_toList, ba_toList] at h; cases a1; cases b1; simp only at h; rw [Array.toList_inj.1 h], fun h => by rw [h]⟩
  simp [go_sem, hin]
  by_cases h1 : a1 = b1 <;> by_cases h2 : a2 = b2 <;> by_cases h3 : a3 = b3 <;> by_cases h4 : a4 = b4 <;> simp [h1, h2, h3, h4]
theorem q_neqSnd {t' : TypeId} {x y : Operand} {cx cy : List Bool} {a b : Snd} (ho : o.op = .binOp .neq 136 x y t') (hx : evl E x = some (cx, val a)) (hy : evl E y = some (cy, val b)) [sx : Sub cx cs] [sy : Sub cy cs] : OpR Tryz.prog n E C cs o (.bool (!decide (a = b))) :=
  .of_run fun ac ha hc w _ => by
    have hg : (eqGuard .neq 136 x y (val a) (val b)).run Tryz.prog w = .ok () w := by kernel_rfl
    unfold execOp; simp only [ho]; rw [ha.eval hx sx hc, ha.eval hy sy hc]
    simp [hg, neq136, Result.andThen]
end
theorem sameSounds_spec (sa sb : Value) (a b : List Snd) (w : World) (ha : Stb w [] (RdL sa a)) (hb : Stb w [] (RdL sb b)) : Calls Tryz.prog 42 #[sa, sb] w fun e w' => e = .returned (.bool (decide (a = b))) ∧ Cl w [] [] w' := by
  have hLa := rd_len ha.here
  have hLb := rd_len hb.here
  refine calls_cw (vs := [_, _]) Tryz.func42 rfl Tryz.ntmps42 rfl (Cl.start0 w) (cw_seq (cw_region (sr rfl rfl rfl ((q_assign rfl rfl)) (sw_nil (post_then (cw_seq (cw_seq (cw_region (sr rfl rfl rfl ((q_move rfl rfl)) ?_)))))))))
  refine sr rfl rfl rfl ((q_len rfl (.cons rfl inferInstance (.nil)) (by exact fun w hw => Stb.cl (by assumption) hw))) ?_
  refine sr rfl rfl rfl ((q_move rfl rfl)) ?_
  refine sr rfl rfl rfl ((q_len rfl (.cons rfl inferInstance (.nil)) (by exact fun w hw => Stb.cl (by assumption) hw))) ?_
  refine sr rfl rfl rfl ((q_neq rfl rfl rfl)) (sw_nil (post_then ?_))
  refine cw_cond rfl (fun h => ?_) (fun h => ?_)
  · skip
    have h2 : ¬ a = b := fun e => by subst e; simp at h
    refine cw_seq (cw_region (sr rfl rfl rfl ((q_assign rfl rfl)) (sw_nil (post_then (cw_ret (post_then_r (post_ret1 rfl (resOk_tmp rfl) ?_)))))))
    exact fun w' hw => ⟨by rw [decide_eq_false h2], hw⟩
  · skip
    have hl : a.length = b.length := by simp at h; omega
    refine cw_skip (post_then (cw_seq (cw_seq (cw_region (sr rfl rfl rfl ((q_assign rfl rfl)) (sw_nil (post_then (cw_block ?_))))))))
    refine cw_loop (S := Nat) (fun k => [(0, [], sa), (1, [], sb), (5, [], .int .i64 k)]) (fun _ => Cl w [] []) (fun k => k ≤ a.length ∧ ∀ j, j < k → nth a j = nth b j) (fun k => a.length - k) 0 ⟨Nat.zero_le _, fun j hj => by omega⟩ (by exact .cons rfl (.cons rfl (.cons rfl .nil))) (fun _ h => h) ?_
    rintro k ⟨hk, hbe⟩
    refine cw_seq (cw_seq (cw_region (sr rfl rfl rfl ((q_move rfl rfl)) (sr rfl rfl rfl ((q_move rfl rfl)) ?_))))
    refine sr rfl rfl rfl ((q_len rfl (.cons rfl inferInstance (.nil)) (by exact fun w hw => Stb.cl (by assumption) hw))) ?_
    refine sr rfl rfl rfl ((q_lss rfl rfl rfl)) (sw_nil (post_then ?_))
    refine cw_cond rfl (fun h2 => ?_) (fun h2 => ?_)
    · skip
      have hk' : k < a.length := by simp at h2; omega
      have hkb : k < b.length := by omega
      refine cw_skip (post_then (cw_seq (cw_block (cw_seq (cw_region_a (Cl w [] []) [] mixed_Tryz ?_)))))
      refine aw_pure 0 rfl (by kernel_rfl) (by kernel_rfl) (by kernel_rfl) (by kernel_rfl) (by kernel_rfl) rfl rfl rfl (q_move rfl rfl) ?_
      refine aw_pure 1 rfl (by kernel_rfl) (by kernel_rfl) (by kernel_rfl) (by kernel_rfl) (by kernel_rfl) rfl rfl rfl (q_move rfl rfl) ?_
      refine aw_take 2 (fun w h => Cl.sel (by exact .nil _) w h) rfl (by kernel_rfl) (by kernel_rfl) (by kernel_rfl) (by kernel_rfl) (by kernel_rfl) (by kernel_rfl) rfl rfl rfl (q_indexN rfl rfl rfl (by exact fun w hw => Stb.cl (by assumption) hw) (by intro hc; omega)) ?_
      refine aw_take 3 (fun w h => Cl.sel (by exact .nil _) w h) rfl (by kernel_rfl) (by kernel_rfl) (by kernel_rfl) (by kernel_rfl) (by kernel_rfl) (by kernel_rfl) rfl rfl rfl (q_loadEl rfl rfl rfl (by exact fun w hw => Stb.cl (by assumption) hw) (by intro hc; omega)) ?_
      refine aw_pure 4 rfl (by kernel_rfl) (by kernel_rfl) (by kernel_rfl) (by kernel_rfl) (by kernel_rfl) rfl rfl rfl (q_move rfl rfl) ?_
      refine aw_pure 5 rfl (by kernel_rfl) (by kernel_rfl) (by kernel_rfl) (by kernel_rfl) (by kernel_rfl) rfl rfl rfl (q_move rfl rfl) ?_
      refine aw_take 6 (fun w h => Cl.sel (by exact .nil _) w h) rfl (by kernel_rfl) (by kernel_rfl) (by kernel_rfl) (by kernel_rfl) (by kernel_rfl) (by kernel_rfl) rfl rfl rfl (q_indexN rfl rfl rfl (by exact fun w hw => Stb.cl (by assumption) hw) (by intro hc; omega)) ?_
      refine aw_take 7 (fun w h => Cl.sel (by exact .nil _) w h) rfl (by kernel_rfl) (by kernel_rfl) (by kernel_rfl) (by kernel_rfl) (by kernel_rfl) (by kernel_rfl) rfl rfl rfl (q_loadEl rfl rfl rfl (by exact fun w hw => Stb.cl (by assumption) hw) (by intro hc; omega)) ?_
      refine aw_take 8 (fun w h => Cl.sel (by exact .nil _) w h) rfl (by kernel_rfl) (by kernel_rfl) (by kernel_rfl) (by kernel_rfl) (by kernel_rfl) (by kernel_rfl) rfl rfl rfl (q_neqSnd (a := nth a k) (b := nth b k) rfl rfl rfl) ?_
      refine aw_end (by kernel_rfl) ?_
      refine post_then ?_
      refine cw_cond rfl (fun h3 => ?_) (fun h3 => ?_)
      · skip
        have h4 : ¬ a = b := fun e => by subst e; simp at h3
        refine cw_seq (cw_region (sr rfl rfl rfl ((q_assign rfl rfl)) (sw_nil (post_then (cw_ret (post_blk_r (post_then_r (post_then_r (post_blk_r (post_then_r (post_ret1 rfl (resOk_tmp rfl) ?_)))))))))))
        exact fun w' hw => ⟨by rw [decide_eq_false h4], hw⟩
      · skip
        have h4 : nth a k = nth b k := by simpa using h3
        refine cw_skip (post_blk (post_then (cw_region (sr rfl rfl rfl ((q_move rfl rfl)) ?_))))
        refine sr rfl rfl rfl ((q_add rfl rfl rfl (by intro hc; omega))) ?_
        refine sr rfl rfl rfl ((q_assign rfl rfl)) (sw_nil ?_)
        exact post_next (k + 1) (by exact .cons rfl (.cons rfl (.cons rfl .nil))) (fun _ h => h) ⟨by omega, fun j hj => by
          rcases Nat.lt_or_ge j k with h5 | h5
          · exact hbe j h5
          · have : j = k := by omega
            subst this; exact h4⟩ (by omega)
    · skip
      have hk' : k = a.length := by simp at h2; omega
      have h4 : a = b := List.ext_getElem hl fun i h5 h6 => by
        have := hbe i (by omega)
        rwa [nth_get h5, nth_get h6] at this
      refine cw_exit (post_then_x (post_then_x (post_blk_eq (post_then (cw_seq (cw_region (sr rfl rfl rfl ((q_assign rfl rfl)) (sw_nil (post_then (cw_ret (post_ret1 rfl (resOk_tmp rfl) ?_)))))))))))
      exact fun w' hw => ⟨by rw [decide_eq_true h4], hw⟩
end Go.Proofs.YtkmbliojafefdaaGreatDoor

set_option autoImplicit false
set_option maxRecDepth 100000
namespace Go.Proofs.YtkmbliojafefdaaGreatDoor
open Go.Sx
open Enc (enc val)
theorem pronE_val (l : List Sp) (bl : List Let) (s : ByteArray) : pronE l bl s = if 3000 < l.length then 4 else if !(lexOk l) || !(bookOk bl) || !(wordOk s) then 2 else if 120 < (pronC l bl s).length then 4 else 0 := by
  unfold pronE
  rw [show lexE l = if 3000 < l.length then 4 else if lexOk l = true then 0 else 2 from rfl]
  by_cases a : 3000 < l.length
  · rw [if_pos a, if_pos a]; rfl
  · rw [if_neg a, if_neg a]
    cases lexOk l <;> cases bookOk bl <;> cases wordOk s <;> rfl
theorem pronounces_spec (sl : SlV) (b : Bk) (l : List Sp) (s : ByteArray) (hsz : s.size ≤ 9223372036854775807) (hz : ∀ u ∈ l, u.word.size ≤ 9223372036854775807) (w : World) (hT : Stb w [] Tab) (hs : Stb w [] (RdL sl.v l)) (hsi : Stb w [] fun w' => ∀ u ∈ l, SpIn u w') (hb : Stb w [] (BkIn b)) :
    Calls Tryz.prog 15 #[sl.v, val b, .string s] w fun e w' => e = .returned (.bool true) ∧ Cl w [] [] w' := by
  have hL1 := rd_len hs.here
  refine calls_cw (vs := [_, _, _]) Tryz.func15 rfl Tryz.ntmps15 rfl (Cl.start0 w) (cw_seq (cw_region ?_))
  refine sw_x rfl rfl rfl (e_box rfl rfl rfl) (fun b4 => ?_)
  refine sr rfl rfl rfl ((q_assign rfl rfl)) (sw_nil (post_then (cw_seq (cw_seq (cw_region (sr rfl rfl rfl ((q_move rfl rfl)) (sw_step rfl rfl rfl (q_call (CanCall.mk Tryz.call27) rfl (.cons rfl inferInstance (.cons rfl inferInstance (.nil))) (fun _ w hw => callq hw (lawLex_spec _ l 20 hz w (stb_arg hw hs) (stb_arg hw hsi)))) (sr rfl rfl rfl ((q_not rfl rfl)) (sr rfl rfl rfl ((q_move rfl rfl)) ?_)))))))))
  refine sr rfl rfl rfl ((q_loadA rfl rfl (by exact .head _) rfl)) ?_
  refine sw_step rfl rfl rfl (q_call (CanCall.mk Tryz.call40) rfl (.cons rfl inferInstance (.nil)) (fun _ w hw => callq hw (lawBook_spec b w (stb_arg hw hb)))) (sr rfl rfl rfl ((q_not rfl rfl)) (sr rfl rfl rfl ((q_or2 rfl rfl rfl)) (sr rfl rfl rfl ((q_move rfl rfl)) (sr rfl rfl rfl ((q_move rfl rfl)) (sr rfl rfl rfl ((q_lenS rfl (.cons rfl inferInstance (.nil)) Tryz.underlying9)) (sr rfl rfl rfl ((q_gtr rfl rfl rfl)) (sr rfl rfl rfl ((q_or2 rfl rfl rfl)) (sw_nil (post_then ?_)))))))))
  refine cw_cond rfl (fun h => ?_) (fun h => ?_)
  · skip
    refine cw_seq (cw_region ?_)
    refine sw_step rfl rfl rfl (q_call (CanCall.mk Tryz.call19) rfl (.nil) (fun _ w hw => callq hw (known_spec w (stb_arg hw (by assumption))))) ?_
    refine sr rfl rfl rfl ((q_assign rfl rfl)) (sw_nil (post_then (cw_ret (post_then_r (post_ret1 rfl (resOk_tmp rfl) ?_)))))
    exact fun w' hw => ⟨rfl, (fun w h => Cl.sel (by exact .nil _) w h) _ hw⟩
  · skip
    have h1 : lawLex l 20 = true ∧ lawBk b.bl = true ∧ s.size ≤ 60 := by
      simp at h; exact ⟨h.1.1, h.1.2, by omega⟩
    obtain ⟨c1, c2, c3⟩ := h1
    have z1 := lawLex_z c1
    have z3 := lawBk_small c2
    have hz2 : ∀ u ∈ l, u.word.size ≤ 1000 ∧ ∀ b ∈ u.pl, b.size ≤ 9223372036854775807 := fun u hu => ⟨by have := z1 u hu; omega, fun b hb => by have := (z1 u hu).2.2 b hb; omega⟩
    have hVd := pronE_val l b.bl s
    refine cw_skip (post_then (cw_seq (cw_region (sr rfl rfl rfl ((q_move rfl rfl)) ?_))))
    refine sr rfl rfl rfl ((q_loadA rfl rfl (by exact .head _) rfl)) ?_
    refine sr rfl rfl rfl ((q_move rfl rfl)) ?_
    refine sw_x rfl rfl rfl (e_call (CanCall.mk Tryz.call57) rfl (.cons rfl inferInstance (.cons rfl inferInstance (.cons rfl inferInstance (.nil)))) (fun w1 hw => pronounce_spec sl b l s (by omega) (fun u hu => by have := z1 u hu; omega) w1 (stb_arg hw hT) (stb_arg hw hs) (stb_arg hw hsi) (stb_arg hw hb))) (fun s30 => ?_)
    refine sw_imp fun _ => (sr rfl rfl rfl ((q_move rfl rfl)) (sr rfl rfl rfl ((q_extract rfl rfl rfl)) (sr rfl rfl rfl ((q_extract rfl rfl rfl)) (sr rfl rfl rfl ((q_assign rfl rfl)) (sr rfl rfl rfl ((q_assign rfl rfl)) (sw_nil (post_then (cw_seq (cw_region (sr rfl rfl rfl ((q_move rfl rfl)) ?_))))))))))
    refine sw_x rfl rfl rfl (e_call (CanCall.mk Tryz.call21) rfl (.cons rfl inferInstance (.nil)) (fun w1 hw => refLetters_spec s w1 (by omega) (stb_arg hw hT))) (fun s35 => ?_)
    refine sw_imp fun _ => (sr rfl rfl rfl ((q_move rfl rfl)) (sr rfl rfl rfl ((q_extract rfl rfl rfl)) (sr rfl rfl rfl ((q_extract rfl rfl rfl)) (sr rfl rfl rfl ((q_assign rfl rfl)) (sr rfl rfl rfl ((q_assign rfl rfl)) (sw_nil (post_then (cw_seq (cw_seq (cw_region (sr rfl rfl rfl ((q_move rfl rfl)) ?_)))))))))))
    refine sr rfl rfl rfl ((q_len rfl (.cons rfl inferInstance (.nil)) (by exact fun w hw => Stb.cl (by assumption) hw))) ?_
    refine sr rfl rfl rfl ((q_gtr rfl rfl rfl)) (sw_nil (post_then ?_))
    refine cw_cond rfl (fun h2 => ?_) (fun h2 => ?_)
    · skip
      have e1 : pronE l b.bl s = 4 := by rw [hVd, if_pos (by simp at h2; omega)]
      have e2 : pronR l b.bl s = [] := by unfold pronR; rw [if_neg (by rw [e1]; decide)]
      rw [e1, e2]
      refine cw_seq (cw_region (sr rfl rfl rfl ((q_move rfl rfl)) (sr rfl rfl rfl ((q_eql rfl rfl rfl)) (sr rfl rfl rfl ((q_move rfl rfl)) (sr rfl rfl rfl ((q_move rfl rfl)) ?_)))))
      refine sr rfl rfl rfl ((q_len rfl (.cons rfl inferInstance (.nil)) (by exact fun w hw => rd_own hw (by exact .tail _ (.head _))))) ?_
      refine sr rfl rfl rfl ((q_eql rfl rfl rfl)) (sr rfl rfl rfl ((q_and2 rfl rfl rfl)) (sr rfl rfl rfl ((q_move rfl rfl)) ?_))
      refine sw_step rfl rfl rfl (q_call (CanCall.mk Tryz.call19) rfl (.nil) (fun _ w hw => callq hw (known_spec w (stb_arg hw (by assumption))))) ?_
      refine sr rfl rfl rfl ((q_and2 rfl rfl rfl)) (sr rfl rfl rfl ((q_assign rfl rfl)) (sw_nil (post_then (cw_ret (post_then_r (post_ret1 rfl (resOk_tmp rfl) ?_))))))
      exact fun w' hw => ⟨rfl, (fun w h => Cl.sel (by exact .nil _) w h) _ hw⟩
    · skip
      rw [if_neg (by simp at h2; omega)] at hVd
      refine cw_skip (post_then (cw_seq (cw_seq (cw_region (sr rfl rfl rfl ((q_move rfl rfl)) (sw_step rfl rfl rfl (q_call (CanCall.mk Tryz.call51) rfl (.cons rfl inferInstance (.nil)) (fun _ w hw => callq hw (refLexicon_spec _ l hz2 w (stb_arg hw hT) (stb_arg hw hs) (stb_arg hw hsi)))) (sr rfl rfl rfl ((q_not rfl rfl)) (sr rfl rfl rfl ((q_move rfl rfl)) ?_))))))))
      refine sr rfl rfl rfl ((q_loadA rfl rfl (by exact .tail _ (.tail _ (.head _))) rfl)) ?_
      refine sw_step rfl rfl rfl (q_call (CanCall.mk Tryz.call41) rfl (.cons rfl inferInstance (.nil)) (fun _ w hw => callq hw (refBook_spec b (fun L hL r hr q hq => by have := z3 L hL r hr q hq; omega) w (stb_arg hw hb)))) ?_
      refine sr rfl rfl rfl ((q_not rfl rfl)) (sr rfl rfl rfl ((q_or2 rfl rfl rfl)) (sr rfl rfl rfl ((q_move rfl rfl)) (sr rfl rfl rfl ((q_move rfl rfl)) (sr rfl rfl rfl ((q_not rfl rfl)) (sr rfl rfl rfl ((q_or2 rfl rfl rfl)) (sw_nil (post_then ?_)))))))
      refine cw_cond rfl (fun h3 => ?_) (fun h3 => ?_)
      · skip
        have e1 : pronE l b.bl s = 2 := by rw [hVd, if_pos h3]
        have e2 : pronR l b.bl s = [] := by unfold pronR; rw [if_neg (by rw [e1]; decide)]
        rw [e1, e2]
        refine cw_seq (cw_region (sr rfl rfl rfl ((q_move rfl rfl)) (sr rfl rfl rfl ((q_eql rfl rfl rfl)) (sr rfl rfl rfl ((q_move rfl rfl)) (sr rfl rfl rfl ((q_move rfl rfl)) ?_)))))
        refine sr rfl rfl rfl ((q_len rfl (.cons rfl inferInstance (.nil)) (by exact fun w hw => rd_own hw (by exact .tail _ (.head _))))) ?_
        refine sr rfl rfl rfl ((q_eql rfl rfl rfl)) (sr rfl rfl rfl ((q_and2 rfl rfl rfl)) (sr rfl rfl rfl ((q_move rfl rfl)) ?_))
        refine sw_step rfl rfl rfl (q_call (CanCall.mk Tryz.call19) rfl (.nil) (fun _ w hw => callq hw (known_spec w (stb_arg hw (by assumption))))) ?_
        refine sr rfl rfl rfl ((q_and2 rfl rfl rfl)) (sr rfl rfl rfl ((q_assign rfl rfl)) (sw_nil (post_then (cw_ret (post_then_r (post_ret1 rfl (resOk_tmp rfl) ?_))))))
        exact fun w' hw => ⟨rfl, (fun w h => Cl.sel (by exact .nil _) w h) _ hw⟩
      · skip
        rw [if_neg (by rw [h3]; decide)] at hVd
        have h4 : lexOk l = true ∧ bookOk b.bl = true ∧ wordOk s = true := by simpa [and_assoc] using h3
        have hg := good_of h4.2.1
        refine cw_skip (post_then (cw_seq (cw_region (sr rfl rfl rfl ((q_move rfl rfl)) ?_))))
        refine sr rfl rfl rfl ((q_loadA rfl rfl (by exact .tail _ (.tail _ (.head _))) rfl)) ?_
        refine sr rfl rfl rfl ((q_move rfl rfl)) ?_
        refine sw_x rfl rfl rfl (e_call (CanCall.mk Tryz.call58) rfl (.cons rfl inferInstance (.cons rfl inferInstance (.cons rfl inferInstance (.nil)))) (fun w1 hw => refPron_spec sl b l s (by omega) (fun u hu => by have := z1 u hu; omega) hg w1 (stb_arg hw hs) (stb_arg hw hsi) (stb_arg hw hb))) (fun s76 => ?_)
        refine sw_imp fun _ => (sr rfl rfl rfl ((q_assign rfl rfl)) (sw_nil (post_then (cw_seq (cw_seq (cw_region (sr rfl rfl rfl ((q_move rfl rfl)) ?_)))))))
        refine sr rfl rfl rfl ((q_len rfl (.cons rfl inferInstance (.nil)) (by exact fun w hw => rd_own hw (by exact .head _)))) ?_
        refine sr rfl rfl rfl ((q_gtr rfl rfl rfl)) (sw_nil (post_then ?_))
        refine cw_cond rfl (fun h5 => ?_) (fun h5 => ?_)
        · skip
          have e1 : pronE l b.bl s = 4 := by rw [hVd, if_pos (by simp at h5; omega)]
          have e2 : pronR l b.bl s = [] := by unfold pronR; rw [if_neg (by rw [e1]; decide)]
          rw [e1, e2]
          refine cw_seq (cw_region (sr rfl rfl rfl ((q_move rfl rfl)) (sr rfl rfl rfl ((q_eql rfl rfl rfl)) (sr rfl rfl rfl ((q_move rfl rfl)) (sr rfl rfl rfl ((q_move rfl rfl)) ?_)))))
          refine sr rfl rfl rfl ((q_len rfl (.cons rfl inferInstance (.nil)) (by exact fun w hw => rd_own hw (by exact .tail _ (.tail _ (.head _)))))) ?_
          refine sr rfl rfl rfl ((q_eql rfl rfl rfl)) (sr rfl rfl rfl ((q_and2 rfl rfl rfl)) (sr rfl rfl rfl ((q_move rfl rfl)) ?_))
          refine sw_step rfl rfl rfl (q_call (CanCall.mk Tryz.call19) rfl (.nil) (fun _ w hw => callq hw (known_spec w (stb_arg hw (by assumption))))) ?_
          refine sr rfl rfl rfl ((q_and2 rfl rfl rfl)) (sr rfl rfl rfl ((q_assign rfl rfl)) (sw_nil (post_then (cw_ret (post_then_r (post_ret1 rfl (resOk_tmp rfl) ?_))))))
          exact fun w' hw => ⟨rfl, (fun w h => Cl.sel (by exact .nil _) w h) _ hw⟩
        · skip
          have e1 : pronE l b.bl s = 0 := by rw [hVd, if_neg (by simp at h5; omega)]
          have e2 : pronR l b.bl s = pronC l b.bl s := by unfold pronR; rw [if_pos e1]
          rw [e1, e2]
          refine cw_skip (post_then (cw_seq (cw_region (sr rfl rfl rfl ((q_move rfl rfl)) (sr rfl rfl rfl ((q_eql rfl rfl rfl)) (sr rfl rfl rfl ((q_move rfl rfl)) (sr rfl rfl rfl ((q_move rfl rfl)) (sr rfl rfl rfl ((q_move rfl rfl)) ?_))))))))
          refine sw_step rfl rfl rfl (q_call (CanCall.mk Tryz.call42) rfl (.cons rfl inferInstance (.cons rfl inferInstance (.nil))) (fun _ w1 hw => callq hw (sameSounds_spec _ _ (pronC l b.bl s) (pronC l b.bl s) w1 (stb_own hw (by exact .tail _ (.tail _ (.head _)))) (stb_own hw (by exact .head _))))) ?_
          refine sr rfl rfl rfl ((q_and2 rfl rfl rfl)) (sr rfl rfl rfl ((q_move rfl rfl)) ?_)
          refine sw_step rfl rfl rfl (q_call (CanCall.mk Tryz.call19) rfl (.nil) (fun _ w hw => callq hw (known_spec w (stb_arg hw (by assumption))))) ?_
          refine sr rfl rfl rfl ((q_and2 rfl rfl rfl)) (sr rfl rfl rfl ((q_assign rfl rfl)) (sw_nil (post_then (cw_ret (post_ret1 rfl (resOk_tmp rfl) ?_)))))
          exact fun w' hw => ⟨by simp, (fun w h => Cl.sel (by exact .nil _) w h) _ hw⟩
end Go.Proofs.YtkmbliojafefdaaGreatDoor

set_option autoImplicit false
namespace Go.Proofs.YtkmbliojafefdaaGreatDoor.letterPronounces
open Go.ChangeShapes Go.WideShapes Go.ChangeAt Go.RowKit Go.Sx
theorem own : ownKnob Tryz.prog.godebug = none := by kernel_rfl
theorem laid : laidOutB Tryz.prog = true := by kernel_rfl
theorem rowed : ∀ t ∈ Tryz.f15.params.toList, Tryz.prog.readableRec t = true ∧ t < Tryz.prog.types.size := by
  rw [Tryz.params15]
  intro t ht
  change t ∈ [38, 45, 9] at ht
  simp only [List.mem_cons, List.not_mem_nil, or_false] at ht
  rcases ht with rfl | rfl | rfl <;> exact ⟨by kernel_rfl, of_decide_eq_true (by kernel_rfl)⟩
set_option maxHeartbeats 1000000 in
set_option maxRecDepth 100000 in
theorem lifted (os : Os) (started : os.Started) (H : Type) (enc : TypeId × Value → H) :
    ReturnsInHanded {} Tryz.checked os 15 .any (fun w args => (Rows.letterPronouncesSpec.pre enc Tryz.prog Tryz.f15 Rows.letterPronouncesRow.domain false w args ∧ laidMetH Tryz.prog Rows.letterPronouncesRow.laid w) ∧ sizedMet enc Tryz.prog Tryz.f15 (OpenSpec.ofChange Rows.letterPronouncesSpec) false w args)
      (Rows.letterPronouncesSpec.post enc Tryz.prog Tryz.f15 false true false false) := by
  refine returnsInHanded_of_change_and (C := Tryz.checked) (X := fun w _ => laidMetH Tryz.prog Rows.letterPronouncesRow.laid w) (fun _ _ _ hh h => h.of_heap hh) own started (by kernel_rfl) Tryz.func15
    (ChangeSpec.witness_shaped (enc := enc) (C := Tryz.checked) (os := os) (X := fun w _ => laidMetH Tryz.prog Rows.letterPronouncesRow.laid w) false (World.laidAll Tryz.prog os Rows.letterPronouncesRow.laid) #[.slice none 0 0, .agg #[.slice none 0 0], .string ByteArray.empty] 8 (World.laidAll_os _ _ _)
      (World.shaped_of_ZipB (by kernel_rfl) (by kernel_rfl)) (by kernel_rfl) (by kernel_rfl) (by kernel_rfl)
      (by rw [MakeChecks.laidMetH_plain _ _ _ (by kernel_rfl)]; exact laidMet_laidAll _ (by kernel_rfl) (by kernel_rfl))) ?_
  intro W base args ds gs before hval0 hW hcnd _ hL _
  have hval : ∀ (j : Nat) t v, Tryz.f15.params[j]? = some t → args[j]? = some v → Value.okWide Tryz.prog W .any base t v := hval0
  have hW' := hW
  have hlt := hW.lt
  obtain ⟨p, q, hA0, hV, rfl, hfz, hnd⟩ := hW
  have hA : DataW.TrodAll enc Tryz.prog W 0 (fun _ => true) true Tryz.f15.params.toList args.toList ds p := hA0
  have hkeep := fun (W' : World) (hb : Below W.heap.size W W') (sp : Nat → Bool) (hsp : ∀ x ∈ p, sp x.block = true) => trodAll_keep laid hb sp rowed hA (fun x hx => hlt x (by simp [hx])) hsp
  rw [Tryz.params15] at hA hval
  obtain ⟨v0, vs0, d0, ds0, p0, q0, hargs, rfl, rfl, h0, r0⟩ := trodAll_cons hA
  obtain ⟨v1, vs1, d1, ds1, p1, q1, rfl, rfl, rfl, h1, r1⟩ := trodAll_cons r0
  obtain ⟨v2, vs2, d2, ds2, p2, q2, rfl, rfl, rfl, h2, r2⟩ := trodAll_cons r1
  obtain ⟨rfl, rfl, rfl⟩ := trodAll_nil r2
  obtain rfl : args = #[v0, v1, v2] := by cases args; simp_all
  obtain ⟨rfl, rfl⟩ := trodVars_none hV
  obtain ⟨a0, b0, rfl, k0⟩ := open_deep (hval 0 38 v0 rfl rfl) h0
  obtain ⟨a1, b1, rfl, k1⟩ := open_deep (hval 1 45 v1 rfl rfl) h1
  obtain ⟨a2, b2, rfl, k2⟩ := open_deep (hval 2 9 v2 rfl rfl) h2
  obtain ⟨rfl, w2⟩ := k2.here
  clear hA0 hval0
  rw [MakeChecks.laidMetH_plain _ _ _ (by kernel_rfl)] at hL
  have hT : Stb W [] Tab := tab_stb (utf8Tabs_of_readsT (U8Types.of196 Tryz.lays196) ⟨by kernel_rfl, by kernel_rfl, by kernel_rfl, by kernel_rfl, by kernel_rfl, by kernel_rfl, by kernel_rfl⟩ (Pinned.utf8First_eq ▸ Lib.laidMet.reads hL (.tail _ (.head _))) (Lib.laidMet.reads hL (.head _)))
  obtain rfl := k1.here.1
  refine (pronounces_spec a0 a1 b0 a2 (by have := w2; unfold maxLen at this; omega) (sp_size k0.here) W hT (stb_flat (fun a b w h => h.1) k0) (sp_all k0) (stb_map k1 fun _ h => h.2)).mono fun e W' ⟨he, hc⟩ => ?_
  subst he
  have hb := below_of hc
  exact ⟨_, rfl, _, _, _, [], _, [], hW', trodAll_cons_mk (shut_bool Tryz.underlying4 _) trodAll_mk0, hkeep W' hb _ (fun x hx => by simpa using hlt x (by simpa using hx)), rfl, hb.frame _, fun h => by cases h⟩
end Go.Proofs.YtkmbliojafefdaaGreatDoor.letterPronounces

set_option autoImplicit false
namespace Go.Proofs.YtkmbliojafefdaaGreatDoor.letterPronounces
open Go.Sx
theorem named : Tryz.prog.funcNamed "declaim/declaimlaw03.LetterPronounces" = some 15 := by kernel_rfl
theorem inst : Tryz.f15.isInstance Tryz.prog Rows.letterPronouncesRow.origin Rows.letterPronouncesRow.targs := of_decide_eq_true (by kernel_rfl)
theorem wrap : Tryz.f15.isWrapper Tryz.prog Rows.letterPronouncesRow.wrapper Rows.letterPronouncesRow.mainSum := by unfold Func.isWrapper; first | (rw [if_pos (by decide +kernel)]; kernel_rfl) | (rw [if_neg (by decide +kernel)]; exact ⟨rfl, rfl⟩)
theorem over : Rows.letterPronouncesRow.holds Tryz.pinned (OpenSpec.ofChange Rows.letterPronouncesSpec) :=
  OpenClaim.holds_of_wide 15 Tryz.f15 rfl rfl rfl rfl rfl rfl rfl ⟨rfl, rfl, rfl, rfl, rfl⟩ rfl rfl rfl rfl rfl named Tryz.func15 closed inst wrap
    (fun os started H enc _ => lifted os started H enc)
end Go.Proofs.YtkmbliojafefdaaGreatDoor.letterPronounces
