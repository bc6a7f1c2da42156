import Derived.Test.YtkmbliojafefdaaGreatDoorWSupports0
import Derived.Test.YtkmbliojafefdaaGreatDoorRows
import Derived.LaidMore
import Derived.Lay
import Derived.Stop.Joined
import Derived.Test.YtkmbliojafefdaaGreatDoorVSupports1

set_option autoImplicit false
set_option linter.unusedSimpArgs false
set_option linter.unusedVariables false
set_option maxRecDepth 100000
set_option maxHeartbeats 1000000
namespace Go.Proofs.YtkmbliojafefdaaGreatDoor
open Go.Sx
open Enc (enc val)
theorem with_spec (sv sp : Value) (l : List XR) (pl : List ByteArray) (hl : l.length ≤ 1000000) (w : World) (hs : Stb w [] (RdL sv l)) (hin : Stb w [] fun w' => ∀ u ∈ l, RxIn u w') (hp : Stb w [] (RdL sp pl)) : Calls Tryz.prog 36 #[sv, sp] w fun e w' => e = .returned (.int .i64 (cnt (l.map XR.x) pl)) ∧ Cl w [] [] w' := by
  have hL := rd_len hs.here
  refine calls_cw (vs := [_, _]) Tryz.func36 rfl Tryz.ntmps36 rfl (Cl.start0 w) (cw_seq (cw_region (zS rfl (q_assign rfl rfl) (sw_nil (post_then (cw_seq (cw_region (zS rfl (q_assign rfl rfl) (sw_nil (post_then (cw_seq (cw_seq (cw_region (zS rfl (q_assign rfl rfl) (sw_nil (post_then (cw_block ?_)))))))))))))))))
  refine cw_loop (S := Nat) (fun k => [(0, [], sv), (1, [], sp), (5, [], .int .i64 (cnt ((l.take k).map XR.x) pl)), (6, [], .int .i64 k)]) (fun _ => Cl w [] []) (fun k => k ≤ l.length) (fun k => l.length - k) 0 (Nat.zero_le _) (by exact .cons rfl (.cons rfl (.cons rfl (.cons rfl .nil)))) (fun _ h => h) ?_
  rintro k hk
  have z := cnt_le ((l.take k).map XR.x) pl
  rw [List.length_map, List.length_take] at z
  refine cw_seq (cw_seq (cw_region (zS rfl (q_move rfl rfl) (zS rfl (q_move rfl rfl) ?_))))
  refine zS rfl (q_len rfl (.k rfl (.nil)) (stA (by assumption))) ?_
  refine zS rfl (q_lss rfl rfl rfl) (sw_nil (post_then ?_))
  refine cw_cond rfl (fun h => ?_) (fun h => ?_)
  · have hk' : k < l.length := by simp at h; omega
    have hx : Stb w [] (RdL (nth l k).p.v (nth l k).pl) := stb_map hin fun _ h => (h _ (nth_mem hk')).2
    have e1 : cnt ((l.take (k + 1)).map XR.x) pl = cnt ((l.take k).map XR.x) pl + if (nth l k).pl = pl then 1 else 0 := by
      unfold cnt
      rw [List.take_succ_eq_append_getElem hk', ← nth_get hk', List.map_append, List.countP_append]
      congr 1
      show List.countP _ [(nth l k).x] = _
      by_cases g : (nth l k).pl = pl <;> simp [g, XR.x]
    refine cw_skip (post_then (cw_seq (cw_block (cw_seq (cw_region (zS rfl (q_move rfl rfl) (zS rfl (q_move rfl rfl) ?_)))))))
    refine zS rfl (q_indexN rfl rfl rfl (stA (by assumption)) (by intro hc; omega)) ?_
    refine zS rfl (q_fieldEl rfl rfl (stA (by assumption)) (by intro hc; omega)) ?_
    refine zS rfl (q_loadF rfl rfl rfl (stA (by assumption)) (by intro hc; omega) rfl) ?_
    refine zS rfl (q_move rfl rfl) ?_
    refine sw_step rfl rfl rfl (q_call (CanCall.mk Tryz.call38) rfl (.k rfl (.k rfl (.nil))) (fun _ w hw => callq hw (order_spec _ _ _ _ w (by exact stb_arg hw (by assumption)) (by exact stb_arg hw (by assumption))))) ?_
    refine zS rfl (q_eql rfl rfl rfl) (sw_nil (post_then ?_))
    refine cw_cond rfl (fun h2 => ?_) (fun h2 => ?_)
    · rw [if_pos ((ordL_eq _ _).1 (by simpa using h2))] at e1
      refine cw_region (zS rfl (q_move rfl rfl) ?_)
      refine zS rfl (q_add rfl rfl rfl (by intro hc; omega)) ?_
      refine zS rfl (q_assign rfl rfl) (sw_nil (post_blk (post_then (cw_region (zS rfl (q_move rfl rfl) ?_)))))
      refine zS rfl (q_add rfl rfl rfl (by intro hc; omega)) ?_
      refine zS rfl (q_assign rfl rfl) (sw_nil ?_)
      exact post_next (k + 1) (by exact .cons rfl (.cons rfl (.cons' rfl (by congr 1; first | omega | (simp only; omega)) (.cons rfl .nil)))) (fun _ h => h) (by omega) (by omega)
    · rw [if_neg (fun g => by rw [g, ordL_self] at h2; simp at h2)] at e1
      refine cw_skip (post_blk (post_then (cw_region (zS rfl (q_move rfl rfl) ?_))))
      refine zS rfl (q_add rfl rfl rfl (by intro hc; omega)) ?_
      refine zS rfl (q_assign rfl rfl) (sw_nil ?_)
      exact post_next (k + 1) (by exact .cons rfl (.cons rfl (.cons' rfl (by congr 1; first | omega | (simp only; omega)) (.cons rfl .nil)))) (fun _ h => h) (by omega) (by omega)
  · have hk' : k = l.length := by simp at h; omega
    subst hk'
    rw [List.take_length]
    refine cw_exit (post_then_x (post_then_x (post_blk_eq (post_then (cw_seq (cw_region (zS rfl (q_move rfl rfl) (zS rfl (q_assign rfl rfl) (sw_nil (post_then (cw_ret (post_ret1 rfl (resOk_tmp rfl) ?_))))))))))))
    exact fun w' hw => ⟨rfl, hw⟩
theorem law_z {l : List Sp} {p : List Pr} {n : Int} (h : lawLex l n = true ∧ brf l = true ∧ lawPrs p = true) : (∀ u ∈ l, u.word.size ≤ 1000 ∧ ∀ b ∈ u.pl, b.size ≤ 9223372036854775807) ∧ (∀ u ∈ p, ∀ b ∈ u.pl, b.size ≤ 9223372036854775807) := by
  have z1 := lawLex_z h.1
  have z2 := lawPrs_z h.2.2
  exact ⟨fun u hu => ⟨by have := (z1 u hu).1; omega, fun b hb => by have := (z1 u hu).2.2 b hb; omega⟩, fun u hu b hb => by have := (z2 u hu).2 b hb; omega⟩
theorem law_few {l : List Sp} {p : List Pr} {o : Lrn} {n : Nat} (hn : n ≤ 20) (h : lawLex l n = true ∧ brf l = true ∧ lawPrs p = true) (h0 : optE l p o = 0) : l.length ≤ n ∧ ∀ u ∈ l, u.word.size ≤ 12 ∧ u.pl.length ≤ 20 := by
  have h1 := lawLex_len h.1
  have h2 := optE_long h0
  have hl : l.length ≤ n := by omega
  exact ⟨hl, brf_z (by omega) h.2.1⟩
theorem teach_at {bl : List Let} {q : List (Rn × XP)} {o : Lrn} (hb : bkP bl = teachP q o) : bl.length = (sortR (abcC q)).length ∧ ∀ k, k < bl.length → (nth bl k).c = (nth (sortR (abcC q)) k).v ∧ rlP (nth bl k).rl = listC ((xsC q (nth (sortR (abcC q)) k)).map toXL) o := by
  obtain ⟨h1, h2⟩ := (map_eq_iff (fun L : Let => (L.c, rlP L.rl)) (a := bl) (b := bl)).1 rfl
  have hlen : bl.length = (sortR (abcC q)).length := by
    have := congrArg List.length hb
    unfold bkP teachP at this
    simpa using this
  refine ⟨hlen, fun k hk => ?_⟩
  have h1 := congrArg (fun x => x[k]?) hb
  unfold bkP teachP at h1
  have hk2 : k < (sortR (abcC q)).length := by omega
  simp only [List.getElem?_map, List.getElem?_eq_getElem hk, List.getElem?_eq_getElem hk2, Option.map_some, Option.some.injEq, Prod.mk.injEq] at h1
  rw [nth_get hk, nth_get hk2]
  exact h1
theorem supports_spec (sl sp : SlV) (l : List Sp) (p : List Pr) (o : Lrn) (hz : ∀ u ∈ l, u.word.size ≤ 9223372036854775807) (w : World) (hT : Stb w [] Tab) (hs : Stb w [] (RdL sl.v l)) (hsi : Stb w [] fun w' => ∀ u ∈ l, SpIn u w') (hp : Stb w [] (RdL sp.v p)) (hpi : Stb w [] fun w' => ∀ u ∈ p, PrIn u w') :
    Calls Tryz.prog 6 #[sl.v, sp.v, val o] w fun e w' => e = .returned (.bool true) ∧ Cl w [] [] w' := by
  have hL1 := rd_len hs.here
  have hL2 := rd_len hp.here
  refine calls_cw (vs := [_, _, _]) Tryz.func6 rfl Tryz.ntmps6 rfl (Cl.start0 w) (cw_seq (cw_region ?_))
  refine sw_x rfl rfl rfl (e_box rfl rfl rfl) (fun b5 => ?_)
  refine zS rfl (q_assign rfl rfl) (sw_nil (post_then (cw_seq (cw_seq (cw_region (zS rfl (q_move rfl rfl) (sw_step rfl rfl rfl (q_call (CanCall.mk Tryz.call27) rfl (.k rfl (.k rfl (.nil))) (fun _ w hw => callq hw (lawLex_spec _ l 8 hz w (stb_arg hw hs) (stb_arg hw hsi)))) (zS rfl (q_not rfl rfl) (zS rfl (q_move rfl rfl) (zS rfl (q_move rfl rfl) (sw_step rfl rfl rfl (q_call (CanCall.mk Tryz.call28) rfl (.k rfl (.nil)) (fun _ w hw => callq hw (brief_spec _ l hz w (stb_arg hw hs) (stb_arg hw hsi)))) (zS rfl (q_not rfl rfl) (zS rfl (q_or2 rfl rfl rfl) (zS rfl (q_move rfl rfl) (zS rfl (q_move rfl rfl) (sw_step rfl rfl rfl (q_call (CanCall.mk Tryz.call17) rfl (.k rfl (.nil)) (fun _ w hw => callq hw (lawPairs_spec _ p w (stb_arg hw hp) (stb_arg hw hpi)))) (zS rfl (q_not rfl rfl) (zS rfl (q_or2 rfl rfl rfl) (zS rfl (q_move rfl rfl) (zS rfl (q_move rfl rfl) (zS rfl (q_move rfl rfl) ?_)))))))))))))))))))))
  refine zS rfl (q_loadA rfl rfl (by exact .head _) rfl) ?_
  refine sw_step rfl rfl rfl (q_call (CanCall.mk Tryz.call30) rfl (.k rfl (.k rfl (.k rfl (.nil)))) (fun hcs w hw => callq hw (shape_spec sl sp l p o (law_z (by simpa [AllT, and_assoc] using hcs)).1 (law_z (n := 8) (l := l) (by simpa [AllT, and_assoc] using hcs)).2 w (stb_arg hw hT) (stb_arg hw hs) (stb_arg hw hsi) (stb_arg hw hp) (stb_arg hw hpi)))) ?_
  refine zS rfl (q_neq rfl rfl rfl) (zS rfl (q_or2 rfl rfl rfl) (sw_nil (post_then ?_)))
  refine cw_cond rfl (fun h => ?_) (fun h => ?_)
  · refine cw_seq (cw_region ?_)
    refine sw_step rfl rfl rfl (q_call (CanCall.mk Tryz.call19) rfl (.nil) (fun _ w hw => callq hw (known_spec w (stb_arg hw (by assumption))))) ?_
    refine zS rfl (q_assign rfl rfl) (sw_nil (post_then (cw_ret (post_then_r (post_ret1 rfl (resOk_tmp rfl) ?_)))))
    exact fun w' hw => ⟨rfl, (Cl.sel (by exact .nil _)) _ hw⟩
  · have h1 : (lawLex l 8 = true ∧ brf l = true ∧ lawPrs p = true) ∧ optE l p o = 0 := by
      simp at h; exact ⟨⟨h.1.1.1, h.1.1.2, h.1.2⟩, h.2⟩
    obtain ⟨hlaw, h0⟩ := h1
    obtain ⟨f1, f2⟩ := law_few (n := 8) (by omega) hlaw h0
    obtain ⟨o1, o2, o3⟩ := optE_zero h0
    obtain ⟨y1, y2, y3, y4, y5⟩ := prsE_zero o2
    have o4 := (lexE_zero2 o1).2
    have hsz : ∀ u ∈ l, u.word.size ≤ 1000000 := fun u hu => by have := (f2 u hu).1; omega
    refine cw_skip (post_then (cw_seq (cw_region (zS rfl (q_move rfl rfl) (zS rfl (q_move rfl rfl) ?_)))))
    refine zS rfl (q_loadA rfl rfl (by exact .head _) rfl) ?_
    refine sw_x rfl rfl rfl (e_call (CanCall.mk Tryz.call29) rfl (.k rfl (.k rfl (.k rfl (.nil)))) (fun w1 hw => learn_spec sl sp l p o hsz (fun h0 => by have := (abc_few (p := p) f1 fun u hu => (f2 u hu).1).2; omega) w1 (stb_arg hw hT) (stb_arg hw hs) (stb_arg hw hsi) (stb_arg hw hp) (stb_arg hw hpi))) (fun b => ?_)
    refine sw_imp fun hb => ?_
    rw [h0]
    refine zS rfl (q_move rfl rfl) (zS rfl (q_extract rfl rfl rfl) (zS rfl (q_extract rfl rfl rfl) ?_))
    refine sw_x rfl rfl rfl (e_alloc rfl) (fun b7 => ?_)
    refine sw_eff0 rfl rfl (e_store (i := 0) rfl rfl rfl rfl rfl rfl rfl rfl) (zS rfl (q_assign rfl rfl) (sw_nil (post_then (cw_seq (cw_seq (cw_region (zS rfl (q_move rfl rfl) (zS rfl (q_neq rfl rfl rfl) (sw_nil (post_then ?_))))))))))
    refine cw_cond rfl (fun h2 => ?_) (fun h2 => ?_)
    · simp at h2
    · refine cw_reb (A := [blk b7 [b.b.v] 45, blk b5 (enc o) 40]) (F := [Sx.frz (BkIn b)]) (fun w h => (Cl.sel (by exact .take 0 rfl (.take 1 rfl (.take 0 rfl (.nil _))))) _ h) fun w1 bs R => ?_
      have hT1 := R.stb hT
      have hs1 := R.stb hs
      have hsi1 := R.stb hsi
      have hp1 := R.stb hp
      have hpi1 := R.stb hpi
      have hb1 := R.frz (R := BkIn b) (by exact .head _)
      have hb2 := rd_stb hb1.here.1
      refine cw_skip (post_then (cw_seq (cw_region (zS rfl (q_assign rfl rfl) (sw_nil (post_then (cw_seq (cw_seq (cw_region (zS rfl (q_assign rfl rfl) (sw_nil (post_then (cw_block ?_)))))))))))))
      refine cw_loop (S := Nat × SlV × List XR) (fun y => [(0, [], sl.v), (1, [], sp.v), (5, [], .pointer (some ⟨b5, 0, none⟩)), (7, [], .pointer (some ⟨b7, 0, none⟩)), (9, [], y.2.1.v), (10, [], .int .i64 y.1)]) (fun y => Cl w1 bs [ownL 58 y.2.1.v y.2.2, Sx.frz (fun w => ∀ e ∈ y.2.2, RxIn e w), blk b7 [b.b.v] 45, blk b5 (enc o) 40]) (fun y => y.1 ≤ l.length ∧ evR y.2.2 = (l.take y.1).flatMap (evU p) ∧ (∀ e ∈ y.2.2, RxOk e) ∧ y.2.2.length ≤ y.1 * 60) (fun y => l.length - y.1) (0, ⟨none, 0, 0⟩, []) ⟨Nat.zero_le _, rfl, fun e he => by simp at he, by simp⟩ (by exact .cons rfl (.cons rfl (.cons rfl (.cons rfl (.cons rfl (.cons rfl .nil)))))) (fun w' h => ?_) ?_
      · have h1 : Cl w1 bs [blk b7 [b.b.v] 45, blk b5 (enc o) 40] w' := (Cl.sel (by exact .take 0 rfl (.take 0 rfl (.nil _)))) _ h
        exact (Cl.sel (by exact .take 1 rfl (.take 0 rfl (.take 0 rfl (.take 0 rfl (.nil _)))))) _ (Cl.frz (H := []) (R := fun w => ∀ e ∈ ([] : List XR), RxIn e w) (Cl.addNil (α := XR) 58 h1) fun w _ _ e he => by simp at he)
      rintro ⟨i, so, xs⟩ ⟨hi, hev, hxo, hxn⟩
      dsimp only at hi hev hxo hxn ⊢
      refine cw_seq (cw_seq (cw_region (zS rfl (q_move rfl rfl) (zS rfl (q_move rfl rfl) ?_))))
      refine zS rfl (q_len rfl (.k rfl (.nil)) (stA (by assumption))) ?_
      refine zS rfl (q_lss rfl rfl rfl) (sw_nil (post_then ?_))
      refine cw_cond rfl (fun h3 => ?_) (fun h3 => ?_)
      · have hi' : i < l.length := by simp at h3; omega
        obtain ⟨g2, g3⟩ := f2 _ (nth_mem hi')
        have g1 := (o4 _ (nth_mem hi')).1
        have gu : Stb w1 bs (SpIn (nth l i)) := stb_map hsi1 fun _ h => h _ (nth_mem hi')
        refine cw_skip (post_then (cw_seq (cw_block (cw_region (zS rfl (q_move rfl rfl) (zS rfl (q_move rfl rfl) (zS rfl (q_move rfl rfl) (zS rfl (q_move rfl rfl) ?_))))))))
        refine zS rfl (q_indexN rfl rfl rfl (stA (by assumption)) (by intro hc; omega)) ?_
        refine zS rfl (q_loadEl rfl rfl rfl (stA (by assumption)) (by intro hc; omega)) ?_
        refine sw_x rfl rfl rfl (e_call (CanCall.mk Tryz.call34) rfl (.k rfl (.k rfl (.nil))) (fun w2 hw => examples_spec sp p (nth l i) (by omega) y2 (fun x hx => by have := y3 x hx; omega) g1 (by omega) (by omega) w2 (stb_arg hw hT1) (stb_arg hw hp1) (stb_arg hw hpi1) (stb_arg hw gu))) (fun y => ?_)
        refine sw_imp fun hy => ?_
        obtain ⟨sy, ys⟩ := y
        obtain ⟨hy1, hy2⟩ := hy
        dsimp only at hy1 hy2 ⊢
        have hyl : ys.length ≤ 60 := by
          have e1 := congrArg List.length hy1
          rw [evR_len] at e1
          have e2 := evU_len p (nth l i)
          have e3 := runes_len_le (nth l i).word
          omega
        refine sw_x rfl rfl rfl (e_append (α := XR) (i := 1) (r := ys) rfl (.k rfl (.k rfl (.nil))) rfl rfl (fun w1 h1 => (rd_frz (R := fun w => RdL sy.v ys w ∧ ∀ e ∈ ys, RxIn e w) h1 (.head _)).1) (by omega) rfl) (fun s65 => ?_)
        refine zS rfl (q_assign rfl rfl) (sw_nil (post_blk (post_then (cw_region (zS rfl (q_move rfl rfl) ?_)))))
        refine zS rfl (q_add rfl rfl rfl (by intro hc; omega)) ?_
        refine zS rfl (q_assign rfl rfl) (sw_nil ?_)
        refine post_next (i + 1, s65, xs ++ ys) (by exact .cons rfl (.cons rfl (.cons rfl (.cons rfl (.cons rfl (.cons rfl .nil)))))) (fun w' h => ?_) ⟨by simp only; omega, ?_, fun e he => ?_, by simp only [List.length_append]; omega⟩ (by simp only; omega)
        · have h1 : Cl w1 bs ([Sx.frz (fun w => RdL sy.v ys w ∧ ∀ e ∈ ys, RxIn e w), Sx.frz (fun w => ∀ e ∈ xs, RxIn e w)] ++ [ownL 58 s65.v (xs ++ ys), blk b7 [b.b.v] 45, blk b5 (enc o) 40]) w' := (Cl.sel (by exact .take 0 rfl (.take 1 rfl (.take 0 rfl (.take 0 rfl (.take 0 rfl (.nil _))))))) _ h
          exact (Cl.sel (by exact .take 1 rfl (.take 0 rfl (.take 0 rfl (.take 0 rfl (.nil _)))))) _ (Cl.frz (R := fun w => ∀ e ∈ xs ++ ys, RxIn e w) h1 fun w bs ⟨_, _, _, j1, _, _, _, j2, _⟩ e he => by
            rcases List.mem_append.1 he with he | he
            · exact frz_here j2 e he
            · exact (frz_here j1).2 e he)
        · simp only
          rw [List.take_succ_eq_append_getElem hi', List.flatMap_append, ← hev, ← nth_get hi']
          unfold evR at hy1 ⊢
          rw [List.map_append, hy1]; simp
        · rcases List.mem_append.1 he with he | he
          · exact hxo e he
          · exact hy2 e he
      · have hi' : i = l.length := by simp at h3; omega
        subst hi'
        rw [List.take_length] at hev
        refine cw_reb (A := [blk b7 [b.b.v] 45, blk b5 (enc o) 40]) (F := [ownL 58 so.v xs, Sx.frz (fun w => ∀ e ∈ xs, RxIn e w)]) (fun w h => (Cl.sel (by exact .take 2 rfl (.take 2 rfl (.take 0 rfl (.take 0 rfl (.nil _)))))) _ h) fun w2 bs2 R2 => ?_
        have hT2 := R2.stb hT1
        have hb3 := R2.stb hb1
        have hx2 := R2.own (e := 58) (sv := so.v) (l := xs) (by exact .head _)
        have hxi := R2.frz (R := fun w => ∀ e ∈ xs, RxIn e w) (by exact .tail _ (.head _))
        have hLx := rd_len hx2.here
        obtain ⟨q, hq⟩ : ∃ q, l.flatMap (evU p) = q := ⟨_, rfl⟩
        rw [hq] at hev
        have hql : q.length = xs.length := by rw [← hev, evR_len]
        have hbq : bkP b.bl = teachP q o := by
          rw [hb, ← hq, ← ent_ev]
          unfold learnP
          rw [if_pos h0]; rfl
        obtain ⟨htl, hta⟩ := teach_at hbq
        have hsum := abc_sum q
        obtain ⟨S, hS⟩ : ∃ S, sortR (abcC q) = S := ⟨_, rfl⟩
        rw [hS] at htl hta hsum
        have hbl2 : Stb w2 bs2 (RdL b.b.v b.bl) := R2.stb (by exact ⟨fun w' k => hb1.stb w' k |>.1⟩)
        have hLb := rd_len hbl2.here
        refine cw_exit (post_then_x (post_then_x (post_blk_eq (post_then (cw_seq (cw_region (zS rfl (q_assign rfl rfl) (sw_nil (post_then (cw_seq (cw_seq (cw_region (zS rfl (q_assign rfl rfl) (sw_nil (post_then (cw_block ?_))))))))))))))))
        refine cw_loop (S := Nat) (fun i => [(5, [], .pointer (some ⟨b5, 0, none⟩)), (7, [], .pointer (some ⟨b7, 0, none⟩)), (9, [], so.v), (11, [], .int .i64 ((((S.take i).map fun c => (xsC q c).length).sum : Nat) : Int)), (12, [], .int .i64 i)]) (fun _ => Cl w2 bs2 [blk b7 [b.b.v] 45, blk b5 (enc o) 40]) (fun i => i ≤ b.bl.length) (fun i => b.bl.length - i) 0 (Nat.zero_le _) (by exact .cons rfl (.cons rfl (.cons rfl (.cons rfl (.cons rfl .nil))))) (fun w' h => (Cl.sel (by exact .take 0 rfl (.take 0 rfl (.nil _)))) _ h) ?_
        rintro i hi
        refine cw_seq (cw_seq (cw_region (zS rfl (q_move rfl rfl) (zS rfl (q_fieldAddr rfl rfl) ?_))))
        refine zS rfl (q_loadC rfl rfl (by exact .head _) rfl) ?_
        refine zS rfl (q_len rfl (.k rfl (.nil)) (stA (by assumption))) ?_
        refine zS rfl (q_lss rfl rfl rfl) (sw_nil (post_then ?_))
        refine cw_cond rfl (fun h4 => ?_) (fun h4 => ?_)
        · have hi' : i < b.bl.length := by simp at h4; omega
          have hiS : i < S.length := by omega
          obtain ⟨hc1, hc2⟩ := hta i hi'
          obtain ⟨c, hc⟩ : ∃ c, nth S i = c := ⟨_, rfl⟩
          obtain ⟨L, hLe⟩ : ∃ L, nth b.bl i = L := ⟨_, rfl⟩
          rw [hc, hLe] at hc1 hc2
          have hin : LetIn L w2 := by rw [← hLe]; exact hb3.here.2 _ (nth_mem hi')
          have hrl := rd_stb hin.1
          have hLr := rd_len hrl.here
          have hrl' : Stb w2 bs2 (RdL (nth b.bl i).r.v (nth b.bl i).rl) := by rw [hLe]; exact ⟨fun w' k => (hb3.stb w' k).2 _ (by rw [← hLe]; exact nth_mem hi') |>.1⟩
          have hst : ((S.take i).map fun c => (xsC q c).length).sum + (xsC q c).length ≤ xs.length := by
            have e1 := hsum
            rw [← List.take_append_drop i S, List.map_append, List.sum_append, List.drop_eq_getElem_cons hiS, List.map_cons, List.sum_cons, ← nth_get hiS, hc] at e1
            omega
          refine cw_skip (post_then (cw_seq (cw_block (cw_seq (cw_region (zS rfl (q_assign rfl rfl) (sw_nil (post_then (cw_seq (cw_seq (cw_region (zS rfl (q_assign rfl rfl) (sw_nil (post_then (cw_block ?_)))))))))))))))
          refine cw_loop (S := Nat × SlV) (fun y => [(5, [], .pointer (some ⟨b5, 0, none⟩)), (7, [], .pointer (some ⟨b7, 0, none⟩)), (9, [], so.v), (11, [], .int .i64 ((((S.take i).map fun c => (xsC q c).length).sum : Nat) : Int)), (12, [], .int .i64 i), (13, [], y.2.v), (14, [], .int .i64 y.1)]) (fun y => Cl w2 bs2 [ownL 58 y.2.v ((xs.take y.1).filter fun e => decide (nth e.wl e.at_.toNat = c)), blk b7 [b.b.v] 45, blk b5 (enc o) 40]) (fun y => y.1 ≤ xs.length) (fun y => xs.length - y.1) (0, ⟨none, 0, 0⟩) (Nat.zero_le _) (by exact .cons rfl (.cons rfl (.cons rfl (.cons rfl (.cons rfl (.cons rfl (.cons rfl .nil))))))) (fun w' h => Cl.addNil (α := XR) 58 ((Cl.sel (by exact .take 0 rfl (.take 0 rfl (.nil _)))) _ h)) ?_
          rintro ⟨j, s9⟩ hj
          dsimp only at hj ⊢
          have z1 := List.length_filter_le (fun e : XR => decide (nth e.wl e.at_.toNat = c)) (xs.take j)
          rw [List.length_take] at z1
          refine cw_seq (cw_seq (cw_region (zS rfl (q_move rfl rfl) (zS rfl (q_move rfl rfl) ?_))))
          refine zS rfl (q_len rfl (.k rfl (.nil)) (stA (by assumption))) ?_
          refine zS rfl (q_lss rfl rfl rfl) (sw_nil (post_then ?_))
          refine cw_cond rfl (fun h5 => ?_) (fun h5 => ?_)
          · have hj' : j < xs.length := by simp at h5; omega
            have hym := nth_mem hj'
            have hyo := hxo _ hym
            have hy0 := hyo.at0
            have hy1 := hyo.in_
            have hyr : Stb w2 bs2 (RdL (nth xs j).w.v (nth xs j).wl) := stb_map hxi fun _ h => (h _ hym).1
            have f1 : (xs.take (j + 1)).filter (fun e : XR => decide (nth e.wl e.at_.toNat = c)) = (xs.take j).filter (fun e : XR => decide (nth e.wl e.at_.toNat = c)) ++ if nth (nth xs j).wl (nth xs j).at_.toNat = c then [nth xs j] else [] := by
              rw [List.take_succ_eq_append_getElem hj', ← nth_get hj', List.filter_append]
              congr 1
              by_cases g : nth (nth xs j).wl (nth xs j).at_.toNat = c <;> simp [g]
            obtain ⟨a2, hae2⟩ : ∃ a : Nat, (nth xs j).at_ = a := ⟨(nth xs j).at_.toNat, by omega⟩
            rw [hae2, Int.toNat_natCast] at f1
            refine cw_skip (post_then (cw_seq (cw_block (cw_seq ?_))))
            refine cw_region_q mixed_Tryz (by kernel_rfl) ?_
            refine zq rfl (q_move rfl rfl) (zq rfl (q_move rfl rfl) ?_)
            refine zq rfl (q_indexN rfl rfl rfl (stA (by assumption)) (by intro hc; omega)) ?_
            refine zq rfl (q_fieldEl rfl rfl (stA (by assumption)) (by intro hc; omega)) ?_
            refine zq rfl (q_loadF rfl rfl rfl (stA (by assumption)) (by intro hc; omega) rfl) ?_
            refine zq rfl (q_move rfl rfl) (zq rfl (q_move rfl rfl) ?_)
            refine zq rfl (q_indexN rfl rfl rfl (stA (by assumption)) (by intro hc; omega)) ?_
            refine zq rfl (q_fieldEl rfl rfl (stA (by assumption)) (by intro hc; omega)) ?_
            refine zq rfl (q_loadF rfl rfl rfl (stA (by assumption)) (by intro hc; omega) rfl) ?_
            refine zq rfl (q_index rfl rfl rfl (stA (by assumption)) (by intro hc; omega)) ?_
            refine zq rfl (q_loadEl rfl rfl rfl (stA (by assumption)) (by intro hc; omega)) ?_
            refine zq rfl (q_fieldAddr rfl rfl) ?_
            refine zq rfl (q_loadC rfl rfl (by exact .tail _ (.head _)) rfl) ?_
            refine zq rfl (q_move rfl rfl) ?_
            refine zq rfl (q_indexN rfl rfl rfl (stA (by assumption)) (by intro hc; omega)) ?_
            refine zq rfl (q_fieldEl rfl rfl (stA (by assumption)) (by intro hc; omega)) ?_
            refine zq rfl (q_loadF rfl rfl rfl (stA (by assumption)) (by intro hc; omega) rfl) ?_
            refine zq rfl (q_eql rfl rfl rfl) (qw_end (post_then ?_))
            refine cw_cond rfl (fun h6 => ?_) (fun h6 => ?_)
            · have h7 : nth (nth xs j).wl a2 = c := rn_eq.2 (by simpa [hae2, hLe, hc1] using h6)
              rw [if_pos h7] at f1
              refine cw_region (zS rfl (q_move rfl rfl) (zS rfl (q_move rfl rfl) (zS rfl (q_move rfl rfl) ?_)))
              refine zS rfl (q_indexN rfl rfl rfl (stA (by assumption)) (by intro hc; omega)) ?_
              refine zS rfl (q_loadEl rfl rfl rfl (stA (by assumption)) (by intro hc; omega)) ?_
              refine sw_x rfl rfl rfl (e_buildL (α := XR) (l := [nth xs j]) rfl (.k rfl (.nil)) rfl rfl rfl rfl) (fun s103 => ?_)
              refine sw_x rfl rfl rfl (e_append (i := 1) rfl (.k rfl (.k rfl (.nil))) rfl rfl (rdO (by exact .head _)) (by first | omega | (simp only [List.length_set, List.length_append, List.length_cons, List.length_nil, List.length_replicate, List.length_take, List.length_drop, List.length_map]; omega)) rfl) (fun s104 => ?_)
              refine zS rfl (q_assign rfl rfl) (sw_nil (post_blk (post_then (cw_region (zS rfl (q_move rfl rfl) ?_)))))
              refine zS rfl (q_add rfl rfl rfl (by intro hc; omega)) ?_
              refine zS rfl (q_assign rfl rfl) (sw_nil ?_)
              exact post_next (j + 1, s104) (by exact .cons rfl (.cons rfl (.cons rfl (.cons rfl (.cons rfl (.cons rfl (.cons rfl .nil))))))) (fun w' h => by simp only; rw [f1]; exact (Cl.sel (by exact .take 1 rfl (.take 1 rfl (.take 1 rfl (.nil _))))) _ h) (by simp only; omega) (by simp only; omega)
            · have h7 : ¬ nth (nth xs j).wl a2 = c := fun e => by
                simp [hae2, hLe, hc1, e] at h6
              rw [if_neg h7, List.append_nil] at f1
              refine cw_skip (post_blk (post_then (cw_region (zS rfl (q_move rfl rfl) ?_))))
              refine zS rfl (q_add rfl rfl rfl (by intro hc; omega)) ?_
              refine zS rfl (q_assign rfl rfl) (sw_nil ?_)
              exact post_next (j + 1, s9) (by exact .cons rfl (.cons rfl (.cons rfl (.cons rfl (.cons rfl (.cons rfl (.cons rfl .nil))))))) (fun w' h => by simp only; rw [f1]; exact (Cl.sel (by exact .take 0 rfl (.take 0 rfl (.take 0 rfl (.nil _))))) _ h) (by simp only; omega) (by simp only; omega)
          · have hj' : j = xs.length := by simp at h5; omega
            subst hj'
            rw [List.take_length] at z1 ⊢
            obtain ⟨own, hown⟩ : ∃ own, xs.filter (fun e : XR => decide (nth e.wl e.at_.toNat = c)) = own := ⟨_, rfl⟩
            have hpl := own_xs xs c
            rw [hown, hev] at hpl
            have hsub : ∀ e ∈ own, e ∈ xs := fun e he => by rw [← hown] at he; exact (List.mem_filter.1 he).1
            rw [hown] at z1 ⊢
            have hlc := listC_pl hpl o
            rw [← hlc] at hc2
            have hxl : (xsC q c).length = own.length := by rw [← hpl]; simp
            have hpos : 0 < own.length := by
              have hcm : c ∈ abcC q := by
                rw [← (sortR_perm _).mem_iff, hS, ← hc]; exact nth_mem hiS
              rw [abc_mem] at hcm
              rw [← hxl]
              exact List.length_pos_iff.2 hcm
            obtain ⟨Q, pb, g1, g2, g3⟩ := listC_sup o3 (own.map XR.x)
            rw [g1] at hc2
            have hml := o3.most
            have hrn : L.rl.length = Q.length + 1 := by
              have := congrArg List.length hc2
              unfold rlP at this
              simpa using this
            have hru : ∀ k, k < Q.length → (nth L.rl k).tl = (nth Q k).1 ∧ (nth L.rl k).pl = (nth Q k).2 := fun k hk => by
              have h1 := congrArg (fun z => z[k]?) hc2
              unfold rlP at h1
              have hk1 : k < L.rl.length := by omega
              simp only [List.getElem?_map, List.getElem?_eq_getElem hk1, Option.map_some, List.getElem?_append_left hk, List.getElem?_eq_getElem hk, Option.some.injEq] at h1
              rw [nth_get hk1, nth_get hk, ← h1]
              exact ⟨rfl, rfl⟩
            refine cw_exit (post_then_x (post_then_x (post_blk_eq (post_then (cw_seq (cw_region (zS rfl (q_move rfl rfl) (zS rfl (q_move rfl rfl) ?_))))))))
            refine zS rfl (q_len rfl (.k rfl (.nil)) (rdO (by exact .head _))) ?_
            refine zS rfl (q_add rfl rfl rfl (by intro hc; omega)) ?_
            refine zS rfl (q_assign rfl rfl) (sw_nil (post_then (cw_seq (cw_seq ?_))))
            refine cw_region_q mixed_Tryz (by kernel_rfl) ?_
            refine zq rfl (q_move rfl rfl) ?_
            refine zq rfl (q_len rfl (.k rfl (.nil)) (rdO (by exact .head _))) ?_
            refine zq rfl (q_eql rfl rfl rfl) (zq rfl (q_move rfl rfl) (zq rfl (q_fieldAddr rfl rfl) ?_))
            refine zq rfl (q_loadC rfl rfl (by exact .tail _ (.head _)) rfl) ?_
            refine zq rfl (q_move rfl rfl) ?_
            refine zq rfl (q_indexN rfl rfl rfl (stA (by assumption)) (by intro hc; omega)) ?_
            refine zq rfl (q_fieldEl rfl rfl (stA (by assumption)) (by intro hc; omega)) ?_
            refine zq rfl (q_loadF rfl rfl rfl (stA (by assumption)) (by intro hc; omega) rfl) ?_
            refine zq rfl (q_len rfl (.k rfl (.nil)) (stA (by assumption))) ?_
            refine zq rfl (q_fieldAddr rfl rfl) ?_
            refine zq rfl (q_loadC rfl rfl (by exact .tail _ (.tail _ (.head _))) rfl) ?_
            refine zq rfl (q_add rfl rfl rfl (by intro hc; omega)) ?_
            refine zq rfl (q_gtr rfl rfl rfl) (zq rfl (q_or2 rfl rfl rfl) (qw_end (post_then ?_)))
            refine cw_cond rfl (fun h6 => ?_) (fun h6 => ?_)
            · exfalso
              simp [hLe, hrn] at h6
              rw [← List.length_eq_zero_iff] at h6
              omega
            · refine cw_skip (post_then (cw_seq (cw_region (zS rfl (q_assign rfl rfl) (sw_nil (post_then (cw_block ?_)))))))
              refine cw_loop (S := Nat × SlV × List XR) (fun y => [(5, [], .pointer (some ⟨b5, 0, none⟩)), (7, [], .pointer (some ⟨b7, 0, none⟩)), (9, [], so.v), (11, [], .int .i64 ((((S.take i).map fun c => (xsC q c).length).sum + own.length : Nat) : Int)), (12, [], .int .i64 i), (13, [], y.2.1.v), (15, [], .int .i64 y.1)]) (fun y => Cl w2 bs2 [ownL 58 y.2.1.v y.2.2, blk b7 [b.b.v] 45, blk b5 (enc o) 40]) (fun y => y.1 ≤ Q.length ∧ (∀ e ∈ y.2.2, e ∈ xs) ∧ y.2.2.length ≤ xs.length ∧ Sup o (y.2.2.map XR.x) (Q.drop y.1)) (fun y => Q.length - y.1) (0, s9, own) ⟨Nat.zero_le _, hsub, by simp only; omega, by rw [List.drop_zero]; exact g2⟩ (by exact .cons rfl (.cons rfl (.cons rfl (.cons rfl (.cons rfl (.cons rfl (.cons rfl .nil))))))) (fun w' h => (Cl.sel (by exact .take 0 rfl (.take 0 rfl (.take 0 rfl (.nil _))))) _ h) ?_
              rintro ⟨k, s13, lf⟩ ⟨hk, hlf, hll, hsup⟩
              dsimp only at hk hlf hll hsup ⊢
              refine cw_seq (cw_seq (cw_region (zS rfl (q_move rfl rfl) ?_)))
              refine zS rfl (q_add rfl rfl rfl (by intro hc; omega)) ?_
              refine zS rfl (q_fieldAddr rfl rfl) ?_
              refine zS rfl (q_loadC rfl rfl (by exact .tail _ (.head _)) rfl) ?_
              refine zS rfl (q_move rfl rfl) ?_
              refine zS rfl (q_indexN rfl rfl rfl (stA (by assumption)) (by intro hc; omega)) ?_
              refine zS rfl (q_fieldEl rfl rfl (stA (by assumption)) (by intro hc; omega)) ?_
              refine zS rfl (q_loadF rfl rfl rfl (stA (by assumption)) (by intro hc; omega) rfl) ?_
              refine zS rfl (q_len rfl (.k rfl (.nil)) (stA (by assumption))) ?_
              refine zS rfl (q_lss rfl rfl rfl) (sw_nil (post_then ?_))
              refine cw_cond rfl (fun h7 => ?_) (fun h7 => ?_)
              · have hk' : k < Q.length := by simp [hLe, hrn] at h7; omega
                have hkl : k < L.rl.length := by omega
                have hkl' : k < (nth b.bl i).rl.length := by rw [hLe]; exact hkl
                obtain ⟨x, hx⟩ : ∃ x, nth L.rl k = x := ⟨_, rfl⟩
                obtain ⟨r1, r2⟩ := hru k hk'
                rw [hx] at r1 r2
                rw [List.drop_eq_getElem_cons hk', ← nth_get hk'] at hsup
                obtain ⟨hsr, hsn⟩ := hsup
                have hle := hsr.least
                have hso := hsr.some
                have hmo := hsr.most
                have htb := hsr.tl
                unfold nextT at hsn
                unfold heldT at hle hso hmo
                rw [← r1] at hsn hle hso hmo htb
                rw [← r2] at hso hmo
                rw [List.filter_map] at hsn hle hso hmo
                have hxin : ChcIn x w2 := by rw [← hx]; exact hin.2 _ (nth_mem hkl)
                have hxi2 : Stb w2 bs2 (ChcIn x) := stb_map hb3 fun _ h => by
                  have h8 := h.2 _ (nth_mem hi')
                  rw [hLe] at h8
                  have h9 := h8.2 _ (nth_mem hkl)
                  rw [hx] at h9; exact h9
                have hxt : Stb w2 bs2 (RdL x.t.v x.tl) := stb_map hxi2 fun _ h => h.1
                have hxp : Stb w2 bs2 (RdL x.p.v x.pl) := stb_map hxi2 fun _ h => h.2
                refine cw_skip (post_then (cw_seq (cw_block (cw_seq (cw_region (zS rfl (q_fieldAddr rfl rfl) ?_))))))
                refine zS rfl (q_loadC rfl rfl (by exact .tail _ (.head _)) rfl) ?_
                refine zS rfl (q_move rfl rfl) ?_
                refine zS rfl (q_indexN rfl rfl rfl (stA (by assumption)) (by intro hc; omega)) ?_
                refine zS rfl (q_fieldEl rfl rfl (stA (by assumption)) (by intro hc; omega)) ?_
                refine zS rfl (q_loadF rfl rfl rfl (stA (by assumption)) (by intro hc; omega) rfl) ?_
                refine zS rfl (q_move rfl rfl) ?_
                refine zS rfl (q_indexN rfl rfl rfl (stA (by assumption)) (by intro hc; omega)) ?_
                refine zS rfl (q_loadEl rfl rfl rfl (stA (by assumption)) (by intro hc; omega)) ?_
                rw [hLe, hx]
                refine sw_x rfl rfl rfl (e_alloc rfl) (fun b16 => ?_)
                refine sw_eff0 rfl rfl (e_store (i := 0) rfl rfl rfl rfl rfl rfl rfl rfl) (sw_nil (post_then (cw_seq (cw_region (zS rfl (q_assign rfl rfl) (zS rfl (q_assign rfl rfl) (sw_nil (post_then (cw_seq (cw_seq (cw_region (zS rfl (q_assign rfl rfl) (sw_nil (post_then (cw_block ?_)))))))))))))))
                obtain ⟨H, hH⟩ : ∃ H : XR → Bool, (fun e => holdsC e.wl e.at_ x.tl) = H := ⟨_, rfl⟩
                have hHe : ∀ e : XR, holdsC e.wl e.at_ x.tl = H e := fun e => by rw [← hH]
                have hle' : o.least ≤ ((lf.filter H).length : Int) := by
                  rw [← hH]; rw [List.length_map] at hle; exact hle
                have hso' : 1 ≤ cnt ((lf.filter H).map XR.x) x.pl := by rw [← hH]; exact hso
                have hmo' : ∀ e ∈ lf.filter H, cnt ((lf.filter H).map XR.x) e.pl ≤ cnt ((lf.filter H).map XR.x) x.pl := fun e he => by
                  rw [← hH] at he ⊢
                  exact hmo e.x (List.mem_map.2 ⟨e, he, rfl⟩)
                have hsn' : Sup o ((lf.filter fun e => !H e).map XR.x) (Q.drop (k + 1)) := by rw [← hH]; exact hsn
                clear hsn hle hso hmo
                refine cw_loop (S := Nat × SlV × SlV) (fun y => [(5, [], .pointer (some ⟨b5, 0, none⟩)), (7, [], .pointer (some ⟨b7, 0, none⟩)), (9, [], so.v), (11, [], .int .i64 ((((S.take i).map fun c => (xsC q c).length).sum + own.length : Nat) : Int)), (12, [], .int .i64 i), (13, [], s13.v), (15, [], .int .i64 k), (16, [], .pointer (some ⟨b16, 0, none⟩)), (17, [], y.2.1.v), (18, [], y.2.2.v), (19, [], .int .i64 y.1)]) (fun y => Cl w2 bs2 [ownL 58 y.2.1.v ((lf.take y.1).filter H), ownL 58 y.2.2.v ((lf.take y.1).filter fun e => !H e), ownL 58 s13.v lf, blk b16 (enc x) 64, blk b7 [b.b.v] 45, blk b5 (enc o) 40]) (fun y => y.1 ≤ lf.length) (fun y => lf.length - y.1) (0, ⟨none, 0, 0⟩, ⟨none, 0, 0⟩) (Nat.zero_le _) (by exact .cons rfl (.cons rfl (.cons rfl (.cons rfl (.cons rfl (.cons rfl (.cons rfl (.cons rfl (.cons rfl (.cons rfl (.cons rfl .nil))))))))))) (fun w' h => Cl.addNil 58 (Cl.addNil 58 ((Cl.sel (by exact .take 1 rfl (.take 0 rfl (.take 0 rfl (.take 0 rfl (.nil _)))))) _ h))) ?_
                rintro ⟨j, sa, sb⟩ hj
                dsimp only at hj ⊢
                have u1 := List.length_filter_le H (lf.take j)
                have u2 := List.length_filter_le (fun e : XR => !H e) (lf.take j)
                rw [List.length_take] at u1 u2
                refine cw_seq (cw_seq (cw_region (zS rfl (q_move rfl rfl) (zS rfl (q_move rfl rfl) ?_))))
                refine zS rfl (q_len rfl (.k rfl (.nil)) (rdO (by exact .tail _ (.tail _ (.head _))))) ?_
                refine zS rfl (q_lss rfl rfl rfl) (sw_nil (post_then ?_))
                refine cw_cond rfl (fun h8 => ?_) (fun h8 => ?_)
                · have hj' : j < lf.length := by simp at h8; omega
                  have hem := hlf _ (nth_mem hj')
                  have f1 : ∀ p : XR → Bool, (lf.take (j + 1)).filter p = (lf.take j).filter p ++ if p (nth lf j) then [nth lf j] else [] := fun p => by
                    rw [List.take_succ_eq_append_getElem hj', ← nth_get hj', List.filter_append]
                    congr 1
                    by_cases h : p (nth lf j) <;> simp [h]
                  have e1 := f1 H
                  have e2 := f1 fun e => !H e
                  have hwr : Stb w2 bs2 (RdL (nth lf j).w.v (nth lf j).wl) := stb_map hxi fun _ h => (h _ hem).1
                  refine cw_skip (post_then (cw_seq (cw_block (cw_seq ?_))))
                  refine cw_region_q mixed_Tryz (by kernel_rfl) ?_
                  refine zq rfl (q_fieldAddr rfl rfl) ?_
                  refine zq rfl (q_loadC rfl rfl (by exact .tail _ (.tail _ (.tail _ (.head _)))) rfl) ?_
                  refine zq rfl (q_move rfl rfl) (zq rfl (q_move rfl rfl) ?_)
                  refine zq rfl (q_indexN rfl rfl rfl (rdO (by exact .tail _ (.tail _ (.head _)))) (by intro hc; omega)) ?_
                  refine zq rfl (q_loadEl rfl rfl rfl (rdO (by exact .tail _ (.tail _ (.head _)))) (by intro hc; omega)) ?_
                  refine qw_step rfl rfl rfl (q_call (CanCall.mk Tryz.call35) rfl (.k rfl (.k rfl (.nil))) (fun _ w hw => callq hw (holdsR_spec _ x.tl (nth lf j) ⟨(hxo _ hem).at0.1, by have := (hxo _ hem).at0.2; omega⟩ htb w (stb_arg hw hxt) (stb_arg hw hwr)))) ?_
                  refine qw_end (post_then ?_)
                  rw [hHe]
                  refine cw_cond rfl (fun h9 => ?_) (fun h9 => ?_)
                  · rw [if_pos h9] at e1
                    rw [if_neg (by rw [h9]; simp), List.append_nil] at e2
                    refine cw_region (zS rfl (q_move rfl rfl) (zS rfl (q_move rfl rfl) (zS rfl (q_move rfl rfl) ?_)))
                    refine zS rfl (q_indexN rfl rfl rfl (rdO (by exact .tail _ (.tail _ (.head _)))) (by intro hc; omega)) ?_
                    refine zS rfl (q_loadEl rfl rfl rfl (rdO (by exact .tail _ (.tail _ (.head _)))) (by intro hc; omega)) ?_
                    refine sw_x rfl rfl rfl (e_buildL (α := XR) (l := [nth lf j]) rfl (.k rfl (.nil)) rfl rfl rfl rfl) (fun s164 => ?_)
                    refine sw_x rfl rfl rfl (e_append (α := XR) (i := 1) rfl (.k rfl (.k rfl (.nil))) rfl rfl (rdO (by exact .head _)) (by simp; omega) rfl) (fun s165 => ?_)
                    refine zS rfl (q_assign rfl rfl) (sw_nil (post_blk (post_then (cw_region (zS rfl (q_move rfl rfl) ?_)))))
                    refine zS rfl (q_add rfl rfl rfl (by intro hc; omega)) ?_
                    refine zS rfl (q_assign rfl rfl) (sw_nil ?_)
                    exact post_next (j + 1, s165, sb) (by exact .cons rfl (.cons rfl (.cons rfl (.cons rfl (.cons rfl (.cons rfl (.cons rfl (.cons rfl (.cons rfl (.cons rfl (.cons rfl .nil))))))))))) (fun w' h => by simp only; rw [e1, e2]; exact (Cl.sel (by exact .take 1 rfl (.take 1 rfl (.take 1 rfl (.take 1 rfl (.take 1 rfl (.take 1 rfl (.nil _)))))))) _ h) (by simp only; omega) (by simp only; omega)
                  · rw [if_neg (by rw [h9]; simp), List.append_nil] at e1
                    rw [if_pos (by rw [h9]; rfl)] at e2
                    refine cw_region (zS rfl (q_move rfl rfl) (zS rfl (q_move rfl rfl) (zS rfl (q_move rfl rfl) ?_)))
                    refine zS rfl (q_indexN rfl rfl rfl (rdO (by exact .tail _ (.tail _ (.head _)))) (by intro hc; omega)) ?_
                    refine zS rfl (q_loadEl rfl rfl rfl (rdO (by exact .tail _ (.tail _ (.head _)))) (by intro hc; omega)) ?_
                    refine sw_x rfl rfl rfl (e_buildL (α := XR) (l := [nth lf j]) rfl (.k rfl (.nil)) rfl rfl rfl rfl) (fun s171 => ?_)
                    refine sw_x rfl rfl rfl (e_append (α := XR) (i := 2) rfl (.k rfl (.k rfl (.nil))) rfl rfl (rdO (by exact .head _)) (by simp; omega) rfl) (fun s172 => ?_)
                    refine zS rfl (q_assign rfl rfl) (sw_nil (post_blk (post_then (cw_region (zS rfl (q_move rfl rfl) ?_)))))
                    refine zS rfl (q_add rfl rfl rfl (by intro hc; omega)) ?_
                    refine zS rfl (q_assign rfl rfl) (sw_nil ?_)
                    exact post_next (j + 1, sa, s172) (by exact .cons rfl (.cons rfl (.cons rfl (.cons rfl (.cons rfl (.cons rfl (.cons rfl (.cons rfl (.cons rfl (.cons rfl (.cons rfl .nil))))))))))) (fun w' h => by simp only; rw [e1, e2]; exact (Cl.sel (by exact .take 1 rfl (.take 1 rfl (.take 1 rfl (.take 1 rfl (.take 1 rfl (.take 1 rfl (.nil _)))))))) _ h) (by simp only; omega) (by simp only; omega)
                · have hj' : j = lf.length := by simp at h8; omega
                  subst hj'
                  rw [List.take_length] at u1 u2 ⊢
                  have hhm : ∀ e ∈ lf.filter H, e ∈ xs := fun e he => hlf e (List.mem_filter.1 he).1
                  refine cw_exit (post_then_x (post_then_x (post_blk_eq (post_then (cw_seq (cw_region (zS rfl (q_move rfl rfl) (zS rfl (q_fieldAddr rfl rfl) ?_))))))))
                  refine zS rfl (q_loadC rfl rfl (by exact .tail _ (.tail _ (.tail _ (.head _)))) rfl) ?_
                  refine sw_step rfl rfl rfl (q_call (CanCall.mk Tryz.call36) rfl (.k rfl (.k rfl (.nil))) (fun _ w hw => callq hw (with_spec _ _ (lf.filter H) _ (by omega) w (stb_own hw (by exact .head _)) (stb_map (stb_arg hw hxi) fun _ h u hu => h u (hhm u hu)) (stb_arg hw hxp)))) ?_
                  refine zS rfl (q_assign rfl rfl) (sw_nil (post_then (cw_seq (cw_seq (cw_region (zS rfl (q_move rfl rfl) ?_))))))
                  refine zS rfl (q_len rfl (.k rfl (.nil)) (rdO (by exact .head _))) ?_
                  refine zS rfl (q_fieldAddr rfl rfl) ?_
                  refine zS rfl (q_loadC rfl rfl (by exact .tail _ (.tail _ (.tail _ (.tail _ (.tail _ (.head _)))))) rfl) ?_
                  refine zS rfl (q_lss rfl rfl rfl) (zS rfl (q_move rfl rfl) (zS rfl (q_move rfl rfl) (zS rfl (q_lss rfl rfl rfl) (zS rfl (q_or2 rfl rfl rfl) (sw_nil (post_then ?_))))))
                  refine cw_cond rfl (fun h9 => ?_) (fun h9 => ?_)
                  · exfalso
                    simp at h9
                    omega
                  · refine cw_skip (post_then (cw_seq (cw_seq (cw_region (zS rfl (q_assign rfl rfl) (sw_nil (post_then (cw_block ?_))))))))
                    refine cw_loop (S := Nat) (fun j => [(5, [], .pointer (some ⟨b5, 0, none⟩)), (7, [], .pointer (some ⟨b7, 0, none⟩)), (9, [], so.v), (11, [], .int .i64 ((((S.take i).map fun c => (xsC q c).length).sum + own.length : Nat) : Int)), (12, [], .int .i64 i), (15, [], .int .i64 k), (17, [], sa.v), (18, [], sb.v), (20, [], .int .i64 (cnt ((lf.filter H).map XR.x) x.pl)), (21, [], .int .i64 j)]) (fun _ => Cl w2 bs2 [ownL 58 sa.v (lf.filter H), ownL 58 sb.v (lf.filter fun e => !H e), blk b7 [b.b.v] 45, blk b5 (enc o) 40]) (fun j => j ≤ (lf.filter H).length) (fun j => (lf.filter H).length - j) 0 (Nat.zero_le _) (by exact .cons rfl (.cons rfl (.cons rfl (.cons rfl (.cons rfl (.cons rfl (.cons rfl (.cons rfl (.cons rfl (.cons rfl .nil)))))))))) (fun w' h => (Cl.sel (by exact .take 0 rfl (.take 0 rfl (.take 2 rfl (.take 2 rfl (.nil _)))))) _ h) ?_
                    rintro j hj
                    refine cw_seq (cw_seq (cw_region (zS rfl (q_move rfl rfl) (zS rfl (q_move rfl rfl) ?_))))
                    refine zS rfl (q_len rfl (.k rfl (.nil)) (rdO (by exact .head _))) ?_
                    refine zS rfl (q_lss rfl rfl rfl) (sw_nil (post_then ?_))
                    refine cw_cond rfl (fun h10 => ?_) (fun h10 => ?_)
                    · have hj' : j < (lf.filter H).length := by simp at h10; omega
                      have hem := nth_mem hj'
                      have hjp : Stb w2 bs2 (RdL (nth (lf.filter H) j).p.v (nth (lf.filter H) j).pl) := stb_map hxi fun _ h => (h _ (hhm _ hem)).2
                      refine cw_skip (post_then (cw_seq (cw_block (cw_seq (cw_region (zS rfl (q_move rfl rfl) (zS rfl (q_move rfl rfl) (zS rfl (q_move rfl rfl) ?_))))))))
                      refine zS rfl (q_indexN rfl rfl rfl (rdO (by exact .head _)) (by intro hc; omega)) ?_
                      refine zS rfl (q_fieldEl rfl rfl (rdO (by exact .head _)) (by intro hc; omega)) ?_
                      refine zS rfl (q_loadF rfl rfl rfl (rdO (by exact .head _)) (by intro hc; omega) rfl) ?_
                      refine sw_step rfl rfl rfl (q_call (CanCall.mk Tryz.call36) rfl (.k rfl (.k rfl (.nil))) (fun _ w hw => callq hw (with_spec _ _ (lf.filter H) _ (by omega) w (stb_own hw (by exact .head _)) (stb_map (stb_arg hw hxi) fun _ h u hu => h u (hhm u hu)) (stb_arg hw hjp)))) ?_
                      refine zS rfl (q_move rfl rfl) (zS rfl (q_gtr rfl rfl rfl) (sw_nil (post_then ?_)))
                      refine cw_cond rfl (fun h11 => ?_) (fun h11 => ?_)
                      · exfalso
                        have := hmo' _ hem
                        simp at h11
                        omega
                      · refine cw_skip (post_blk (post_then (cw_region (zS rfl (q_move rfl rfl) ?_))))
                        refine zS rfl (q_add rfl rfl rfl (by intro hc; omega)) ?_
                        refine zS rfl (q_assign rfl rfl) (sw_nil ?_)
                        exact post_next (j + 1) (by exact .cons rfl (.cons rfl (.cons rfl (.cons rfl (.cons rfl (.cons rfl (.cons rfl (.cons rfl (.cons rfl (.cons rfl .nil)))))))))) (Cl.sel (by exact .take 0 rfl (.take 0 rfl (.take 0 rfl (.take 0 rfl (.nil _)))))) (by omega) (by omega)
                    · have hj' : j = (lf.filter H).length := by simp at h10; omega
                      refine cw_exit (post_then_x (post_then_x (post_blk_eq (post_then (cw_region (zS rfl (q_move rfl rfl) (zS rfl (q_assign rfl rfl) (sw_nil (post_blk (post_then (cw_region (zS rfl (q_move rfl rfl) ?_))))))))))))
                      refine zS rfl (q_add rfl rfl rfl (by intro hc; omega)) ?_
                      refine zS rfl (q_assign rfl rfl) (sw_nil ?_)
                      refine post_next (k + 1, sb, lf.filter fun e => !H e) (by exact .cons rfl (.cons rfl (.cons rfl (.cons rfl (.cons rfl (.cons rfl (.cons rfl .nil))))))) (Cl.sel (by exact .take 1 rfl (.take 1 rfl (.take 1 rfl (.nil _))))) ⟨by simp only; omega, fun e he => hlf e (List.mem_filter.1 he).1, by simp only; omega, hsn'⟩ (by simp only; omega)
              · have hk' : k = Q.length := by simp [hLe, hrn] at h7; omega
                refine cw_exit (post_then_x (post_then_x (post_blk_eq (post_blk (post_then (cw_region (zS rfl (q_move rfl rfl) ?_)))))))
                refine zS rfl (q_add rfl rfl rfl (by intro hc; omega)) ?_
                refine zS rfl (q_assign rfl rfl) (sw_nil ?_)
                have hst2 : ((S.take (i + 1)).map fun c => (xsC q c).length).sum = ((S.take i).map fun c => (xsC q c).length).sum + own.length := by
                  rw [List.take_succ_eq_append_getElem hiS, List.map_append, List.sum_append, ← nth_get hiS, hc]
                  simp [hxl]
                refine post_next (i + 1) (by exact .cons rfl (.cons rfl (.cons rfl (.cons' rfl (by congr 1; first | omega | (simp only; omega)) (.cons rfl .nil))))) (Cl.sel (by exact .take 1 rfl (.take 1 rfl (.nil _)))) (by omega) (by omega)
        · have hi' : i = b.bl.length := by simp at h4; omega
          subst hi'
          rw [htl, List.take_length, hsum, hql]
          refine cw_exit (post_then_x (post_then_x (post_blk_eq (post_then (cw_seq (cw_region (zS rfl (q_move rfl rfl) (zS rfl (q_move rfl rfl) ?_))))))))
          refine zS rfl (q_len rfl (.k rfl (.nil)) (stA (by assumption))) ?_
          refine zS rfl (q_eql rfl rfl rfl) (zS rfl (q_move rfl rfl) ?_)
          refine sw_step rfl rfl rfl (q_call (CanCall.mk Tryz.call19) rfl (.nil) (fun _ w hw => callq hw (known_spec w (stb_arg hw (by assumption))))) ?_
          refine zS rfl (q_and2 rfl rfl rfl) (zS rfl (q_assign rfl rfl) (sw_nil (post_then (cw_ret (post_ret1 rfl (resOk_tmp rfl) ?_)))))
          exact fun w' hw => ⟨by simp, R.cl (R2.cl ((Cl.sel (by exact .nil _)) _ hw))⟩
end Go.Proofs.YtkmbliojafefdaaGreatDoor

set_option autoImplicit false
namespace Go.Proofs.YtkmbliojafefdaaGreatDoor.letterSupports
open Go.ChangeShapes Go.WideShapes Go.ChangeAt Go.RowKit Go.Sx
theorem own : ownKnob Tryz.prog.godebug = none := by kernel_rfl
theorem laid : laidOutB Tryz.prog = true := by kernel_rfl
theorem rowed : ∀ t ∈ Tryz.f6.params.toList, Tryz.prog.readableRec t = true ∧ t < Tryz.prog.types.size := by
  rw [Tryz.params6]
  intro t ht
  change t ∈ [38, 22, 40] at ht
  simp only [List.mem_cons, List.not_mem_nil, or_false] at ht
  rcases ht with rfl | rfl | rfl <;> exact ⟨by kernel_rfl, of_decide_eq_true (by kernel_rfl)⟩
set_option maxHeartbeats 1000000 in
set_option maxRecDepth 100000 in
theorem lifted (os : Os) (started : os.Started) (H : Type) (enc : TypeId × Value → H) :
    ReturnsInHanded {} Tryz.checked os 6 .any (fun w args => (Rows.letterSupportsSpec.pre enc Tryz.prog Tryz.f6 Rows.letterSupportsRow.domain false w args ∧ laidMetH Tryz.prog Rows.letterSupportsRow.laid w) ∧ sizedMet enc Tryz.prog Tryz.f6 (OpenSpec.ofChange Rows.letterSupportsSpec) false w args)
      (Rows.letterSupportsSpec.post enc Tryz.prog Tryz.f6 false true false false) := by
  refine returnsInHanded_of_change_and (C := Tryz.checked) (X := fun w _ => laidMetH Tryz.prog Rows.letterSupportsRow.laid w) (fun _ _ _ hh h => h.of_heap hh) own started (by kernel_rfl) Tryz.func6
    (ChangeSpec.witness_shaped (enc := enc) (C := Tryz.checked) (os := os) (X := fun w _ => laidMetH Tryz.prog Rows.letterSupportsRow.laid w) false (World.laidAll Tryz.prog os Rows.letterSupportsRow.laid) #[.slice none 0 0, .slice none 0 0, .agg #[.int .i64 0, .int .i64 0, .int .i64 0]] 8 (World.laidAll_os _ _ _)
      (World.shaped_of_ZipB (by kernel_rfl) (by kernel_rfl)) (by kernel_rfl) (by kernel_rfl) (by kernel_rfl)
      (by rw [MakeChecks.laidMetH_plain _ _ _ (by kernel_rfl)]; exact laidMet_laidAll _ (by kernel_rfl) (by kernel_rfl))) ?_
  intro W base args ds gs before hval0 hW hcnd _ hL _
  have hval : ∀ (j : Nat) t v, Tryz.f6.params[j]? = some t → args[j]? = some v → Value.okWide Tryz.prog W .any base t v := hval0
  have hW' := hW
  have hlt := hW.lt
  obtain ⟨p, q, hA0, hV, rfl, hfz, hnd⟩ := hW
  have hA : DataW.TrodAll enc Tryz.prog W 0 (fun _ => true) true Tryz.f6.params.toList args.toList ds p := hA0
  have hkeep := fun (W' : World) (hb : Below W.heap.size W W') (sp : Nat → Bool) (hsp : ∀ x ∈ p, sp x.block = true) => trodAll_keep laid hb sp rowed hA (fun x hx => hlt x (by simp [hx])) hsp
  rw [Tryz.params6] at hA hval
  obtain ⟨v0, vs0, d0, ds0, p0, q0, hargs, rfl, rfl, h0, r0⟩ := trodAll_cons hA
  obtain ⟨v1, vs1, d1, ds1, p1, q1, rfl, rfl, rfl, h1, r1⟩ := trodAll_cons r0
  obtain ⟨v2, vs2, d2, ds2, p2, q2, rfl, rfl, rfl, h2, r2⟩ := trodAll_cons r1
  obtain ⟨rfl, rfl, rfl⟩ := trodAll_nil r2
  obtain rfl : args = #[v0, v1, v2] := by cases args; simp_all
  obtain ⟨rfl, rfl⟩ := trodVars_none hV
  obtain ⟨a0, b0, rfl, k0⟩ := open_deep (hval 0 38 v0 rfl rfl) h0
  obtain ⟨a1, b1, rfl, k1⟩ := open_deep (hval 1 22 v1 rfl rfl) h1
  obtain ⟨a2, b2, rfl, k2⟩ := open_deep (hval 2 40 v2 rfl rfl) h2
  obtain rfl := k2.here
  clear hA0 hval0
  rw [MakeChecks.laidMetH_plain _ _ _ (by kernel_rfl)] at hL
  have hT : Stb W [] Tab := tab_stb (utf8Tabs_of_readsT (U8Types.of196 Tryz.lays196) ⟨by kernel_rfl, by kernel_rfl, by kernel_rfl, by kernel_rfl, by kernel_rfl, by kernel_rfl, by kernel_rfl⟩ (Pinned.utf8First_eq ▸ Lib.laidMet.reads hL (.tail _ (.head _))) (Lib.laidMet.reads hL (.head _)))
  refine (supports_spec a0 a1 b0 b1 a2 (sp_size k0.here) W hT (stb_flat (fun a b w h => h.1) k0) (sp_all k0) (stb_flat (fun a b w h => h.1) k1) (pr_all k1)).mono fun e W' ⟨he, hc⟩ => ?_
  subst he
  have hb := below_of hc
  exact ⟨_, rfl, _, _, _, [], _, [], hW', trodAll_cons_mk (shut_bool Tryz.underlying4 _) trodAll_mk0, hkeep W' hb _ (fun x hx => by simpa using hlt x (by simpa using hx)), rfl, hb.frame _, fun h => by cases h⟩
end Go.Proofs.YtkmbliojafefdaaGreatDoor.letterSupports

set_option autoImplicit false
namespace Go.Proofs.YtkmbliojafefdaaGreatDoor.letterSupports
open Go.Sx
theorem named : Tryz.prog.funcNamed "declaim/declaimlaw03.LetterSupports" = some 6 := by kernel_rfl
theorem inst : Tryz.f6.isInstance Tryz.prog Rows.letterSupportsRow.origin Rows.letterSupportsRow.targs := of_decide_eq_true (by kernel_rfl)
theorem wrap : Tryz.f6.isWrapper Tryz.prog Rows.letterSupportsRow.wrapper Rows.letterSupportsRow.mainSum := by unfold Func.isWrapper; first | (rw [if_pos (by decide +kernel)]; kernel_rfl) | (rw [if_neg (by decide +kernel)]; exact ⟨rfl, rfl⟩)
theorem over : Rows.letterSupportsRow.holds Tryz.pinned (OpenSpec.ofChange Rows.letterSupportsSpec) :=
  OpenClaim.holds_of_wide 6 Tryz.f6 rfl rfl rfl rfl rfl rfl rfl ⟨rfl, rfl, rfl, rfl, rfl⟩ rfl rfl rfl rfl rfl named Tryz.func6 closed inst wrap
    (fun os started H enc _ => lifted os started H enc)
end Go.Proofs.YtkmbliojafefdaaGreatDoor.letterSupports
