import Derived.Test.YtomjbfeafodfbaaGreatWMany2
import Derived.Lib.AppendZerosOnto

set_option autoImplicit false
set_option linter.unusedSimpArgs false
set_option linter.unusedVariables false
set_option maxRecDepth 100000
namespace Go.Proofs.YtomjbfeafodfbaaGreat
open Go.Sx
open Enc (enc val)
structure TKX where
  K : TK
  f : ByteArray → SlV
  ks : List ByteArray
def TKX.F (y : TKX) : List Asn :=
  blk y.K.bk [y.K.sp.v, y.K.tp.v, .int .i64 y.K.x.beside, .int .i64 y.K.x.pitch, .int .i64 y.K.x.length, .int .i64 y.K.x.join, y.K.us.v, .func (.func 105) #[] #[.pointer (some ⟨y.K.b14, 0, none⟩), .pointer (some ⟨y.K.b3, 0, none⟩), .pointer (some ⟨y.K.b4, 0, none⟩), .pointer (some ⟨y.K.b5, 0, none⟩)]] 131 ::
  ownL 28 y.K.us.v y.K.usv :: blk y.K.b14 [.map (some y.K.bm)] 138 :: blk y.K.b5 (enc y.K.x) 25 :: blk y.K.b4 [y.K.tp.v] 23 :: blk y.K.b3 [y.K.sp.v] 22 :: y.ks.map (gA y.f y.K.p y.K.p.length)
structure TKX.Good (y : TKX) (sp tp : SlV) (p : List Un) (tgt : List Wan) (x : Wts) : Prop where
  hsp : y.K.sp = sp
  hp : y.K.p = p
  htp : y.K.tp = tp
  htgt : y.K.tgt = tgt
  hx : y.K.x = x
  husv : y.K.usv = tgt.map fun t => y.f t.phone
  hnil : ∀ c, c ∉ y.ks → y.f c = ⟨none, 0, 0⟩ ∧ idxs p p.length c = []
theorem beginE_ok {p : List Un} {tgt : List Wan} {x : Wts} (h : beginE p tgt x = 0) : p.length ≤ 2000 ∧ tgt.length ≤ 500 ∧ voiceB p = true ∧ tgt.all waB = true ∧ wtB x = true := by
  unfold beginE at h
  split at h
  · cases h
  · split at h
    · rename_i h1 h2
      simp only [Bool.and_eq_true] at h2
      exact ⟨by omega, by omega, h2.1.1, h2.1.2, h2.2⟩
    · cases h
theorem perm_fin {α : Type} {A M U E B : α} {R : List α} : (A :: M :: U :: E :: B :: R).Perm (E :: M :: B :: U :: A :: R) := by
  have h : [A, M, U, E, B].Perm [E, M, B, U, A] :=
    (List.perm_middle (l₁ := [A, M, U]) (a := E) (l₂ := [B])).trans (.cons E ((List.Perm.swap M A [U, B]).trans (.cons M ((List.perm_middle (l₁ := [A, U]) (a := B) (l₂ := [])).trans (.cons B (.swap U A []))))))
  exact h.append_right R
set_option maxHeartbeats 2000000 in
theorem begin_yes (sp tp : SlV) (p : List Un) (tgt : List Wan) (x : Wts) (w : World) (hvo : VoRd w sp p) (htp : Stb w [] (RdL tp.v tgt)) (htg : ∀ t ∈ tgt, WaRd t) (hE : beginE p tgt x = 0) :
    Calls Tryz.prog 64 #[sp.v, tp.v, val x] w fun e w' => ∃ y : TKX, e = .returned (.tuple #[.pointer (some ⟨y.K.bk, 0, none⟩), .int .i64 0]) ∧ y.Good sp tp p tgt x ∧ Cl w [] (mpA y.K.bm ([] : List (P2 × Int)) :: y.F) w' := by
  have hsp := hvo.l
  have hL := rd_len hsp.here
  have hL2 := rd_len htp.here
  obtain ⟨n1, n2, hv1, hv2, hv3⟩ := beginE_ok hE
  refine calls_cw (vs := [_, _, _]) Tryz.func64 rfl Tryz.ntmps64 rfl (Cl.start0 w) (cw_seq (cw_region ?_))
  refine sw_x rfl rfl rfl (e_box rfl rfl rfl) (fun b3 => ?_)
  refine sw_x rfl rfl rfl (e_box rfl rfl rfl) (fun b4 => ?_)
  refine sw_x rfl rfl rfl (e_box rfl rfl rfl) (fun b5 => ?_)
  refine sr rfl rfl rfl ((q_assign rfl rfl)) (sr rfl rfl rfl ((q_assign rfl rfl)) (sw_nil (post_then (cw_seq (cw_seq (cw_region ?_))))))
  refine sr rfl rfl rfl ((q_loadC rfl rfl (by exact .tail _ (.tail _ (.head _))) rfl)) ?_
  refine sr rfl rfl rfl ((q_len rfl (.cons rfl inferInstance (.nil)) (by exact fun w hw => Stb.cl (by assumption) hw))) ?_
  refine sr rfl rfl rfl ((q_gtr rfl rfl rfl)) (sr rfl rfl rfl ((q_move rfl rfl)) ?_)
  refine sr rfl rfl rfl ((q_loadC rfl rfl (by exact .tail _ (.head _)) rfl)) ?_
  refine sr rfl rfl rfl ((q_len rfl (.cons rfl inferInstance (.nil)) (by exact fun w hw => Stb.cl (by assumption) hw))) ?_
  refine sr rfl rfl rfl ((q_gtr rfl rfl rfl)) (sr rfl rfl rfl ((q_or2 rfl rfl rfl)) (sw_nil (post_then ?_)))
  refine cw_cond rfl (fun h => ?_) (fun h => ?_)
  · skip
    exfalso
    simp only [Bool.or_eq_true, decide_eq_true_eq] at h; omega
  · skip
    refine cw_skip (post_then (cw_seq (cw_seq (cw_region ?_))))
    refine sr rfl rfl rfl ((q_loadC rfl rfl (by exact .tail _ (.tail _ (.head _))) rfl)) ?_
    refine sw_step rfl rfl rfl (q_call (CanCall.mk Tryz.call86) rfl (.cons rfl inferInstance (.nil)) (fun _ w hw => callq hw (voice_spec sp p w (hvo.arg hw)))) (sr rfl rfl rfl ((q_neq rfl rfl rfl)) (sr rfl rfl rfl ((q_move rfl rfl)) ?_))
    refine sr rfl rfl rfl ((q_loadC rfl rfl (by exact .tail _ (.head _)) rfl)) ?_
    refine sw_step rfl rfl rfl (q_call (CanCall.mk Tryz.call103) rfl (.cons rfl inferInstance (.cons rfl inferInstance (.nil))) (fun _ w hw => callq hw (containsWan_spec _ _ _ _ _ _ w (by exact stb_arg hw (by assumption)) (stb_true w []) (CanCall.mk Tryz.call104) (wa1_spec tgt htg)))) ?_
    refine sr rfl rfl rfl ((q_or2 rfl rfl rfl)) (sr rfl rfl rfl ((q_move rfl rfl)) ?_)
    refine sr rfl rfl rfl ((q_loadA rfl rfl (by exact .head _) rfl)) ?_
    refine sw_step rfl rfl rfl (q_call (CanCall.mk Tryz.call89) rfl (.cons rfl inferInstance (.nil)) (fun _ w hw => callq hw (weights_spec _ w))) (sr rfl rfl rfl ((q_not rfl rfl)) (sr rfl rfl rfl ((q_or2 rfl rfl rfl)) (sw_nil (post_then ?_))))
    refine cw_cond rfl (fun h2 => ?_) (fun h2 => ?_)
    · skip
      exfalso
      have e1 : voiceE p = 0 := by rw [voiceE, if_neg (by omega), hv1]; rfl
      have e2 : (tgt.any fun t => !waB t) = false := by rw [← List.not_all_eq_any_not, hv2]; rfl
      simp [e1, e2, hv3] at h2
    · skip
      clear h h2
      refine cw_skip (post_then (cw_seq (cw_region ?_)))
      refine sr rfl rfl rfl ((q_loadC rfl rfl (by exact .tail _ (.tail _ (.head _))) rfl)) ?_
      refine sr rfl rfl rfl ((q_loadC rfl rfl (by exact .tail _ (.head _)) rfl)) ?_
      refine sr rfl rfl rfl ((q_loadA rfl rfl (by exact .head _) rfl)) ?_
      refine sr rfl rfl rfl ((q_build rfl (.cons rfl inferInstance (.cons rfl inferInstance (.cons rfl inferInstance (.nil)))) rfl)) ?_
      refine sw_x rfl rfl rfl (e_box rfl rfl rfl) (fun b39 => ?_)
      refine sr rfl rfl rfl ((q_assign rfl rfl)) (sw_nil (post_then (cw_seq (cw_region ?_))))
      refine sw_x rfl rfl rfl (e_makeMap (κ := ByteArray) (ν := SlV) rfl) (fun b40 => ?_)
      refine sr rfl rfl rfl ((q_assign rfl rfl)) (sw_nil (post_then (cw_seq (cw_seq (cw_region ?_)))))
      refine sr rfl rfl rfl ((q_loadC rfl rfl (by exact .tail _ (.tail _ (.tail _ (.tail _ (.head _))))) rfl)) ?_
      refine sr rfl rfl rfl ((q_len rfl (.cons rfl inferInstance (.nil)) (by exact fun w hw => Stb.cl (by assumption) hw))) ?_
      refine sr rfl rfl rfl ((q_move rfl rfl)) (sw_nil (post_then (cw_block ?_)))
      refine cw_loop (S := Nat × ((ByteArray → SlV) × (List ByteArray × List (ByteArray × SlV)))) (fun y => [(3, [], .pointer (some ⟨b3, 0, none⟩)), (4, [], .pointer (some ⟨b4, 0, none⟩)), (5, [], .pointer (some ⟨b5, 0, none⟩)), (8, [], .pointer (some ⟨b39, 0, none⟩)), (9, [], .map (some b40)), (41, [], sp.v), (42, [], .int .i64 p.length), (43, [], .int .i64 y.1)])
        (fun y => Cl w [] ([mpA b40 y.2.2.2, blk b39 [sp.v, tp.v, .int .i64 x.beside, .int .i64 x.pitch, .int .i64 x.length, .int .i64 x.join, .slice none 0 0, .nilFunc] 131, blk b5 (enc x) 25, blk b4 [tp.v] 23, blk b3 [sp.v] 22] ++ y.2.2.1.map (gA y.2.1 p y.1)))
        (fun y => y.1 ≤ p.length ∧ (∀ c, getZ (⟨none, 0, 0⟩ : SlV) y.2.2.2 c = y.2.1 c) ∧ y.2.2.1.Nodup ∧ ∀ c, c ∉ y.2.2.1 → y.2.1 c = ⟨none, 0, 0⟩ ∧ idxs p y.1 c = []) (fun y => p.length - y.1) (0, (fun _ => ⟨none, 0, 0⟩, ([], []))) ⟨Nat.zero_le _, fun c => rfl, List.nodup_nil, fun c _ => ⟨rfl, rfl⟩⟩ ?_ ?_ ?_
      · exact Le.cons rfl (Le.cons rfl (Le.cons rfl (Le.cons rfl (Le.cons rfl (Le.cons rfl (Le.cons rfl (Le.cons rfl Le.nil)))))))
      · intro w' h; exact h
      rintro ⟨k, ⟨f, ⟨ks, E⟩⟩⟩ ⟨hk, hE', hnd, hnil⟩
      dsimp only at hk hE' hnd hnil ⊢
      refine cw_seq (cw_region (sr rfl rfl rfl ((q_lss rfl rfl rfl)) (sw_nil (post_then (cw_seq ?_)))))
      refine cw_cond rfl (fun h => ?_) (fun h => ?_)
      · skip
        have hk' : k < p.length := by simp only [decide_eq_true_eq] at h; omega
        obtain ⟨ks', hnd', hna, hsub, hmv⟩ := key_out (f := f) (p := p) (k := k) (nth p k).phone hnd hnil
        have hil := idxs_len p k (nth p k).phone
        refine cw_c (fun w' hw => hmv hw) (cw_skip (post_then (cw_seq (cw_block (cw_seq (cw_region (sr rfl rfl rfl ((q_move rfl rfl)) ?_)))))))
        refine sr rfl rfl rfl ((q_indexN rfl rfl rfl (by exact fun w hw => Stb.cl (by assumption) hw) (by intro hc; omega))) ?_
        refine sr rfl rfl rfl ((q_loadEl rfl rfl rfl (by exact fun w hw => Stb.cl (by assumption) hw) (by intro hc; omega))) ?_
        refine sw_x rfl rfl rfl (e_alloc rfl) (fun b11 => ?_)
        refine sr rfl rfl rfl ((q_assign rfl rfl)) (sw_eff0 rfl rfl (e_store (i := 0) rfl rfl rfl rfl rfl rfl rfl rfl) (sw_nil (post_then (cw_region_a (Cl w [] [blk b11 (enc (nth p k)) 49, mpA b40 E]) [10] mixed_Tryz ?_))))
        refine aw_pure 0 rfl (by kernel_rfl) (by kernel_rfl) (by kernel_rfl) (by kernel_rfl) (by kernel_rfl) rfl rfl rfl (q_move rfl rfl) ?_
        refine aw_take 1 (fun w h => Cl.sel (by exact .take 0 rfl (.take 1 rfl (.nil _))) w h) rfl (by kernel_rfl) (by kernel_rfl) (by kernel_rfl) (by kernel_rfl) (by kernel_rfl) (by kernel_rfl) rfl rfl rfl (q_fieldAddr rfl rfl) ?_
        refine aw_take 2 (fun w h => Cl.sel (by exact .take 0 rfl (.take 1 rfl (.nil _))) w h) rfl (by kernel_rfl) (by kernel_rfl) (by kernel_rfl) (by kernel_rfl) (by kernel_rfl) (by kernel_rfl) rfl rfl rfl (q_loadC rfl rfl (by exact .head _) rfl) ?_
        refine aw_pure 3 rfl (by kernel_rfl) (by kernel_rfl) (by kernel_rfl) (by kernel_rfl) (by kernel_rfl) rfl rfl rfl (q_move rfl rfl) ?_
        refine aw_take 4 (fun w h => Cl.sel (by exact .take 0 rfl (.take 1 rfl (.nil _))) w h) rfl (by kernel_rfl) (by kernel_rfl) (by kernel_rfl) (by kernel_rfl) (by kernel_rfl) (by kernel_rfl) rfl rfl rfl (q_fieldAddr rfl rfl) ?_
        refine aw_take 5 (fun w h => Cl.sel (by exact .take 0 rfl (.take 1 rfl (.nil _))) w h) rfl (by kernel_rfl) (by kernel_rfl) (by kernel_rfl) (by kernel_rfl) (by kernel_rfl) (by kernel_rfl) rfl rfl rfl (q_loadC rfl rfl (by exact .head _) rfl) ?_
        refine aw_pure 7 rfl (by kernel_rfl) (by kernel_rfl) (by kernel_rfl) (by kernel_rfl) (by kernel_rfl) rfl rfl rfl (q_move rfl rfl) ?_
        refine aw_take 6 (fun w h => Cl.sel (by exact .take 0 rfl (.take 1 rfl (.nil _))) w h) rfl (by kernel_rfl) (by kernel_rfl) (by kernel_rfl) (by kernel_rfl) (by kernel_rfl) (by kernel_rfl) rfl rfl rfl (q_lookup (k := (nth p k).phone) (z := (⟨none, 0, 0⟩ : SlV)) (l := E) rfl rfl rfl (fun w h => rdm_own h (by exact .tail _ (.head _)))) ?_
        rw [hE']
        refine aw_x 8 (by kernel_rfl) rfl rfl rfl rfl (e_build1 (α := Int) rfl rfl rfl rfl) (by intro hb; exact fun _ => (fun w h => Cl.sel (by exact .take 1 rfl (.take 2 rfl (.nil _))) w h)) (fun s56 => ?_)
        refine aw_x 9 (by kernel_rfl) rfl rfl rfl rfl (e_append (i := 2) rfl (.cons rfl inferInstance (.cons rfl inferInstance (.nil))) rfl rfl (by exact fun w hw => rd_own hw (by exact .head _)) (by simp only [List.length_set, List.length_append, List.length_cons, List.length_nil, List.length_replicate, List.length_take, List.length_drop, List.length_map]; omega) rfl) (by intro hb; exact fun _ => (fun w h => Cl.sel (by exact .take 1 rfl (.take 2 rfl (.nil _))) w h)) (fun s57 => ?_)
        refine aw_one0 10 (by kernel_rfl) rfl rfl rfl (e_mapUpdate (κ := ByteArray) (ν := SlV) (i := 3) (.inl rfl) rfl rfl rfl rfl) (by intro hb; (exact absurd hb (by decide))) ?_
        refine aw_end (by kernel_rfl) ?_
        refine post_blk (post_then (cw_region ?_))
        refine sr rfl rfl rfl ((q_add rfl rfl rfl (by intro hc; omega))) ?_
        refine sr rfl rfl rfl ((q_move rfl rfl)) (sw_nil ?_)
        have hz : idxs p (k + 1) (nth p k).phone = idxs p k (nth p k).phone ++ [(k : Int)] := by rw [idxs_succ, if_pos rfl]
        refine post_next (k + 1, (fun c => if c = (nth p k).phone then s57 else f c, ((nth p k).phone :: ks', upd E (nth p k).phone s57))) ?_ ?_ ⟨by simp only; omega, fun c => ?_, ?_, fun c hc => ?_⟩ (by simp only; omega)
        · exact (by exact .cons rfl (.cons rfl (.cons rfl (.cons rfl (.cons rfl (.cons rfl (.cons rfl (.cons rfl .nil))))))))
        · intro w3 hw3
          have hmap : ks'.map (gA (fun c => if c = (nth p k).phone then s57 else f c) p (k + 1)) = ks'.map (gA f p k) := List.map_congr_left fun c hc => by
            have hne : ¬ c = (nth p k).phone := fun e => hna (e ▸ hc)
            have hne2 : ¬ (nth p k).phone = c := fun e => hne e.symm
            simp only [gA, hne, if_false, idxs_succ, hne2, List.append_nil]
          simp only [List.map_cons, hmap]
          have h1 : Cl w [] (ownL 3 s56.v [(k : Int)] :: blk b11 _ 49 :: ownL 3 s57.v (idxs p k (nth p k).phone ++ [(k : Int)]) :: mpA b40 (upd E (nth p k).phone s57) :: blk b39 [sp.v, tp.v, .int .i64 x.beside, .int .i64 x.pitch, .int .i64 x.length, .int .i64 x.join, .slice none 0 0, .nilFunc] 131 :: blk b5 (enc x) 25 :: blk b4 [tp.v] 23 :: blk b3 [sp.v] 22 :: ks'.map (gA f p k)) w3 := hw3
          rw [← hz] at h1
          have h2 := h1.tail.tail.perm (List.perm_middle (l₁ := [mpA b40 (upd E (nth p k).phone s57), blk b39 [sp.v, tp.v, .int .i64 x.beside, .int .i64 x.pitch, .int .i64 x.length, .int .i64 x.join, .slice none 0 0, .nilFunc] 131, blk b5 (enc x) 25, blk b4 [tp.v] 23, blk b3 [sp.v] 22]) (l₂ := ks'.map (gA f p k)) (a := ownL 3 s57.v (idxs p (k + 1) (nth p k).phone))).symm
          simp only [gA, if_true]
          exact h2
        · simp only [getZ_upd]
          by_cases e : c = (nth p k).phone
          · rw [if_pos e, if_pos e]
          · rw [if_neg e, if_neg e]; exact hE' c
        · exact List.nodup_cons.2 ⟨hna, hnd'⟩
        · simp only [List.mem_cons, not_or] at hc
          have hcn : c ∉ ks := fun h => by
            rcases hsub c h with h1 | h1
            · exact hc.1 h1
            · exact hc.2 h1
          have h1 := hnil c hcn
          have hne2 : ¬ (nth p k).phone = c := fun e => hc.1 e.symm
          simp only [hc.1, if_false, idxs_succ, hne2, List.append_nil]
          exact h1
      · skip
        have hk' : k = p.length := by simp only [decide_eq_false_iff_not] at h; omega
        subst hk'
        refine cw_c (C' := Cl w [] (ownL 28 (SlV.v ⟨none, 0, 0⟩) ([] : List SlV) :: mpA b40 E :: blk b39 [sp.v, tp.v, .int .i64 x.beside, .int .i64 x.pitch, .int .i64 x.length, .int .i64 x.join, .slice none 0 0, .nilFunc] 131 :: blk b5 (enc x) 25 :: blk b4 [tp.v] 23 :: blk b3 [sp.v] 22 :: ks.map (gA f p p.length))) (fun w' hw => hw.addNil (α := SlV) 28) (cw_exit (post_then_x (post_then_x (post_blk_eq (post_then (cw_seq (cw_seq (cw_region ?_))))))))
        refine sr rfl rfl rfl ((q_loadC rfl rfl (by exact .tail _ (.tail _ (.tail _ (.tail _ (.head _))))) rfl)) ?_
        refine sr rfl rfl rfl ((q_len rfl (.cons rfl inferInstance (.nil)) (by exact fun w hw => Stb.cl (by assumption) hw))) ?_
        refine sr rfl rfl rfl ((q_move rfl rfl)) (sw_nil (post_then (cw_block ?_)))
        refine cw_loop (S := Nat × SlV) (fun y => [(3, [], .pointer (some ⟨b3, 0, none⟩)), (4, [], .pointer (some ⟨b4, 0, none⟩)), (5, [], .pointer (some ⟨b5, 0, none⟩)), (8, [], .pointer (some ⟨b39, 0, none⟩)), (9, [], .map (some b40)), (59, [], tp.v), (60, [], .int .i64 tgt.length), (61, [], .int .i64 y.1)])
          (fun y => Cl w [] (ownL 28 y.2.v ((tgt.take y.1).map fun t => f t.phone) :: mpA b40 E :: blk b39 [sp.v, tp.v, .int .i64 x.beside, .int .i64 x.pitch, .int .i64 x.length, .int .i64 x.join, y.2.v, .nilFunc] 131 :: blk b5 (enc x) 25 :: blk b4 [tp.v] 23 :: blk b3 [sp.v] 22 :: ks.map (gA f p p.length)))
          (fun y => y.1 ≤ tgt.length) (fun y => tgt.length - y.1) (0, ⟨none, 0, 0⟩) (Nat.zero_le _) ?_ ?_ ?_
        · exact Le.cons rfl (Le.cons rfl (Le.cons rfl (Le.cons rfl (Le.cons rfl (Le.cons rfl (Le.cons rfl (Le.cons rfl Le.nil)))))))
        · intro w' h; exact h
        rintro ⟨i, us⟩ hi
        dsimp only at hi ⊢
        have hul : ((tgt.take i).map fun t => f t.phone).length = i := by simp; omega
        refine cw_seq (cw_region (sr rfl rfl rfl ((q_lss rfl rfl rfl)) (sw_nil (post_then (cw_seq ?_)))))
        refine cw_cond rfl (fun h => ?_) (fun h => ?_)
        · skip
          have hi' : i < tgt.length := by simp only [decide_eq_true_eq] at h; omega
          refine cw_skip (post_then (cw_seq (cw_block (cw_seq (cw_region ?_)))))
          refine sr rfl rfl rfl ((q_indexN rfl rfl rfl (by exact fun w hw => Stb.cl (by assumption) hw) (by intro hc; omega))) ?_
          refine sr rfl rfl rfl ((q_loadEl rfl rfl rfl (by exact fun w hw => Stb.cl (by assumption) hw) (by intro hc; omega))) ?_
          refine sw_x rfl rfl rfl (e_alloc rfl) (fun b13 => ?_)
          refine sw_eff0 rfl rfl (e_store (i := 0) rfl rfl rfl rfl rfl rfl rfl rfl) (sw_nil (post_then (cw_region_a (Cl w [] [blk b13 (enc (nth tgt i)) 51, mpA b40 E, blk b39 [sp.v, tp.v, .int .i64 x.beside, .int .i64 x.pitch, .int .i64 x.length, .int .i64 x.join, us.v, .nilFunc] 131]) [13] mixed_Tryz ?_)))
          refine aw_pure 0 rfl (by kernel_rfl) (by kernel_rfl) (by kernel_rfl) (by kernel_rfl) (by kernel_rfl) rfl rfl rfl (q_move rfl rfl) ?_
          refine aw_pure 1 rfl (by kernel_rfl) (by kernel_rfl) (by kernel_rfl) (by kernel_rfl) (by kernel_rfl) rfl rfl rfl (q_move rfl rfl) ?_
          refine aw_pure 2 rfl (by kernel_rfl) (by kernel_rfl) (by kernel_rfl) (by kernel_rfl) (by kernel_rfl) rfl rfl rfl (q_nilCheck rfl rfl) ?_
          refine aw_take 3 (fun w h => Cl.sel (by exact .take 0 rfl (.take 1 rfl (.take 1 rfl (.nil _)))) w h) rfl (by kernel_rfl) (by kernel_rfl) (by kernel_rfl) (by kernel_rfl) (by kernel_rfl) (by kernel_rfl) rfl rfl rfl (q_fieldAddr rfl rfl) ?_
          refine aw_take 4 (fun w h => Cl.sel (by exact .take 0 rfl (.take 1 rfl (.take 1 rfl (.nil _)))) w h) rfl (by kernel_rfl) (by kernel_rfl) (by kernel_rfl) (by kernel_rfl) (by kernel_rfl) (by kernel_rfl) rfl rfl rfl (q_loadC rfl rfl (by exact .tail _ (.tail _ (.head _))) rfl) ?_
          refine aw_pure 5 rfl (by kernel_rfl) (by kernel_rfl) (by kernel_rfl) (by kernel_rfl) (by kernel_rfl) rfl rfl rfl (q_move rfl rfl) ?_
          refine aw_take 6 (fun w h => Cl.sel (by exact .take 0 rfl (.take 1 rfl (.take 1 rfl (.nil _)))) w h) rfl (by kernel_rfl) (by kernel_rfl) (by kernel_rfl) (by kernel_rfl) (by kernel_rfl) (by kernel_rfl) rfl rfl rfl (q_fieldAddr rfl rfl) ?_
          refine aw_take 7 (fun w h => Cl.sel (by exact .take 0 rfl (.take 1 rfl (.take 1 rfl (.nil _)))) w h) rfl (by kernel_rfl) (by kernel_rfl) (by kernel_rfl) (by kernel_rfl) (by kernel_rfl) (by kernel_rfl) rfl rfl rfl (q_loadC rfl rfl (by exact .head _) rfl) ?_
          refine aw_take 8 (fun w h => Cl.sel (by exact .take 0 rfl (.take 1 rfl (.take 1 rfl (.nil _)))) w h) rfl (by kernel_rfl) (by kernel_rfl) (by kernel_rfl) (by kernel_rfl) (by kernel_rfl) (by kernel_rfl) rfl rfl rfl (q_lookup (k := (nth tgt i).phone) (z := (⟨none, 0, 0⟩ : SlV)) (l := E) rfl rfl rfl (fun w h => rdm_own h (by exact .tail _ (.head _)))) ?_
          rw [hE']
          refine aw_x 9 (by kernel_rfl) rfl rfl rfl rfl (e_build1 (α := SlV) rfl rfl rfl rfl) (by intro hb; exact fun _ => (fun w h => Cl.sel (by exact .take 1 rfl (.take 2 rfl (.take 2 rfl (.nil _)))) w h)) (fun s74 => ?_)
          refine aw_x 10 (by kernel_rfl) rfl rfl rfl rfl (e_append (i := 2) rfl (.cons rfl inferInstance (.cons rfl inferInstance (.nil))) rfl rfl (by exact fun w hw => rd_own hw (by exact .head _)) (by simp only [List.length_set, List.length_append, List.length_cons, List.length_nil, List.length_replicate, List.length_take, List.length_drop, List.length_map]; omega) rfl) (by intro hb; exact fun _ => (fun w h => Cl.sel (by exact .take 1 rfl (.take 2 rfl (.take 2 rfl (.nil _)))) w h)) (fun s75 => ?_)
          refine aw_pure 11 rfl (by kernel_rfl) (by kernel_rfl) (by kernel_rfl) (by kernel_rfl) (by kernel_rfl) rfl rfl rfl (q_nilCheck rfl rfl) ?_
          refine aw_take 12 (fun w h => Cl.sel (by exact .take 1 rfl (.take 2 rfl (.take 2 rfl (.nil _)))) w h) rfl (by kernel_rfl) (by kernel_rfl) (by kernel_rfl) (by kernel_rfl) (by kernel_rfl) (by kernel_rfl) rfl rfl rfl (q_fieldAddr rfl rfl) ?_
          refine aw_one0 13 (by kernel_rfl) rfl rfl rfl (e_store (i := 4) rfl rfl rfl rfl rfl rfl rfl rfl) (by intro hb; (exact absurd hb (by decide))) ?_
          refine aw_end (by kernel_rfl) ?_
          refine post_blk (post_then (cw_region ?_))
          refine sr rfl rfl rfl ((q_add rfl rfl rfl (by intro hc; omega))) ?_
          refine sr rfl rfl rfl ((q_move rfl rfl)) (sw_nil ?_)
          have hul2 : (tgt.take (i + 1)).map (fun t => f t.phone) = ((tgt.take i).map fun t => f t.phone) ++ [f (nth tgt i).phone] := by
            rw [List.take_succ_eq_append_getElem hi', List.map_append, nth_get hi']; rfl
          refine post_next (i + 1, s75) ?_ ?_ (by simp only; omega) (by simp only; omega)
          · exact (by exact .cons rfl (.cons rfl (.cons rfl (.cons rfl (.cons rfl (.cons rfl (.cons rfl (.cons rfl .nil))))))))
          · intro w3 hw3
            have h1 : Cl w [] (ownL 28 s74.v [f (nth tgt i).phone] :: blk b13 _ 51 :: ownL 28 s75.v (((tgt.take i).map fun t => f t.phone) ++ [f (nth tgt i).phone]) :: mpA b40 E :: blk b39 [sp.v, tp.v, .int .i64 x.beside, .int .i64 x.pitch, .int .i64 x.length, .int .i64 x.join, s75.v, .nilFunc] 131 :: blk b5 (enc x) 25 :: blk b4 [tp.v] 23 :: blk b3 [sp.v] 22 :: ks.map (gA f p p.length)) w3 := hw3
            rw [hul2]
            exact h1.tail.tail
        · skip
          have hi' : i = tgt.length := by simp only [decide_eq_false_iff_not] at h; omega
          subst hi'
          refine cw_exit (post_then_x (post_then_x (post_blk_eq (post_then (cw_seq (cw_region ?_))))))
          refine sw_x rfl rfl rfl (e_makeMap (κ := P2) (ν := Int) rfl) (fun b79 => ?_)
          refine sw_x rfl rfl rfl (e_alloc rfl) (fun b14 => ?_)
          refine sw_eff0 rfl rfl (e_store (i := 0) rfl rfl rfl rfl rfl rfl rfl rfl) (sw_nil (post_then (cw_seq (cw_region (sr rfl rfl rfl ((q_move rfl rfl)) (sr rfl rfl rfl ((q_func_l rfl (.cons rfl inferInstance (.cons rfl inferInstance (.cons rfl inferInstance (.cons rfl inferInstance (.nil))))))) (sr rfl rfl rfl ((q_nilCheck rfl rfl)) (sr rfl rfl rfl ((q_fieldAddr rfl rfl)) (sw_eff0 rfl rfl (e_store (i := 4) rfl rfl rfl rfl rfl rfl rfl rfl) (sw_nil (post_then (cw_seq (cw_region (sr rfl rfl rfl ((q_move rfl rfl)) (sr rfl rfl rfl ((q_assign rfl rfl)) (sr rfl rfl rfl ((q_assign rfl rfl)) (sw_nil (post_then (cw_ret (post_ret2 rfl (resOk_tmp rfl) (resOk_tmp rfl) ?_))))))))))))))))))))
          refine fun w' hw => ⟨⟨⟨sp, p, tp, tgt, x, us, tgt.map fun t => f t.phone, b39, b3, b4, b5, b14, b79⟩, f, ks⟩, rfl, ⟨rfl, rfl, rfl, rfl, rfl, rfl, hnil⟩, ?_⟩
          rw [List.take_length] at hw
          have h1 : Cl w [] (blk b14 [.map (some b79)] 138 :: mpA b79 ([] : List (P2 × Int)) :: ownL 28 us.v (tgt.map fun t => f t.phone) :: mpA b40 E :: blk b39 [sp.v, tp.v, .int .i64 x.beside, .int .i64 x.pitch, .int .i64 x.length, .int .i64 x.join, us.v, .func (.func 105) #[] #[.pointer (some ⟨b14, 0, none⟩), .pointer (some ⟨b3, 0, none⟩), .pointer (some ⟨b4, 0, none⟩), .pointer (some ⟨b5, 0, none⟩)]] 131 :: blk b5 (enc x) 25 :: blk b4 [tp.v] 23 :: blk b3 [sp.v] 22 :: ks.map (gA f p p.length)) w' := hw
          exact (h1.perm perm_fin).tail
end Go.Proofs.YtomjbfeafodfbaaGreat

set_option autoImplicit false
set_option maxRecDepth 100000
namespace Go.Proofs.YtomjbfeafodfbaaGreat
open Go.Sx
open Enc (enc val)
theorem tkx_rd {y : TKX} {sp tp : SlV} {p : List Un} {tgt : List Wan} {x : Wts} (g : y.Good sp tp p tgt x) {w : World} {bs : List Nat} {F : List Asn} (h5 : ∀ G ∈ F, ∃ b2, Stb w bs fun w' => G.holds w' b2) (hF : ∀ A ∈ y.F, A ∈ F)
    (hvo : Stb w bs (fun w' => VoRd w' sp p)) (htp : Stb w bs (RdL tp.v tgt)) : Stb w bs y.K.Rd := by
  obtain ⟨⟨sp', p', tp', tgt', x', us, usv, bk, b3, b4, b5, b14, bm⟩, f, ks⟩ := y
  obtain ⟨e1, e2, e3, e4, e5, e6, hnil⟩ := g
  dsimp only at e1 e2 e3 e4 e5 e6 hnil
  subst e1 e2 e3 e4 e5
  have f1 := lend_blk h5 (hF _ (.head _))
  have f2 := lend_own h5 (hF _ (.tail _ (.head _)))
  have f3 := lend_blk h5 (hF _ (.tail _ (.tail _ (.head _))))
  have f4 := lend_blk h5 (hF _ (.tail _ (.tail _ (.tail _ (.head _)))))
  have f5 := lend_blk h5 (hF _ (.tail _ (.tail _ (.tail _ (.tail _ (.head _))))))
  have f6 := lend_blk h5 (hF _ (.tail _ (.tail _ (.tail _ (.tail _ (.tail _ (.head _)))))))
  have f7 : ∀ c ∈ ks, Stb w bs (RdL (f c).v (idxs p' p'.length c)) := fun c hc => lend_own (e := 3) h5 (hF _ (.tail _ (.tail _ (.tail _ (.tail _ (.tail _ (.tail _ (List.mem_map_of_mem (f := gA f p' p'.length) hc))))))))
  refine ⟨fun w' k => ⟨f1.stb w' k, f3.stb w' k, f6.stb w' k, f5.stb w' k, f4.stb w' k, f2.stb w' k, ?_, fun i hi => ?_, htp.stb w' k, hvo.stb w' k⟩⟩
  · rw [e6]; simp
  · dsimp only at hi ⊢
    have e : nth usv i = f (nth tgt' i).phone := by
      rw [e6, nth_get (by simpa using hi), nth_get hi]; simp
    rw [e]
    by_cases hc : (nth tgt' i).phone ∈ ks
    · exact (f7 _ hc).stb w' k
    · have h1 := hnil _ hc
      have e2 : TK.U ⟨sp', p', tp', tgt', x', us, usv, bk, b3, b4, b5, b14, bm⟩ i = [] := h1.2
      rw [h1.1, e2]
      exact ⟨none, 0, 0, rfl, rfl, Nat.le_refl _, by simp [maxLen], fun i x j v hx => by simp at hx⟩
def tsk (p : List Un) (tgt : List Wan) (x : Wts) : Tsk := ⟨tgt.length, fun i => idxs p p.length (nth tgt i).phone, fun i u => fitC x (nth p u.toNat) (nth tgt i), fun u v => joinC x (nth p u.toNat) (nth p v.toNat)⟩
def possP (p : List Un) (tgt : List Wan) : Bool := (List.range tgt.length).all fun i => decide (idxs p p.length (nth tgt i).phone ≠ [])
def TabP (p : List Un) (tgt : List Wan) (x : Wts) (cells : List Int) : Prop := cells.length = tgt.length * p.length ∧ ∀ j u, j < tgt.length → u < p.length → nth cells (j * p.length + u) = if (u : Int) ∈ idxs p p.length (nth tgt j).phone then (tsk p tgt x).R (tgt.length - j) u else 0
theorem good_facts {y : TKX} {sp tp : SlV} {p : List Un} {tgt : List Wan} {x : Wts} (g : y.Good sp tp p tgt x) (hE : beginE p tgt x = 0) : y.K.Ok ∧ y.K.possB = possP p tgt ∧ y.K.t = tsk p tgt x ∧ y.K.p = p ∧ y.K.tgt = tgt ∧ ∀ cells, y.K.Tab cells 0 → TabP p tgt x cells := by
  obtain ⟨⟨sp', p', tp', tgt', x', us, usv, bk, b3, b4, b5, b14, bm⟩, f, ks⟩ := y
  obtain ⟨e1, e2, e3, e4, e5, e6, hnil⟩ := g
  dsimp only at e1 e2 e3 e4 e5 e6 hnil
  subst e1 e2 e3 e4 e5
  obtain ⟨h1, h2, h3, h4, h5⟩ := beginE_ok hE
  refine ⟨⟨h3, fun t ht => List.all_eq_true.1 h4 t ht, h5, h1, h2⟩, rfl, rfl, rfl, rfl, fun cells hc => ⟨hc.1, fun j u hj hu => ?_⟩⟩
  rw [hc.2 j u hj hu]
  simp only [Nat.zero_le, true_and]
  rfl
/-- The best sequence: no other costs less, or as much and comes first. -/
def BestSeq (t : Tsk) (s : List Int) (c : Int) : Prop := s ∈ t.tl t.T ∧ c = t.tc 0 s ∧ ∀ s' ∈ t.tl t.T, s' = s ∨ seqLt (s, c) (s', t.tc 0 s')
theorem tl_ne {t : Tsk} (h : ∀ i, i < t.T → t.us i ≠ []) : ∀ k, k ≤ t.T → t.tl k ≠ []
  | 0, _ => by simp [Tsk.tl]
  | k + 1, hk => by
    obtain ⟨u, us, e⟩ := List.exists_cons_of_ne_nil (h (t.T - (k + 1)) (by omega))
    obtain ⟨s, ss, e2⟩ := List.exists_cons_of_ne_nil (tl_ne h k (by omega))
    rw [Tsk.tl, e, e2]
    simp
theorem choose_bad (sp tp : SlV) (p : List Un) (tgt : List Wan) (x : Wts) (w : World) (hvo : VoRd w sp p) (htp : Stb w [] (RdL tp.v tgt)) (htg : ∀ t ∈ tgt, WaRd t) (hE : beginE p tgt x ≠ 0) :
    Calls Tryz.prog 19 #[sp.v, tp.v, val x] w fun e w' => ∃ u : Unit, e = .returned (.tuple #[val (⟨⟨none, 0, 0⟩, 0, []⟩ : Sq), .slice none 0 0, .int .i64 (beginE p tgt x)]) ∧ True ∧ Cl w [] [] w' := by
  refine calls_cw (vs := [_, _, _]) Tryz.func19 rfl Tryz.ntmps19 rfl (Cl.start0 w) (cw_seq (cw_region ?_))
  refine sw_x rfl rfl rfl (e_box rfl rfl rfl) (fun b5 => ?_)
  refine sw_x rfl rfl rfl (e_alloc rfl) (fun b6 => ?_)
  refine sr rfl rfl rfl ((q_assign rfl rfl)) (sr rfl rfl rfl ((q_assign rfl rfl)) (sw_nil (post_then (cw_seq (cw_region (sr rfl rfl rfl ((q_move rfl rfl)) (sr rfl rfl rfl ((q_move rfl rfl)) ?_)))))))
  refine sr rfl rfl rfl ((q_loadA rfl rfl (by exact .tail _ (.head _)) rfl)) ?_
  refine sw_step rfl rfl rfl (q_call (CanCall.mk Tryz.call64) rfl (.cons rfl inferInstance (.cons rfl inferInstance (.cons rfl inferInstance (.nil)))) (fun _ w hw => callq hw (begin_no sp tp p tgt x w (hvo.arg hw) (stb_arg hw htp) htg hE))) (sr rfl rfl rfl ((q_move rfl rfl)) (sr rfl rfl rfl ((q_extract rfl rfl rfl)) (sr rfl rfl rfl ((q_extract rfl rfl rfl)) (sr rfl rfl rfl ((q_assign rfl rfl)) (sr rfl rfl rfl ((q_assign rfl rfl)) (sw_nil (post_then (cw_seq (cw_seq (cw_region (sr rfl rfl rfl ((q_move rfl rfl)) (sr rfl rfl rfl ((q_neq rfl rfl rfl)) (sw_nil (post_then ?_))))))))))))))
  refine cw_cond rfl (fun h => ?_) (fun h => ?_)
  · skip
    refine cw_seq (cw_region (sr rfl rfl rfl ((q_build rfl (.nil) rfl)) (sr rfl rfl rfl ((q_move rfl rfl)) (sw_eff0 rfl rfl (e_store (i := 0) rfl rfl rfl rfl rfl rfl rfl rfl) (sr rfl rfl rfl ((q_assign rfl rfl)) (sr rfl rfl rfl ((q_assign rfl rfl)) (sw_nil (post_then (cw_ret (post_then_r ?_))))))))))
    refine post_ret3 rfl (resOk_blk (x := (⟨⟨none, 0, 0⟩, 0, []⟩ : Sq)) rfl (by exact .head _) (by rfl)) (resOk_tmp rfl) (resOk_tmp rfl) ?_
    exact fun w' hw => ⟨(), rfl, trivial, (fun w h => Cl.sel (by exact .nil _) w h) _ hw⟩
  · skip
    exfalso
    simp only [Bool.not_eq_false', decide_eq_true_eq] at h
    exact hE h
theorem choose_none (sp tp : SlV) (p : List Un) (tgt : List Wan) (x : Wts) (w : World) (hvo : VoRd w sp p) (htp : Stb w [] (RdL tp.v tgt)) (htg : ∀ t ∈ tgt, WaRd t) (hE : beginE p tgt x = 0) (hP : possP p tgt = false) :
    Calls Tryz.prog 19 #[sp.v, tp.v, val x] w fun e w' => ∃ u : Unit, e = .returned (.tuple #[val (⟨⟨none, 0, 0⟩, 0, []⟩ : Sq), .slice none 0 0, .int .i64 5]) ∧ True ∧ Cl w [] [] w' := by
  refine calls_cw (vs := [_, _, _]) Tryz.func19 rfl Tryz.ntmps19 rfl (Cl.start0 w) (cw_seq (cw_region ?_))
  refine sw_x rfl rfl rfl (e_box rfl rfl rfl) (fun b5 => ?_)
  refine sw_x rfl rfl rfl (e_alloc rfl) (fun b6 => ?_)
  refine sr rfl rfl rfl ((q_assign rfl rfl)) (sr rfl rfl rfl ((q_assign rfl rfl)) (sw_nil (post_then (cw_seq (cw_region (sr rfl rfl rfl ((q_move rfl rfl)) (sr rfl rfl rfl ((q_move rfl rfl)) ?_)))))))
  refine sr rfl rfl rfl ((q_loadA rfl rfl (by exact .tail _ (.head _)) rfl)) ?_
  refine sw_x rfl rfl rfl (e_call (CanCall.mk Tryz.call64) rfl (.cons rfl inferInstance (.cons rfl inferInstance (.cons rfl inferInstance (.nil)))) (fun w hw => begin_yes sp tp p tgt x w (hvo.arg hw) (stb_arg hw htp) htg hE)) (fun y => ?_)
  refine sw_imp fun hg => (sw_le (C' := Cl w [] (blk b6 (enc (⟨⟨none, 0, 0⟩, 0, []⟩ : Sq)) 30 :: blk b5 (enc x) 25 :: mpA y.K.bm ([] : List (P2 × Int)) :: y.F)) (fun w' h => h.perm (List.perm_append_comm (l₂ := [blk b6 (enc (⟨⟨none, 0, 0⟩, 0, []⟩ : Sq)) 30, blk b5 (enc x) 25]))) ?_)
  obtain ⟨hK, hKp, hKt, e1, e2, hTab⟩ := good_facts hg hE
  refine sr rfl rfl rfl ((q_move rfl rfl)) (sr rfl rfl rfl ((q_extract rfl rfl rfl)) (sr rfl rfl rfl ((q_extract rfl rfl rfl)) (sr rfl rfl rfl ((q_assign rfl rfl)) (sr rfl rfl rfl ((q_assign rfl rfl)) (sw_nil (post_then (cw_seq (cw_seq (cw_region (sr rfl rfl rfl ((q_move rfl rfl)) (sr rfl rfl rfl ((q_neq rfl rfl rfl)) (sw_nil (post_then ?_)))))))))))))
  refine cw_cond rfl (fun h => ?_) (fun h => ?_)
  · skip
    cases h
  · skip
    refine cw_skip (post_then (cw_seq (cw_seq (cw_region (sr rfl rfl rfl ((q_move rfl rfl)) (sw_step rfl rfl rfl (q_call (CanCall.mk Tryz.call65) rfl (.cons rfl inferInstance (.nil)) (fun _ w hw => callq hw (possible_spec y.K w (tkx_rd hg hw.split0.2.1 (fun A hA => .tail _ (.tail _ (.tail _ hA))) (stb_arg hw hvo.stb) (stb_arg hw htp))))) (sr rfl rfl rfl ((q_not rfl rfl)) (sw_nil (post_then ?_)))))))))
    refine cw_cond rfl (fun h2 => ?_) (fun h2 => ?_)
    · skip
      refine cw_seq (cw_region (sr rfl rfl rfl ((q_build rfl (.nil) rfl)) (sw_eff0 rfl rfl (e_store (i := 0) rfl rfl rfl rfl rfl rfl rfl rfl) (sr rfl rfl rfl ((q_assign rfl rfl)) (sr rfl rfl rfl ((q_assign rfl rfl)) (sw_nil (post_then (cw_ret (post_then_r ?_)))))))))
      refine post_ret3 rfl (resOk_blk (x := (⟨⟨none, 0, 0⟩, 0, []⟩ : Sq)) rfl (by exact .head _) (by rfl)) (resOk_tmp rfl) (resOk_tmp rfl) ?_
      exact fun w' hw => ⟨(), rfl, trivial, (fun w h => Cl.sel (by exact .nil _) w h) _ hw⟩
    · skip
      exfalso
      rw [hKp, hP] at h2
      cases h2
theorem choose_yes (sp tp : SlV) (p : List Un) (tgt : List Wan) (x : Wts) (w : World) (hvo : VoRd w sp p) (htp : Stb w [] (RdL tp.v tgt)) (htg : ∀ t ∈ tgt, WaRd t) (hE : beginE p tgt x = 0) (hP : possP p tgt = true) (hbig : (p.length + 1) ^ tgt.length ≤ 500000000) :
    Calls Tryz.prog 19 #[sp.v, tp.v, val x] w fun e w' => ∃ y : (SlV × SlV) × (List Int × Sq), e = .returned (.tuple #[val y.2.2, y.1.1.v, .int .i64 0]) ∧ (TabP p tgt x y.2.1 ∧ BestSeq (tsk p tgt x) y.2.2.ul y.2.2.cost) ∧ Cl w [] [ownL 28 y.1.1.v (rowsTo y.1.2 p.length tgt.length tgt.length), ownL 3 y.1.2.v y.2.1, ownL 3 y.2.2.us.v y.2.2.ul] w' := by
  refine calls_cw (vs := [_, _, _]) Tryz.func19 rfl Tryz.ntmps19 rfl (Cl.start0 w) (cw_seq (cw_region ?_))
  refine sw_x rfl rfl rfl (e_box rfl rfl rfl) (fun b5 => ?_)
  refine sw_x rfl rfl rfl (e_alloc rfl) (fun b6 => ?_)
  refine sr rfl rfl rfl ((q_assign rfl rfl)) (sr rfl rfl rfl ((q_assign rfl rfl)) (sw_nil (post_then (cw_seq (cw_region (sr rfl rfl rfl ((q_move rfl rfl)) (sr rfl rfl rfl ((q_move rfl rfl)) ?_)))))))
  refine sr rfl rfl rfl ((q_loadA rfl rfl (by exact .tail _ (.head _)) rfl)) ?_
  refine sw_x rfl rfl rfl (e_call (CanCall.mk Tryz.call64) rfl (.cons rfl inferInstance (.cons rfl inferInstance (.cons rfl inferInstance (.nil)))) (fun w hw => begin_yes sp tp p tgt x w (hvo.arg hw) (stb_arg hw htp) htg hE)) (fun y => ?_)
  refine sw_imp fun hg => (sw_le (C' := Cl w [] (blk b6 (enc (⟨⟨none, 0, 0⟩, 0, []⟩ : Sq)) 30 :: blk b5 (enc x) 25 :: mpA y.K.bm ([] : List (P2 × Int)) :: y.F)) (fun w' h => h.perm (List.perm_append_comm (l₂ := [blk b6 (enc (⟨⟨none, 0, 0⟩, 0, []⟩ : Sq)) 30, blk b5 (enc x) 25]))) ?_)
  obtain ⟨hK, hKp, hKt, e1, e2, hTab⟩ := good_facts hg hE
  refine sr rfl rfl rfl ((q_move rfl rfl)) (sr rfl rfl rfl ((q_extract rfl rfl rfl)) (sr rfl rfl rfl ((q_extract rfl rfl rfl)) (sr rfl rfl rfl ((q_assign rfl rfl)) (sr rfl rfl rfl ((q_assign rfl rfl)) (sw_nil (post_then (cw_seq (cw_seq (cw_region (sr rfl rfl rfl ((q_move rfl rfl)) (sr rfl rfl rfl ((q_neq rfl rfl rfl)) (sw_nil (post_then ?_)))))))))))))
  refine cw_cond rfl (fun h => ?_) (fun h => ?_)
  · skip
    cases h
  · skip
    refine cw_skip (post_then (cw_seq (cw_seq (cw_region (sr rfl rfl rfl ((q_move rfl rfl)) (sw_step rfl rfl rfl (q_call (CanCall.mk Tryz.call65) rfl (.cons rfl inferInstance (.nil)) (fun _ w hw => callq hw (possible_spec y.K w (tkx_rd hg hw.split0.2.1 (fun A hA => .tail _ (.tail _ (.tail _ hA))) (stb_arg hw hvo.stb) (stb_arg hw htp))))) (sr rfl rfl rfl ((q_not rfl rfl)) (sw_nil (post_then ?_)))))))))
    refine cw_cond rfl (fun h2 => ?_) (fun h2 => ?_)
    · skip
      exfalso
      rw [hKp, hP] at h2
      cases h2
    · skip
      refine cw_skip (post_then (cw_seq (cw_region (sr rfl rfl rfl ((q_move rfl rfl)) ?_))))
      refine sw_x rfl rfl rfl (e_callH (A := [mpA y.K.bm ([] : List (P2 × Int))]) (F := blk b6 (enc (⟨⟨none, 0, 0⟩, 0, []⟩ : Sq)) 30 :: blk b5 (enc x) 25 :: y.F) (CanCall.mk Tryz.call66) rfl rfl (.cons rfl inferInstance (.nil)) (perm_del (i := 2) rfl) (fun w bs k1 k2 k3 k4 k5 => rest_spec y.K hK (hKp.trans hP) [] (fun k v hk => by cases hk) w bs k1 k2 k3 (tkx_rd hg k5 (fun A hA => .tail _ (.tail _ hA)) (k4 _ hvo.stb) (k4 _ htp)))) (fun r => ?_)
      refine sw_imp fun hr => ?_
      obtain ⟨⟨so, sc⟩, ⟨cells, m1⟩⟩ := r
      obtain ⟨ht, hm1⟩ := hr
      dsimp only at ht hm1 ⊢
      refine sr rfl rfl rfl ((q_assign rfl rfl)) (sw_nil (post_then (cw_seq (cw_region (sr rfl rfl rfl ((q_move rfl rfl)) (sr rfl rfl rfl ((q_move rfl rfl)) ?_))))))
      refine sw_x rfl rfl rfl (e_callH (A := [mpA y.K.bm m1]) (F := ownL 28 so.v (rowsTo sc y.K.p.length y.K.tgt.length y.K.tgt.length) :: ownL 3 sc.v cells :: blk b6 (enc (⟨⟨none, 0, 0⟩, 0, []⟩ : Sq)) 30 :: blk b5 (enc x) 25 :: y.F) (CanCall.mk Tryz.call67) rfl rfl (.cons rfl inferInstance (.cons rfl inferInstance (.cons rfl inferInstance (.nil)))) (.refl _) (fun w bs k1 k2 k3 k4 k5 => first_spec y.K hK (hKp.trans hP) 1 (by omega) (by rw [e1, e2]; exact hbig) so sc cells ht m1 hm1 w bs k1 k2 k3 (tkx_rd hg k5 (fun A hA => .tail _ (.tail _ (.tail _ (.tail _ hA)))) (k4 _ hvo.stb) (k4 _ htp)) (lend_own k5 (.head _)) (lend_own k5 (.tail _ (.head _))))) (fun z => ?_)
      refine sw_imp fun hz => ?_
      obtain ⟨⟨hbf, hhp, _, hon, _, _⟩, hend⟩ := hz
      have hT : y.K.t.T = y.K.tgt.length := rfl
      have hne : y.K.t.tl y.K.t.T ≠ [] := tl_ne (fun i hi => TK.poss (hKp.trans hP) hi) _ (Nat.le_refl _)
      obtain ⟨q, hq⟩ : ∃ q, z.outs = [q] := by
        cases ho : z.outs with
        | nil =>
          exfalso
          rcases hend with h5 | h5
          · have h6 := hbf.cov
            rw [h5, ho] at h6
            exact hne h6.nil_eq.symm
          · rw [ho] at h5; cases h5
        | cons q r =>
          rw [ho] at hon
          simp only [List.length_cons] at hon
          exact ⟨q, by rw [List.eq_nil_of_length_eq_zero (show r.length = 0 by omega)]⟩
      rw [hq] at hbf ⊢
      rw [hKt] at hbf
      refine sr rfl rfl rfl ((q_indexN rfl rfl rfl (by exact fun w hw => rd_own hw (by exact .tail _ (.head _))) (by intro hc; (simp only [List.length_set, List.length_append, List.length_cons, List.length_nil, List.length_replicate, List.length_take, List.length_drop, List.length_map]; omega)))) ?_
      refine sr rfl rfl rfl ((q_loadEl rfl rfl rfl (by exact fun w hw => rd_own hw (by exact .tail _ (.head _))) (by intro hc; (simp only [List.length_set, List.length_append, List.length_cons, List.length_nil, List.length_replicate, List.length_take, List.length_drop, List.length_map]; omega)))) ?_
      refine sr rfl rfl rfl ((q_move rfl rfl)) (sw_eff0 rfl rfl (e_store (i := 5) rfl rfl rfl rfl rfl rfl rfl rfl) (sr rfl rfl rfl ((q_assign rfl rfl)) (sr rfl rfl rfl ((q_assign rfl rfl)) (sw_nil (post_then (cw_ret ?_))))))
      refine post_ret3 rfl (resOk_blk (x := q) rfl (by exact .tail _ (.tail _ (.tail _ (.tail _ (.tail _ (.head _)))))) (by rfl)) (resOk_tmp rfl) (resOk_tmp rfl) ?_
      refine fun w' hw => ⟨((so, sc), (cells, q)), rfl, ⟨hTab cells ht, ?_, hbf.cst (keyS q) (by simp), fun s' hs' => ?_⟩, ?_⟩
      · exact hbf.cov.mem_iff.1 (by simp [keyS])
      · rcases List.mem_append.1 (hbf.cov.mem_iff.2 hs') with h5 | h5
        · exact .inr (hbf.bel (keyS q) (by simp) s' h5)
        · simp only [List.map_cons, List.map_nil, List.mem_singleton] at h5
          exact .inl h5
      · have h5 : Cl w [] [ownL 28 so.v (rowsTo sc y.K.p.length y.K.tgt.length y.K.tgt.length), ownL 3 sc.v cells, ownL 3 q.us.v q.ul] w' := (fun w h => Cl.sel (by exact .take 3 rfl (.take 3 rfl (.take 2 rfl (.nil _)))) w h) _ hw
        rw [e1, e2] at h5
        exact h5
end Go.Proofs.YtomjbfeafodfbaaGreat

set_option autoImplicit false
set_option maxRecDepth 100000
namespace Go.Proofs.YtomjbfeafodfbaaGreat
open Go.Sx
open Enc (enc val)
def bestE (p : List Un) (tgt : List Wan) (x : Wts) (n : Int) : Int := if beginE p tgt x = 4 then 4 else if beginE p tgt x ≠ 0 ∨ inB n 1 50 = false then 2 else if possP p tgt then 0 else 5
theorem best_bad (sp tp : SlV) (p : List Un) (tgt : List Wan) (x : Wts) (n : Int) (w : World) (hvo : VoRd w sp p) (htp : Stb w [] (RdL tp.v tgt)) (htg : ∀ t ∈ tgt, WaRd t) (hE : beginE p tgt x ≠ 0) :
    Calls Tryz.prog 26 #[sp.v, tp.v, val x, .int .i64 n] w fun e w' => ∃ u : Unit, e = .returned (.tuple #[.slice none 0 0, .int .i64 (bestE p tgt x n)]) ∧ True ∧ Cl w [] [] w' := by
  refine calls_cw (vs := [_, _, _, _]) Tryz.func26 rfl Tryz.ntmps26 rfl (Cl.start0 w) (cw_seq (cw_region ?_))
  refine sw_x rfl rfl rfl (e_box rfl rfl rfl) (fun b6 => ?_)
  refine sr rfl rfl rfl ((q_assign rfl rfl)) (sr rfl rfl rfl ((q_assign rfl rfl)) (sw_nil (post_then (cw_seq (cw_region (sr rfl rfl rfl ((q_move rfl rfl)) (sr rfl rfl rfl ((q_move rfl rfl)) ?_)))))))
  refine sr rfl rfl rfl ((q_loadA rfl rfl (by exact .head _) rfl)) ?_
  refine sw_step rfl rfl rfl (q_call (CanCall.mk Tryz.call64) rfl (.cons rfl inferInstance (.cons rfl inferInstance (.cons rfl inferInstance (.nil)))) (fun _ w hw => callq hw (begin_no sp tp p tgt x w (hvo.arg hw) (stb_arg hw htp) htg hE))) (sr rfl rfl rfl ((q_move rfl rfl)) (sr rfl rfl rfl ((q_extract rfl rfl rfl)) (sr rfl rfl rfl ((q_extract rfl rfl rfl)) (sr rfl rfl rfl ((q_assign rfl rfl)) (sr rfl rfl rfl ((q_assign rfl rfl)) (sw_nil (post_then (cw_seq (cw_seq (cw_region (sr rfl rfl rfl ((q_move rfl rfl)) (sr rfl rfl rfl ((q_eql rfl rfl rfl)) (sw_nil (post_then ?_))))))))))))))
  refine cw_cond rfl (fun h => ?_) (fun h => ?_)
  · skip
    have h1 : beginE p tgt x = 4 := by simpa using h
    refine cw_seq (cw_region (sr rfl rfl rfl ((q_move rfl rfl)) (sr rfl rfl rfl ((q_assign rfl rfl)) (sr rfl rfl rfl ((q_assign rfl rfl)) (sw_nil (post_then (cw_ret (post_then_r (post_ret2 rfl (resOk_tmp rfl) (resOk_tmp rfl) ?_)))))))))
    exact fun w' hw => ⟨(), by rw [bestE, if_pos h1, h1]; rfl, trivial, (fun w h => Cl.sel (by exact .nil _) w h) _ hw⟩
  · skip
    have h1 : ¬ beginE p tgt x = 4 := by simpa using h
    refine cw_skip (post_then (cw_seq (cw_seq (cw_region (sr rfl rfl rfl ((q_move rfl rfl)) (sr rfl rfl rfl ((q_neq rfl rfl rfl)) (sr rfl rfl rfl ((q_move rfl rfl)) (sr rfl rfl rfl ((q_move rfl rfl)) (sw_step rfl rfl rfl (q_call (CanCall.mk Tryz.call70) rfl (.cons rfl inferInstance (.cons rfl inferInstance (.cons rfl inferInstance (.nil)))) (fun _ w hw => callq hw (within_spec _ _ _ w))) (sr rfl rfl rfl ((q_not rfl rfl)) (sr rfl rfl rfl ((q_or2 rfl rfl rfl)) (sw_nil (post_then ?_)))))))))))))
    refine cw_cond rfl (fun h2 => ?_) (fun h2 => ?_)
    · skip
      refine cw_seq (cw_region (sr rfl rfl rfl ((q_assign rfl rfl)) (sr rfl rfl rfl ((q_assign rfl rfl)) (sw_nil (post_then (cw_ret (post_then_r (post_ret2 rfl (resOk_tmp rfl) (resOk_tmp rfl) ?_))))))))
      exact fun w' hw => ⟨(), by rw [bestE, if_neg h1, if_pos (.inl hE)], trivial, (fun w h => Cl.sel (by exact .nil _) w h) _ hw⟩
    · skip
      exfalso
      simp only [Bool.or_eq_false_iff, Bool.not_eq_false', decide_eq_true_eq] at h2
      exact hE h2.1
theorem best_no (sp tp : SlV) (p : List Un) (tgt : List Wan) (x : Wts) (n : Int) (w : World) (hvo : VoRd w sp p) (htp : Stb w [] (RdL tp.v tgt)) (htg : ∀ t ∈ tgt, WaRd t) (hE : beginE p tgt x = 0) (hB : bestE p tgt x n ≠ 0) :
    Calls Tryz.prog 26 #[sp.v, tp.v, val x, .int .i64 n] w fun e w' => ∃ u : Unit, e = .returned (.tuple #[.slice none 0 0, .int .i64 (bestE p tgt x n)]) ∧ True ∧ Cl w [] [] w' := by
  refine calls_cw (vs := [_, _, _, _]) Tryz.func26 rfl Tryz.ntmps26 rfl (Cl.start0 w) (cw_seq (cw_region ?_))
  refine sw_x rfl rfl rfl (e_box rfl rfl rfl) (fun b6 => ?_)
  refine sr rfl rfl rfl ((q_assign rfl rfl)) (sr rfl rfl rfl ((q_assign rfl rfl)) (sw_nil (post_then (cw_seq (cw_region (sr rfl rfl rfl ((q_move rfl rfl)) (sr rfl rfl rfl ((q_move rfl rfl)) ?_)))))))
  refine sr rfl rfl rfl ((q_loadA rfl rfl (by exact .head _) rfl)) ?_
  refine sw_x rfl rfl rfl (e_call (CanCall.mk Tryz.call64) rfl (.cons rfl inferInstance (.cons rfl inferInstance (.cons rfl inferInstance (.nil)))) (fun w hw => begin_yes sp tp p tgt x w (hvo.arg hw) (stb_arg hw htp) htg hE)) (fun y => ?_)
  refine sw_imp fun hg => (sw_le (C' := Cl w [] (blk b6 (enc x) 25 :: mpA y.K.bm ([] : List (P2 × Int)) :: y.F)) (fun w' h => h.perm (List.perm_append_comm (l₂ := [blk b6 (enc x) 25]))) ?_)
  obtain ⟨hK, hKp, hKt, e1, e2, hTab⟩ := good_facts hg hE
  have e0 : bestE p tgt x n = if inB n 1 50 = false then 2 else if possP p tgt then 0 else 5 := by simp [bestE, hE]
  refine sr rfl rfl rfl ((q_move rfl rfl)) (sr rfl rfl rfl ((q_extract rfl rfl rfl)) (sr rfl rfl rfl ((q_extract rfl rfl rfl)) (sr rfl rfl rfl ((q_assign rfl rfl)) (sr rfl rfl rfl ((q_assign rfl rfl)) (sw_nil (post_then (cw_seq (cw_seq (cw_region (sr rfl rfl rfl ((q_move rfl rfl)) (sr rfl rfl rfl ((q_eql rfl rfl rfl)) (sw_nil (post_then ?_)))))))))))))
  refine cw_cond rfl (fun h => ?_) (fun h => ?_)
  · skip
    cases h
  · skip
    refine cw_skip (post_then (cw_seq (cw_seq (cw_region (sr rfl rfl rfl ((q_move rfl rfl)) (sr rfl rfl rfl ((q_neq rfl rfl rfl)) (sr rfl rfl rfl ((q_move rfl rfl)) (sr rfl rfl rfl ((q_move rfl rfl)) (sw_step rfl rfl rfl (q_call (CanCall.mk Tryz.call70) rfl (.cons rfl inferInstance (.cons rfl inferInstance (.cons rfl inferInstance (.nil)))) (fun _ w hw => callq hw (within_spec _ _ _ w))) (sr rfl rfl rfl ((q_not rfl rfl)) (sr rfl rfl rfl ((q_or2 rfl rfl rfl)) (sw_nil (post_then ?_)))))))))))))
    refine cw_cond rfl (fun h2 => ?_) (fun h2 => ?_)
    · skip
      have h3 : inB n 1 50 = false := by simpa using h2
      refine cw_seq (cw_region (sr rfl rfl rfl ((q_assign rfl rfl)) (sr rfl rfl rfl ((q_assign rfl rfl)) (sw_nil (post_then (cw_ret (post_then_r (post_ret2 rfl (resOk_tmp rfl) (resOk_tmp rfl) ?_))))))))
      exact fun w' hw => ⟨(), by rw [e0, if_pos h3], trivial, (fun w h => Cl.sel (by exact .nil _) w h) _ hw⟩
    · skip
      have h3 : inB n 1 50 = true := by simpa using h2
      refine cw_skip (post_then (cw_seq (cw_seq (cw_region (sr rfl rfl rfl ((q_move rfl rfl)) (sw_step rfl rfl rfl (q_call (CanCall.mk Tryz.call65) rfl (.cons rfl inferInstance (.nil)) (fun _ w hw => callq hw (possible_spec y.K w (tkx_rd hg hw.split0.2.1 (fun A hA => .tail _ (.tail _ hA)) (stb_arg hw hvo.stb) (stb_arg hw htp))))) (sr rfl rfl rfl ((q_not rfl rfl)) (sw_nil (post_then ?_)))))))))
      refine cw_cond rfl (fun h4 => ?_) (fun h4 => ?_)
      · skip
        rw [hKp] at h4
        have h5 : possP p tgt = false := by simpa using h4
        refine cw_seq (cw_region (sr rfl rfl rfl ((q_assign rfl rfl)) (sr rfl rfl rfl ((q_assign rfl rfl)) (sw_nil (post_then (cw_ret (post_then_r (post_ret2 rfl (resOk_tmp rfl) (resOk_tmp rfl) ?_))))))))
        exact fun w' hw => ⟨(), by rw [e0, h3, h5]; rfl, trivial, (fun w h => Cl.sel (by exact .nil _) w h) _ hw⟩
      · skip
        exfalso
        rw [hKp] at h4
        have h5 : possP p tgt = true := by simpa using h4
        apply hB
        rw [e0, h3, h5]; rfl
theorem best_yes (sp tp : SlV) (p : List Un) (tgt : List Wan) (x : Wts) (n : Nat) (w : World) (hvo : VoRd w sp p) (htp : Stb w [] (RdL tp.v tgt)) (htg : ∀ t ∈ tgt, WaRd t) (hE : beginE p tgt x = 0) (hn : 1 ≤ n ∧ n ≤ 50) (hP : possP p tgt = true) (hbig : (p.length + 1) ^ tgt.length ≤ 500000000) :
    Calls Tryz.prog 26 #[sp.v, tp.v, val x, .int .i64 n] w fun e w' => ∃ y : SlV × (List Sq × List Itm), e = .returned (.tuple #[y.1.v, .int .i64 0]) ∧ ((tsk p tgt x).BF y.2.2 (y.2.1.map keyS) ∧ (y.2.2 = [] ∨ y.2.1.length = n) ∧ y.2.1.length ≤ n) ∧ Cl w [] (ownL 30 y.1.v y.2.1 :: y.2.1.map sqA) w' := by
  refine calls_cw (vs := [_, _, _, _]) Tryz.func26 rfl Tryz.ntmps26 rfl (Cl.start0 w) (cw_seq (cw_region ?_))
  refine sw_x rfl rfl rfl (e_box rfl rfl rfl) (fun b6 => ?_)
  refine sr rfl rfl rfl ((q_assign rfl rfl)) (sr rfl rfl rfl ((q_assign rfl rfl)) (sw_nil (post_then (cw_seq (cw_region (sr rfl rfl rfl ((q_move rfl rfl)) (sr rfl rfl rfl ((q_move rfl rfl)) ?_)))))))
  refine sr rfl rfl rfl ((q_loadA rfl rfl (by exact .head _) rfl)) ?_
  refine sw_x rfl rfl rfl (e_call (CanCall.mk Tryz.call64) rfl (.cons rfl inferInstance (.cons rfl inferInstance (.cons rfl inferInstance (.nil)))) (fun w hw => begin_yes sp tp p tgt x w (hvo.arg hw) (stb_arg hw htp) htg hE)) (fun y => ?_)
  refine sw_imp fun hg => (sw_le (C' := Cl w [] (blk b6 (enc x) 25 :: mpA y.K.bm ([] : List (P2 × Int)) :: y.F)) (fun w' h => h.perm (List.perm_append_comm (l₂ := [blk b6 (enc x) 25]))) ?_)
  obtain ⟨hK, hKp, hKt, e1, e2, hTab⟩ := good_facts hg hE
  have h3 : inB n 1 50 = true := by simp [inB]; omega
  refine sr rfl rfl rfl ((q_move rfl rfl)) (sr rfl rfl rfl ((q_extract rfl rfl rfl)) (sr rfl rfl rfl ((q_extract rfl rfl rfl)) (sr rfl rfl rfl ((q_assign rfl rfl)) (sr rfl rfl rfl ((q_assign rfl rfl)) (sw_nil (post_then (cw_seq (cw_seq (cw_region (sr rfl rfl rfl ((q_move rfl rfl)) (sr rfl rfl rfl ((q_eql rfl rfl rfl)) (sw_nil (post_then ?_)))))))))))))
  refine cw_cond rfl (fun h => ?_) (fun h => ?_)
  · skip
    cases h
  · skip
    refine cw_skip (post_then (cw_seq (cw_seq (cw_region (sr rfl rfl rfl ((q_move rfl rfl)) (sr rfl rfl rfl ((q_neq rfl rfl rfl)) (sr rfl rfl rfl ((q_move rfl rfl)) (sr rfl rfl rfl ((q_move rfl rfl)) (sw_step rfl rfl rfl (q_call (CanCall.mk Tryz.call70) rfl (.cons rfl inferInstance (.cons rfl inferInstance (.cons rfl inferInstance (.nil)))) (fun _ w hw => callq hw (within_spec _ _ _ w))) (sr rfl rfl rfl ((q_not rfl rfl)) (sr rfl rfl rfl ((q_or2 rfl rfl rfl)) (sw_nil (post_then ?_)))))))))))))
    refine cw_cond rfl (fun h2 => ?_) (fun h2 => ?_)
    · skip
      exfalso
      simp [h3] at h2
    · skip
      refine cw_skip (post_then (cw_seq (cw_seq (cw_region (sr rfl rfl rfl ((q_move rfl rfl)) (sw_step rfl rfl rfl (q_call (CanCall.mk Tryz.call65) rfl (.cons rfl inferInstance (.nil)) (fun _ w hw => callq hw (possible_spec y.K w (tkx_rd hg hw.split0.2.1 (fun A hA => .tail _ (.tail _ hA)) (stb_arg hw hvo.stb) (stb_arg hw htp))))) (sr rfl rfl rfl ((q_not rfl rfl)) (sw_nil (post_then ?_)))))))))
      refine cw_cond rfl (fun h4 => ?_) (fun h4 => ?_)
      · skip
        exfalso
        rw [hKp, hP] at h4
        cases h4
      · skip
        refine cw_skip (post_then (cw_seq (cw_region (sr rfl rfl rfl ((q_move rfl rfl)) (sr rfl rfl rfl ((q_move rfl rfl)) ?_)))))
        refine sw_x rfl rfl rfl (e_callH (A := [mpA y.K.bm ([] : List (P2 × Int))]) (F := blk b6 (enc x) 25 :: y.F) (CanCall.mk Tryz.call66) rfl rfl (.cons rfl inferInstance (.nil)) (perm_del (i := 1) rfl) (fun w bs k1 k2 k3 k4 k5 => rest_spec y.K hK (hKp.trans hP) [] (fun k v hk => by cases hk) w bs k1 k2 k3 (tkx_rd hg k5 (fun A hA => .tail _ hA) (k4 _ hvo.stb) (k4 _ htp)))) (fun r => ?_)
        refine sw_imp fun hr => ?_
        obtain ⟨⟨so, sc⟩, ⟨cells, m1⟩⟩ := r
        obtain ⟨ht, hm1⟩ := hr
        dsimp only at ht hm1 ⊢
        refine sr rfl rfl rfl ((q_move rfl rfl)) ?_
        refine sw_x rfl rfl rfl (e_callH (A := [mpA y.K.bm m1]) (F := ownL 28 so.v (rowsTo sc y.K.p.length y.K.tgt.length y.K.tgt.length) :: ownL 3 sc.v cells :: blk b6 (enc x) 25 :: y.F) (CanCall.mk Tryz.call67) rfl rfl (.cons rfl inferInstance (.cons rfl inferInstance (.cons rfl inferInstance (.nil)))) (.refl _) (fun w bs k1 k2 k3 k4 k5 => first_spec y.K hK (hKp.trans hP) n (by omega) (by rw [e1, e2]; exact hbig) so sc cells ht m1 hm1 w bs k1 k2 k3 (tkx_rd hg k5 (fun A hA => .tail _ (.tail _ (.tail _ hA))) (k4 _ hvo.stb) (k4 _ htp)) (lend_own k5 (.head _)) (lend_own k5 (.tail _ (.head _))))) (fun z => ?_)
        refine sw_imp fun hz => ?_
        obtain ⟨⟨hbf, hhp, _, hon, _, _⟩, hend⟩ := hz
        rw [hKt] at hbf
        refine sr rfl rfl rfl ((q_assign rfl rfl)) (sr rfl rfl rfl ((q_assign rfl rfl)) (sw_nil (post_then (cw_ret (post_ret2 rfl (resOk_tmp rfl) (resOk_tmp rfl) ?_)))))
        exact fun w' hw => ⟨(z.s7, (z.outs, z.l)), rfl, ⟨hbf, hend, hon⟩, cl_drop (F := ownL 30 z.s7.v z.outs :: z.outs.map sqA) hw.tail⟩
end Go.Proofs.YtomjbfeafodfbaaGreat

/- append(s, make([]T, n)...), cap(s). General lemmas, no program text. -/
set_option autoImplicit false
set_option linter.unusedSectionVars false
namespace Go.Sx
open Enc (enc val)
section
variable {P : Program} {n : Fr} {E : Env} {C : World → Prop} {cs : List Bool} {o : Oper} {w0 : World} {fp : List Nat} {H : List Asn}
theorem q_capV {l : List Operand} {t : TypeId} {e : TypeId} {s : SlV} (ho : o.op = .call { callee := .builtin .cap, args := l.toArray, argTypes := #[t] }) (hv : Evs E cs l [s.v]) [ht : SlT P t e] : OpR P n E C cs o (.int .i64 s.cap) :=
  builtin_run ho hv fun w c hw _ => by
    have := run_underlying ht.und w
    simp [builtin, Builtin.cap_, this, SlV.v, goInt]
/-- The call's own slice, whatever lies in it. -/
def ownU (e : TypeId) (sz : Nat) (s : SlV) : Asn := ⟨fun w bs => ∃ b cur, s.addr = some ⟨b, 0, none⟩ ∧ bs = [b] ∧ w.heap[b]? = some (.cells cur e (0, 0)) ∧ s.len ≤ s.cap ∧ s.cap ≤ maxLen ∧ cur.size = s.cap * sz, fun w w' bs ⟨b, cur, h1, h2, h3, h4⟩ hk => ⟨b, cur, h1, h2, (hk b (by simp [h2])).trans h3, h4⟩⟩
theorem ownU_cut {α : Type} [Enc α] {e : TypeId} {s : SlV} {w : World} (h : Cl w0 fp (ownU e (Enc.sz α) s :: H) w) : Cl w0 fp (ownL e (s.sub (Enc.sz α) 0 0).v ([] : List α) :: H) w := by
  obtain ⟨hc, bs, ⟨b1, b2, rfl, ⟨b, cur, e1, e2, e3, e4, e5, e6⟩, h2⟩, hn, hb⟩ := h
  refine ⟨hc, b1 ++ b2, ⟨b1, b2, rfl, .inr ⟨b, 0, s.cap, cur, ?_, e2, e3, Nat.zero_le _, e5, e6, by simp, by simp⟩, h2⟩, hn, hb⟩
  simp only [SlV.v, SlV.sub, e1, Option.map_some, Nat.zero_mul, Nat.sub_zero]
  have : (⟨b, 0, none⟩ : Addr).add 0 = ⟨b, 0, none⟩ := by simp [Addr.add]
  rw [this, ite_self]
theorem e_appendZ {t tn e : TypeId} {kn : IntKind} {sz bytes : Nat} {z : List Value} {l : List Operand} {k : Nat} (ho : o.op = .call { callee := .builtin .append, args := l.toArray, argTypes := #[t, tn] }) (hv : Evs E [] l [.slice none 0 0, .int .i64 k])
    [ht : SlT P t e] (htn : P.underlying tn = some (.int kn)) [hi : InfoT P e sz bytes z] (h0 : 0 < k) (hs : Nat.ble 1 sz = true) (hb : k * bytes ≤ 140737488355328) (hb1 : Nat.ble 1 bytes = true) :
    OpE P n E (Cl w0 fp H) o (fun u w' => ∃ s : SlV, u = s.v ∧ (s.len = k ∧ s.len ≤ s.cap ∧ s.cap ≤ maxLen) ∧ Cl w0 fp (ownU e sz s :: H) w') :=
  .of_run fun a w ha hw => by
    obtain ⟨i, z0, h1, h2, h3, h4, h5, h6⟩ := hi.info
    have hb1 := Nat.le_of_ble_eq_true hb1
    have hs := Nat.le_of_ble_eq_true hs
    have hk : k ≤ 140737488355328 := Nat.le_trans (Nat.le_mul_of_pos_right _ hb1) hb
    have hnc : Builtin.nextslicecap (0 + k) 0 = k := by rw [Nat.zero_add]; exact nextslicecap_zero h0
    have hr := Lib.run_append_grow_zeros (P := P) w t tn o.type e i z0 .i64 kn ht.und htn h1 h4 none 0 0 [] (by simp [Builtin.firstCells]) k h0 (by omega) (by omega) (by omega) (by rw [h3]; omega) (by rw [hnc, h3]; omega)
    have hge := grownCap_ge w k 0 e
    have hle := grownCap_le_maxLen w k 0 e (by simp only [maxLen]; omega)
    have hzc : z0.cells.size = sz := by rw [h5]; simpa using h6
    rw [Nat.zero_add] at hr
    have hsz : (([] : List Value).toArray ++ Builtin.zeroCells z0.cells k ++ Builtin.zeroCells z0.cells (grownCap w k 0 e - k)).size = grownCap w k 0 e * sz := by
      simp only [Array.size_append, List.size_toArray, List.length_nil, size_zeroCells, hzc, Nat.zero_add, ← Nat.add_mul]; congr 1; omega
    generalize (([] : List Value).toArray ++ Builtin.zeroCells z0.cells k ++ Builtin.zeroCells z0.cells (grownCap w k 0 e - k)) = cur at hr hsz
    refine ⟨_, w.drew.alloc (.cells cur e), ?_, ⟨some ⟨w.heap.size, 0, none⟩, k, grownCap w k 0 e⟩, rfl, ⟨rfl, hge, hle⟩, ?_⟩
    · unfold execOp; simp only [ho]
      simp only [resolve, invoke, List.map_toArray, hv.eval ha AllT.nil, Sem.run_bind, Sem.run_pure, Result.andThen_ok]
      simp [builtin, hr, SlV.v]
    · exact hw.split0.2.2 [ownU e sz _] _ (Cl.drew_start ⟨chg_alloc w.drew _, [w.drew.heap.size], ⟨[w.drew.heap.size], [], rfl, ⟨w.heap.size, cur, rfl, rfl, heap_alloc_new w.drew _, hge, hle, hsz⟩, rfl⟩, by simp, fun b hb => by simp at hb; subst hb; exact ⟨.inr (Nat.le_refl _), by simp⟩⟩)
end
end Go.Sx

set_option autoImplicit false
set_option maxRecDepth 100000
namespace Go.Proofs.YtomjbfeafodfbaaGreat
open Go.Sx
open Enc (enc val)
theorem grow_spec (n : Nat) (hn : n ≤ 100000) (w : World) : Calls Tryz.prog 136 #[SlV.v ⟨none, 0, 0⟩, .int .i64 n] w fun e w' => ∃ s : SlV, e = .returned s.v ∧ True ∧ Cl w [] [ownL 28 s.v ([] : List SlV)] w' := by
  refine calls_cw (vs := [_, _]) Tryz.func136 rfl Tryz.ntmps136 rfl (Cl.start0 w) (cw_seq (cw_region (sr rfl rfl rfl ((q_assign rfl rfl)) (sw_nil (post_then (cw_seq (cw_seq (cw_region (sr rfl rfl rfl ((q_move rfl rfl)) (sr rfl rfl rfl ((q_lss rfl rfl rfl)) (sw_nil (post_then ?_))))))))))))
  refine cw_cond rfl (fun h => ?_) (fun h => ?_)
  · skip
    exfalso
    simp only [decide_eq_true_eq] at h; omega
  · skip
    refine cw_skip (post_then (cw_seq (cw_seq (cw_region (sr rfl rfl rfl ((q_move rfl rfl)) (sr rfl rfl rfl ((q_move rfl rfl)) (sr rfl rfl rfl ((q_capV rfl (.cons rfl inferInstance (.nil)))) (sr rfl rfl rfl ((q_move rfl rfl)) (sr rfl rfl rfl ((q_lenV rfl (.cons rfl inferInstance (.nil)))) ?_)))))))))
    refine sr rfl rfl rfl ((q_sub rfl rfl rfl (by intro hc; (simp only [List.length_set, List.length_append, List.length_cons, List.length_nil, List.length_replicate, List.length_take, List.length_drop, List.length_map]; omega)))) ?_
    refine sr rfl rfl rfl ((q_sub rfl rfl rfl (by intro hc; (simp only [List.length_set, List.length_append, List.length_cons, List.length_nil, List.length_replicate, List.length_take, List.length_drop, List.length_map]; omega)))) ?_
    refine sr rfl rfl rfl ((q_assign rfl rfl)) (sw_nil (post_then (cw_seq (cw_region (sr rfl rfl rfl ((q_move rfl rfl)) (sr rfl rfl rfl ((q_gtr rfl rfl rfl)) (sw_nil (post_then ?_))))))))
    have e0 : ((n : Int) - (((⟨none, 0, 0⟩ : SlV).cap : Nat) - ((⟨none, 0, 0⟩ : SlV).len : Nat))) = (n : Int) := by simp
    rw [e0]
    refine cw_cond rfl (fun h2 => ?_) (fun h2 => ?_)
    · skip
      have h3 : 0 < n := by simp only [decide_eq_true_eq] at h2; omega
      refine cw_region (sr rfl rfl rfl ((q_move rfl rfl)) (sr rfl rfl rfl ((q_move rfl rfl)) (sr rfl rfl rfl ((q_capV rfl (.cons rfl inferInstance (.nil)))) ?_)))
      refine sr rfl rfl rfl ((q_slicePH (m := 0) rfl rfl rfl ⟨rfl, Nat.le_refl _, by simp [maxLen]⟩ (fun _ => by simp))) ?_
      refine sr rfl rfl rfl ((q_move rfl rfl)) ?_
      refine sw_x rfl rfl rfl (e_appendZ (k := n) rfl (.cons rfl inferInstance (.cons rfl inferInstance .nil)) Tryz.underlying3 h3 (by decide) (by omega) (by decide)) (fun s22 => ?_)
      refine sw_imp fun hs22 => (sr rfl rfl rfl ((q_move rfl rfl)) (sr rfl rfl rfl ((q_lenV rfl (.cons rfl inferInstance (.nil)))) ?_))
      refine sr rfl rfl rfl ((q_slicePH rfl rfl rfl hs22 (fun _ => by simp))) ?_
      refine sr rfl rfl rfl ((q_assign rfl rfl)) (sw_nil (post_then (cw_seq (cw_region (sr rfl rfl rfl ((q_move rfl rfl)) (sr rfl rfl rfl ((q_assign rfl rfl)) (sw_nil (post_then (cw_ret (post_ret1 rfl (resOk_tmp rfl) ?_))))))))))
      exact fun w' hw => ⟨s22.sub 1 0 0, rfl, trivial, ownU_cut (α := SlV) hw⟩
    · skip
      have h3 : n = 0 := by simp only [decide_eq_false_iff_not] at h2; omega
      refine cw_skip (post_then (cw_seq (cw_region (sr rfl rfl rfl ((q_move rfl rfl)) (sr rfl rfl rfl ((q_assign rfl rfl)) (sw_nil (post_then (cw_ret (post_ret1 rfl (resOk_tmp rfl) ?_)))))))))
      exact fun w' hw => ⟨⟨none, 0, 0⟩, rfl, trivial, hw.addNil (α := SlV) 28⟩
theorem flat_take1 {ls : List (List SlV)} {k : Nat} (hk : k < ls.length) : (ls.take (k + 1)).flatten = (ls.take k).flatten ++ nth ls k := by
  rw [List.take_succ_eq_append_getElem hk, List.flatten_append, nth_get hk]; simp
theorem flat_le {ls : List (List SlV)} (k : Nat) : (ls.take k).flatten.length ≤ ls.flatten.length := by
  have h : ls.flatten = (ls.take k).flatten ++ (ls.drop k).flatten := by rw [← List.flatten_append, List.take_append_drop]
  rw [h, List.length_append]; omega
theorem concat_spec (sv : Value) (ss : List SlV) (ls : List (List SlV)) (w : World) (hs : Stb w [] (RdL sv ss)) (hn : ss.length = ls.length) (hr : ∀ i, i < ls.length → Stb w [] (RdL (nth ss i).v (nth ls i))) (htot : ls.flatten.length ≤ 100000) :
    Calls Tryz.prog 111 #[sv] w fun e w' => ∃ s : SlV, e = .returned s.v ∧ True ∧ Cl w [] [ownL 28 s.v ls.flatten] w' := by
  have hL := rd_len hs.here
  refine calls_cw (vs := [_]) Tryz.func111 rfl Tryz.ntmps111 rfl (Cl.start0 w) (cw_seq (cw_region (sr rfl rfl rfl ((q_assign rfl rfl)) (sw_nil (post_then (cw_seq (cw_region (sr rfl rfl rfl ((q_assign rfl rfl)) (sw_nil (post_then (cw_seq (cw_seq (cw_region (sr rfl rfl rfl ((q_move rfl rfl)) ?_))))))))))))))
  refine sr rfl rfl rfl ((q_len rfl (.cons rfl inferInstance (.nil)) (by exact fun w hw => Stb.cl (by assumption) hw))) ?_
  refine sr rfl rfl rfl ((q_move rfl rfl)) (sw_nil (post_then (cw_block ?_)))
  refine cw_loop (S := Nat) (fun k => [(0, [], sv), (3, [], .int .i64 ((ls.take k).flatten.length : Nat)), (9, [], sv), (10, [], .int .i64 ss.length), (11, [], .int .i64 k)]) (fun _ => Cl w [] []) (fun k => k ≤ ls.length) (fun k => ls.length - k) 0 (Nat.zero_le _) (by exact .cons rfl (.cons rfl (.cons rfl (.cons rfl (.cons rfl .nil))))) (fun _ h => h) ?_
  intro k hk
  have hfk := flat_le (ls := ls) k
  refine cw_seq (cw_region (sr rfl rfl rfl ((q_lss rfl rfl rfl)) (sw_nil (post_then (cw_seq ?_)))))
  refine cw_cond rfl (fun h => ?_) (fun h => ?_)
  · skip
    have hk' : k < ls.length := by simp only [decide_eq_true_eq] at h; omega
    have hrk := hr k hk'
    have hf1 := flat_take1 hk'
    have hfk1 := flat_le (ls := ls) (k + 1)
    rw [hf1, List.length_append] at hfk1
    refine cw_skip (post_then (cw_seq (cw_block (cw_seq (cw_region ?_)))))
    refine sr rfl rfl rfl ((q_indexN rfl rfl rfl (by exact fun w hw => Stb.cl (by assumption) hw) (by intro hc; omega))) ?_
    refine sr rfl rfl rfl ((q_loadEl rfl rfl rfl (by exact fun w hw => Stb.cl (by assumption) hw) (by intro hc; omega))) ?_
    refine sr rfl rfl rfl ((q_assign rfl rfl)) (sw_nil (post_then (cw_seq (cw_region (sr rfl rfl rfl ((q_move rfl rfl)) (sr rfl rfl rfl ((q_move rfl rfl)) ?_))))))
    refine sr rfl rfl rfl ((q_len rfl (.cons rfl inferInstance (.nil)) (by exact fun w hw => Stb.cl (by assumption) hw))) ?_
    refine sr rfl rfl rfl ((q_add rfl rfl rfl (by intro hc; omega))) ?_
    refine sr rfl rfl rfl ((q_assign rfl rfl)) (sw_nil (post_then (cw_seq (cw_region (sr rfl rfl rfl ((q_move rfl rfl)) (sr rfl rfl rfl ((q_lss rfl rfl rfl)) (sw_nil (post_then ?_))))))))
    refine cw_cond rfl (fun h2 => ?_) (fun h2 => ?_)
    · skip
      exfalso
      simp only [decide_eq_true_eq] at h2; omega
    · skip
      refine cw_skip (post_blk (post_then (cw_region ?_)))
      refine sr rfl rfl rfl ((q_add rfl rfl rfl (by intro hc; omega))) ?_
      refine sr rfl rfl rfl ((q_move rfl rfl)) (sw_nil ?_)
      refine post_next (k + 1) ?_ (fun _ h => h) (by omega) (by omega)
      rw [hf1, List.length_append]
      exact (by exact .cons rfl (.cons rfl (.cons rfl (.cons rfl (.cons rfl .nil)))))
  · skip
    have hk' : k = ls.length := by simp only [decide_eq_false_iff_not] at h; omega
    subst hk'
    rw [List.take_length]
    refine cw_exit (post_then_x (post_then_x (post_blk_eq (post_then (cw_seq (cw_region (sr rfl rfl rfl ((q_move rfl rfl)) ?_)))))))
    refine sw_x rfl rfl rfl (e_call (CanCall.mk Tryz.call136) rfl (.cons rfl inferInstance (.cons rfl inferInstance (.nil))) (fun w hw => grow_spec _ htot w)) (fun s24 => ?_)
    refine sw_imp fun _ => (sr rfl rfl rfl ((q_assign rfl rfl)) (sw_nil (post_then (cw_seq (cw_seq (cw_region (sr rfl rfl rfl ((q_move rfl rfl)) ?_)))))))
    refine sr rfl rfl rfl ((q_len rfl (.cons rfl inferInstance (.nil)) (by exact fun w hw => Stb.cl (by assumption) hw))) ?_
    refine sr rfl rfl rfl ((q_move rfl rfl)) (sw_nil (post_then (cw_block ?_)))
    refine cw_loop (S := Nat × SlV) (fun y => [(6, [], y.2.v), (25, [], sv), (26, [], .int .i64 ss.length), (27, [], .int .i64 y.1)]) (fun y => Cl w [] [ownL 28 y.2.v (ls.take y.1).flatten]) (fun y => y.1 ≤ ls.length) (fun y => ls.length - y.1) (0, s24) (Nat.zero_le _) (by exact .cons rfl (.cons rfl (.cons rfl (.cons rfl .nil)))) (fun _ h => h) ?_
    rintro ⟨j, s6⟩ hj
    dsimp only at hj ⊢
    have hfj := flat_le (ls := ls) j
    refine cw_seq (cw_region (sr rfl rfl rfl ((q_lss rfl rfl rfl)) (sw_nil (post_then (cw_seq ?_)))))
    refine cw_cond rfl (fun h2 => ?_) (fun h2 => ?_)
    · skip
      have hj' : j < ls.length := by simp only [decide_eq_true_eq] at h2; omega
      have hrk := hr j hj'
      have hf1 := flat_take1 hj'
      have hfk1 := flat_le (ls := ls) (j + 1)
      rw [hf1, List.length_append] at hfk1
      refine cw_skip (post_then (cw_seq (cw_block (cw_seq (cw_region ?_)))))
      refine sr rfl rfl rfl ((q_indexN rfl rfl rfl (by exact fun w hw => Stb.cl (by assumption) hw) (by intro hc; omega))) ?_
      refine sr rfl rfl rfl ((q_loadEl rfl rfl rfl (by exact fun w hw => Stb.cl (by assumption) hw) (by intro hc; omega))) ?_
      refine sr rfl rfl rfl ((q_assign rfl rfl)) (sw_nil (post_then (cw_region (sr rfl rfl rfl ((q_move rfl rfl)) (sr rfl rfl rfl ((q_move rfl rfl)) ?_)))))
      refine sw_x rfl rfl rfl (e_append (i := 0) rfl (.cons rfl inferInstance (.cons rfl inferInstance (.nil))) rfl rfl (by exact fun w hw => Stb.cl (by assumption) hw) (by omega) rfl) (fun s33 => ?_)
      refine sr rfl rfl rfl ((q_assign rfl rfl)) (sw_nil (post_blk (post_then (cw_region ?_))))
      refine sr rfl rfl rfl ((q_add rfl rfl rfl (by intro hc; omega))) ?_
      refine sr rfl rfl rfl ((q_move rfl rfl)) (sw_nil ?_)
      refine post_next (j + 1, s33) (by exact .cons rfl (.cons rfl (.cons rfl (.cons rfl .nil)))) (fun w3 hw3 => ?_) (by simp only; omega) (by simp only; omega)
      rw [hf1]; exact hw3
    · skip
      have hj' : j = ls.length := by simp only [decide_eq_false_iff_not] at h2; omega
      subst hj'
      rw [List.take_length]
      refine cw_exit (post_then_x (post_then_x (post_blk_eq (post_then (cw_seq (cw_region (sr rfl rfl rfl ((q_move rfl rfl)) (sr rfl rfl rfl ((q_assign rfl rfl)) (sw_nil (post_then (cw_ret (post_ret1 rfl (resOk_tmp rfl) ?_))))))))))))
      exact fun w' hw => ⟨s6, rfl, trivial, hw⟩
end Go.Proofs.YtomjbfeafodfbaaGreat

set_option autoImplicit false
set_option maxRecDepth 100000
namespace Go.Proofs.YtomjbfeafodfbaaGreat
open Go.Sx
open Enc (enc val)
theorem rdl_one {sv : Value} {l l' : List Int} {w : World} (h : RdL sv l w) (h' : RdL sv l' w) : l = l' := by
  obtain ⟨a, n, c, e1, e2, _, _, e3⟩ := h
  obtain ⟨a', n', c', f1, f2, _, _, f3⟩ := h'
  rw [e1] at f1
  simp only [Value.slice.injEq] at f1
  obtain ⟨rfl, rfl, rfl⟩ := f1
  apply List.ext_getElem (by omega)
  intro i hi hi'
  obtain ⟨b, g1, g2⟩ := e3 i l[i] 0 (.int .i64 l[i]) (List.getElem?_eq_getElem hi) rfl
  obtain ⟨b', g3, g4⟩ := f3 i l'[i] 0 (.int .i64 l'[i]) (List.getElem?_eq_getElem hi') rfl
  rw [g1] at g3; cases g3
  rw [g2] at g4
  simpa using g4
/-- A list of lists: the slices, and what they read as. -/
structure Mt (w : World) (sv : Value) (vs : List SlV) (ls : List (List Int)) : Prop where
  l : RdL sv vs w
  n : vs.length = ls.length
  r : ∀ i, i < ls.length → RdL (nth vs i).v (nth ls i) w
theorem Mt.stb {w : World} {sv : Value} {vs : List SlV} {ls : List (List Int)} (h : Mt w sv vs ls) : Stb w [] (fun w' => Mt w' sv vs ls) := ⟨fun w' k => ⟨(rd_stb h.l).stb w' k, h.n, fun i hi => (rd_stb (h.r i hi)).stb w' k⟩⟩
theorem content {w : World} {sv : Value} {vs : List SlV} {ls : List (List Int)} (h : Mt w sv vs ls) : ∃ c : SlV → List Int, ∀ i, i < ls.length → c (nth vs i) = nth ls i := by
  classical
  refine ⟨fun s => if hh : ∃ i, i < ls.length ∧ nth vs i = s then nth ls hh.choose else [], fun i hi => ?_⟩
  have hh : ∃ j, j < ls.length ∧ nth vs j = nth vs i := ⟨i, hi, rfl⟩
  simp only [hh, dif_pos]
  have h1 := h.r _ hh.choose_spec.1
  rw [hh.choose_spec.2] at h1
  exact rdl_one h1 (h.r i hi)
def rowOk (m : Nat) (l : List Int) : Bool := vecB l && decide (l.length = m)
theorem cut1_spec (b : Nat) (sv : SlV) (vs : List SlV) (ls : List (List Int)) (c : SlV → List Int) (hc : ∀ i, i < ls.length → c (nth vs i) = nth ls i) : PredL Tryz.prog 112 #[.pointer (some ⟨b, 0, none⟩)] (fun s => !rowOk (nth ls 0).length (c s)) (fun w => BlkAt b [sv.v] 31 w ∧ Mt w sv.v vs ls) vs := fun s hs w ⟨hR1, hR2⟩ => by
  have hb := blk_stb hR1
  have hl : Stb w [] (RdL sv.v vs) := rd_stb hR2.l
  obtain ⟨i, hi, rfl⟩ := List.getElem_of_mem hs
  have hn := hR2.n
  have e : vs[i] = nth vs i := (nth_get hi).symm
  rw [e]
  dsimp only
  rw [hc i (by omega)]
  have h0 := rd_stb (hR2.r 0 (by omega))
  have h1 := rd_stb (hR2.r i (by omega))
  refine calls_cw (vs := [_, _]) Tryz.func112 rfl Tryz.ntmps112 rfl (Cl.start0 w) (cw_seq (cw_region (sr rfl rfl rfl ((q_assign rfl rfl)) (sw_nil (post_then (cw_seq (cw_region (sr rfl rfl rfl ((q_move rfl rfl)) ?_))))))))
  refine sw_step rfl rfl rfl (q_call (CanCall.mk Tryz.call113) rfl (.cons rfl inferInstance (.nil)) (fun _ w hw => callq hw (vector_spec _ _ w (by exact stb_arg hw (by assumption))))) ?_
  refine sr rfl rfl rfl ((q_not rfl rfl)) (sr rfl rfl rfl ((q_move rfl rfl)) (sr rfl rfl rfl ((q_move rfl rfl)) ?_))
  refine sr rfl rfl rfl ((q_len rfl (.cons rfl inferInstance (.nil)) (by exact fun w hw => Stb.cl (by assumption) hw))) ?_
  refine sr rfl rfl rfl ((q_loadS rfl rfl (fun w hw => Stb.cl (by assumption) hw) rfl)) ?_
  refine sr rfl rfl rfl ((q_indexN rfl rfl rfl (by exact fun w hw => Stb.cl (by assumption) hw) (by intro hc; (simp only [List.length_set, List.length_append, List.length_cons, List.length_nil, List.length_replicate, List.length_take, List.length_drop, List.length_map]; omega)))) ?_
  refine sr rfl rfl rfl ((q_loadEl rfl rfl rfl (by exact fun w hw => Stb.cl (by assumption) hw) (by intro hc; (simp only [List.length_set, List.length_append, List.length_cons, List.length_nil, List.length_replicate, List.length_take, List.length_drop, List.length_map]; omega)))) ?_
  refine sr rfl rfl rfl ((q_len rfl (.cons rfl inferInstance (.nil)) (by exact fun w hw => Stb.cl (by assumption) hw))) ?_
  refine sr rfl rfl rfl ((q_neq rfl rfl rfl)) (sr rfl rfl rfl ((q_or2 rfl rfl rfl)) (sr rfl rfl rfl ((q_assign rfl rfl)) (sw_nil (post_then (cw_ret (post_ret1 rfl (resOk_tmp rfl) ?_))))))
  refine fun w' hw => ⟨?_, (fun w h => Cl.sel (by exact .nil _) w h) _ hw⟩
  simp only [rowOk]
  by_cases e1 : (nth ls i).length = (nth ls 0).length <;> simp [e1] <;> intros <;> omega
def cutE (fl pl : List (List Int)) (least : Int) : Int := if 2000 < fl.length ∨ 2000 < pl.length then 4 else if inB least 1 100 && vectorsB (fl ++ pl) then 0 else 2
theorem two_readsG {α : Type} [Inhabited α] {R : SlV → α → World → Prop} {w : World} {a b : SlV} {x y : α} (ha : Stb w [] (R a x)) (hb : Stb w [] (R b y)) (i : Nat) (hi : i < [x, y].length) : Stb w [] (R (nth [a, b] i) (nth [x, y] i)) := by
  match i, hi with
  | 0, _ => exact ha
  | 1, _ => exact hb
theorem mt_append {w : World} {s : SlV} {sf sp : Value} {fv pv : List SlV} {fl pl : List (List Int)} (hs : RdL s.v (fv ++ pv) w) (hf : Mt w sf fv fl) (hp : Mt w sp pv pl) : Mt w s.v (fv ++ pv) (fl ++ pl) := by
  refine ⟨hs, by simp [hf.n, hp.n], fun i hi => ?_⟩
  have n1 := hf.n
  have n2 := hp.n
  simp only [List.length_append] at hi
  by_cases h : i < fl.length
  · have e1 : nth (fv ++ pv) i = nth fv i := by simp only [nth, List.getD]; rw [List.getElem?_append_left (by omega)]
    have e2 : nth (fl ++ pl) i = nth fl i := by simp only [nth, List.getD]; rw [List.getElem?_append_left h]
    rw [e1, e2]; exact hf.r i h
  · have e1 : nth (fv ++ pv) i = nth pv (i - fl.length) := by simp only [nth, List.getD]; rw [List.getElem?_append_right (by omega), n1]
    have e2 : nth (fl ++ pl) i = nth pl (i - fl.length) := by simp only [nth, List.getD]; rw [List.getElem?_append_right (by omega)]
    rw [e1, e2]; exact hp.r _ (by omega)
theorem cutting_spec (sf sp : SlV) (fv pv : List SlV) (fl pl : List (List Int)) (least : Int) (w : World) (hf : Stb w [] (fun w' => Mt w' sf.v fv fl)) (hp : Stb w [] (fun w' => Mt w' sp.v pv pl)) : Calls Tryz.prog 71 #[sf.v, sp.v, .int .i64 least] w fun e w' => e = .returned (.int .i64 (cutE fl pl least)) ∧ Cl w [] [] w' := by
  have h1 : Stb w [] (RdL sf.v fv) := stb_map hf fun _ h => h.l
  have h2 : Stb w [] (RdL sp.v pv) := stb_map hp fun _ h => h.l
  have n1 := hf.here.n
  have n2 := hp.here.n
  refine calls_cw (vs := [_, _, _]) Tryz.func71 rfl Tryz.ntmps71 rfl (Cl.start0 w) (cw_seq (cw_region (sr rfl rfl rfl ((q_assign rfl rfl)) (sw_nil (post_then (cw_seq (cw_seq (cw_region (sr rfl rfl rfl ((q_move rfl rfl)) ?_)))))))))
  refine sr rfl rfl rfl ((q_len rfl (.cons rfl inferInstance (.nil)) (by exact fun w hw => Stb.cl (by assumption) hw))) ?_
  refine sr rfl rfl rfl ((q_gtr rfl rfl rfl)) (sr rfl rfl rfl ((q_move rfl rfl)) (sr rfl rfl rfl ((q_move rfl rfl)) ?_))
  refine sr rfl rfl rfl ((q_len rfl (.cons rfl inferInstance (.nil)) (by exact fun w hw => Stb.cl (by assumption) hw))) ?_
  refine sr rfl rfl rfl ((q_gtr rfl rfl rfl)) (sr rfl rfl rfl ((q_or2 rfl rfl rfl)) (sw_nil (post_then ?_)))
  refine cw_cond rfl (fun h => ?_) (fun h => ?_)
  · skip
    have h3 : 2000 < fl.length ∨ 2000 < pl.length := by simp only [Bool.or_eq_true, decide_eq_true_eq] at h; omega
    refine cw_seq (cw_region (sr rfl rfl rfl ((q_assign rfl rfl)) (sw_nil (post_then (cw_ret (post_then_r (post_ret1 rfl (resOk_tmp rfl) ?_)))))))
    exact fun w' hw => ⟨by rw [cutE, if_pos h3], (fun w h => Cl.sel (by exact .nil _) w h) _ hw⟩
  · skip
    have h3 : ¬ (2000 < fl.length ∨ 2000 < pl.length) := by simp only [Bool.or_eq_false_iff, decide_eq_false_iff_not] at h; omega
    refine cw_skip (post_then (cw_seq (cw_region (sr rfl rfl rfl ((q_move rfl rfl)) (sr rfl rfl rfl ((q_move rfl rfl)) ?_)))))
    refine sw_x rfl rfl rfl (e_buildL (l := [sf, sp]) rfl (.cons rfl inferInstance (.cons rfl inferInstance (.nil))) rfl rfl rfl rfl) (fun s18 => ?_)
    refine sw_x rfl rfl rfl (e_call (CanCall.mk Tryz.call111) rfl (.cons rfl inferInstance (.nil)) (fun w hw => concat_spec _ [sf, sp] [fv, pv] w (stb_own hw (by exact .head _)) rfl (two_readsG (R := fun s l => RdL s.v l) (stb_arg hw h1) (stb_arg hw h2)) (by simp; omega))) (fun s19 => ?_)
    refine sw_imp fun _ => ?_
    have ef : [fv, pv].flatten = fv ++ pv := by simp
    rw [ef]
    refine sw_x rfl rfl rfl (e_alloc rfl) (fun b7 => ?_)
    refine sw_eff0 rfl rfl (e_store (i := 0) rfl rfl rfl rfl rfl rfl rfl rfl) (sw_nil (post_then (cw_seq (cw_seq (cw_region (sr rfl rfl rfl ((q_move rfl rfl)) (sw_step rfl rfl rfl (q_call (CanCall.mk Tryz.call70) rfl (.cons rfl inferInstance (.cons rfl inferInstance (.cons rfl inferInstance (.nil)))) (fun _ w hw => callq hw (within_spec _ _ _ w))) (sr rfl rfl rfl ((q_not rfl rfl)) (sr rfl rfl rfl ((q_move rfl rfl)) ?_)))))))))
    refine sr rfl rfl rfl ((q_loadC rfl rfl (by exact .head _) rfl)) ?_
    refine sr rfl rfl rfl ((q_func_l rfl (.cons rfl inferInstance (.nil)))) ?_
    have hmt : ∀ {w1 : World} {H : List Asn}, Cl w [] H w1 → ownL 28 s19.v (fv ++ pv) ∈ H → Mt w1 s19.v (fv ++ pv) (fl ++ pl) := fun hw hm => mt_append (rd_own hw hm) (hf.cl hw) (hp.cl hw)
    refine sw_le (C' := fun w1 => (∃ c : SlV → List Int, ∀ i, i < (fl ++ pl).length → c (nth (fv ++ pv) i) = nth (fl ++ pl) i) ∧ Cl w [] [blk b7 [s19.v] 31, ownL 28 s19.v (fv ++ pv), ownL 31 s18.v [sf, sp]] w1) (fun w1 h => ⟨content (hmt h (.tail _ (.head _))), h⟩) (sw_imp fun hcc => ?_)
    obtain ⟨c, hc⟩ := hcc
    refine sw_step rfl rfl rfl (q_call (CanCall.mk Tryz.call95) rfl (.cons rfl inferInstance (.cons rfl inferInstance (.nil))) (fun _ w1 hw => callq hw (containsRow_spec _ (fv ++ pv) _ _ _ _ w1 (stb_own hw (by exact .tail _ (.head _))) ⟨fun w' k => ⟨(blk_stb (blk_here hw (by exact .head _))).stb w' k, (hmt hw (by exact .tail _ (.head _))).stb.stb w' k⟩⟩ (CanCall.mk Tryz.call112) (cut1_spec b7 s19 (fv ++ pv) (fl ++ pl) c hc)))) ?_
    refine sr rfl rfl rfl ((q_or2 rfl rfl rfl)) (sw_nil (post_then ?_))
    have hany : ((fv ++ pv).any fun s => !rowOk (nth (fl ++ pl) 0).length (c s)) = !vectorsB (fl ++ pl) := by
      rw [← List.not_all_eq_any_not]
      congr 1
      rw [Bool.eq_iff_iff, List.all_eq_true, vectorsB, List.all_eq_true]
      constructor
      · intro h5 l hl
        obtain ⟨i, hi, rfl⟩ := List.getElem_of_mem hl
        have h6 := h5 (nth (fv ++ pv) i) (by rw [nth_get (by simp at hi ⊢; omega)]; exact List.getElem_mem _)
        rw [hc i hi, nth_get hi] at h6
        exact h6
      · intro h5 s hs
        obtain ⟨i, hi, rfl⟩ := List.getElem_of_mem hs
        have hi2 : i < (fl ++ pl).length := by simp at hi ⊢; omega
        have h6 := h5 (nth (fl ++ pl) i) (by rw [nth_get hi2]; exact List.getElem_mem _)
        rw [← nth_get hi, hc i hi2]
        exact h6
    refine cw_cond rfl (fun h4 => ?_) (fun h4 => ?_)
    · skip
      have h5 : (inB least 1 100 && vectorsB (fl ++ pl)) = false := by
        rw [hany] at h4
        cases h6 : inB least 1 100 <;> cases h7 : vectorsB (fl ++ pl) <;> simp_all
      refine cw_seq (cw_region (sr rfl rfl rfl ((q_assign rfl rfl)) (sw_nil (post_then (cw_ret (post_then_r (post_ret1 rfl (resOk_tmp rfl) ?_)))))))
      exact fun w' hw => ⟨by rw [cutE, if_neg h3, h5]; rfl, (fun w h => Cl.sel (by exact .nil _) w h) _ hw⟩
    · skip
      have h5 : (inB least 1 100 && vectorsB (fl ++ pl)) = true := by
        rw [hany] at h4
        cases h6 : inB least 1 100 <;> cases h7 : vectorsB (fl ++ pl) <;> simp_all
      refine cw_skip (post_then (cw_seq (cw_region (sr rfl rfl rfl ((q_assign rfl rfl)) (sw_nil (post_then (cw_ret (post_ret1 rfl (resOk_tmp rfl) ?_))))))))
      exact fun w' hw => ⟨by rw [cutE, if_neg h3, h5]; rfl, (fun w h => Cl.sel (by exact .nil _) w h) _ hw⟩
end Go.Proofs.YtomjbfeafodfbaaGreat

/- Words of 64 bits as numbers: and, or, and-not, shifts; the count of ones. General lemmas, no program text. -/
set_option autoImplicit false
namespace Go.Sx
def andN (a b : Nat) : Nat := a ^^^ (a &&& b)
section
variable {P : Program} {n : Fr} {E : Env} {C : World → Prop} {cs : List Bool} {o : Oper}
theorem ofInt_nat {a : Int} (h : 0 ≤ a ∧ a < 18446744073709551616) : (BitVec.ofInt 64 a).toNat = a.toNat := by
  rw [BitVec.toNat_ofInt]
  simp only [Int.reducePow, Nat.reducePow]
  omega
theorem wrap_u64 {a : Nat} (h : a < 18446744073709551616) : IntKind.u64.wrap (a : Int) = a := by
  simp only [IntKind.wrap, IntKind.signed, IntKind.bits]
  simp
  omega
theorem q_andU {t t' : TypeId} {x y : Operand} {cx cy : List Bool} {a b : Int} (ho : o.op = .binOp .and t x y t') (hx : evl E x = some (cx, .int .u64 a)) (hy : evl E y = some (cy, .int .u64 b)) [sx : Sub cx cs] [sy : Sub cy cs]
    (h : AllT cs → (0 ≤ a ∧ a < 18446744073709551616) ∧ 0 ≤ b ∧ b < 18446744073709551616) : OpR P n E C cs o (.int .u64 ((a.toNat &&& b.toNat : Nat) : Int)) :=
  fun e he hc => bin_run (C := C) (r := .int .u64 ((a.toNat &&& b.toNat : Nat) : Int)) ho hx hy sx sy rfl (fun w => by
    have hh := h hc
    rw [binOp_and]
    have h1 : (BitVec.ofInt 64 a &&& BitVec.ofInt 64 b).toNat = a.toNat &&& b.toNat := by rw [BitVec.toNat_and, ofInt_nat hh.1, ofInt_nat hh.2]
    have h2 : a.toNat &&& b.toNat ≤ a.toNat := Nat.and_le_left
    simp only [Op.intBits, IntKind.bits, Sem.run_pure]
    exact congrArg (fun k => Result.ok (Value.int IntKind.u64 k) w) ((wrap_u64 (show (BitVec.ofInt 64 a &&& BitVec.ofInt 64 b).toNat < _ by rw [h1]; omega)).trans (congrArg (fun k : Nat => (k : Int)) h1))) e he hc
theorem q_orU {t t' : TypeId} {x y : Operand} {cx cy : List Bool} {a b : Int} (ho : o.op = .binOp .or t x y t') (hx : evl E x = some (cx, .int .u64 a)) (hy : evl E y = some (cy, .int .u64 b)) [sx : Sub cx cs] [sy : Sub cy cs]
    (h : AllT cs → (0 ≤ a ∧ a < 18446744073709551616) ∧ 0 ≤ b ∧ b < 18446744073709551616) : OpR P n E C cs o (.int .u64 ((a.toNat ||| b.toNat : Nat) : Int)) :=
  fun e he hc => bin_run (C := C) (r := .int .u64 ((a.toNat ||| b.toNat : Nat) : Int)) ho hx hy sx sy rfl (fun w => by
    have hh := h hc
    rw [binOp_or]
    have h1 : (BitVec.ofInt 64 a ||| BitVec.ofInt 64 b).toNat = a.toNat ||| b.toNat := by rw [BitVec.toNat_or, ofInt_nat hh.1, ofInt_nat hh.2]
    have h2 : a.toNat ||| b.toNat < 2 ^ 64 := Nat.or_lt_two_pow (by omega) (by omega)
    simp only [Op.intBits, IntKind.bits, Sem.run_pure]
    exact congrArg (fun k => Result.ok (Value.int IntKind.u64 k) w) ((wrap_u64 (show (BitVec.ofInt 64 a ||| BitVec.ofInt 64 b).toNat < _ by rw [h1]; omega)).trans (congrArg (fun k : Nat => (k : Int)) h1))) e he hc
theorem andN_le (a b : Nat) : andN a b ≤ a := by
  have : andN a b = a &&& (andN a b) := by
    apply Nat.eq_of_testBit_eq
    intro i
    simp only [andN, Nat.testBit_xor, Nat.testBit_and]
    cases a.testBit i <;> cases b.testBit i <;> rfl
  rw [this]; exact Nat.and_le_left
theorem q_andNU {t t' : TypeId} {x y : Operand} {cx cy : List Bool} {a b : Int} (ho : o.op = .binOp .andNot t x y t') (hx : evl E x = some (cx, .int .u64 a)) (hy : evl E y = some (cy, .int .u64 b)) [sx : Sub cx cs] [sy : Sub cy cs]
    (h : AllT cs → (0 ≤ a ∧ a < 18446744073709551616) ∧ 0 ≤ b ∧ b < 18446744073709551616) : OpR P n E C cs o (.int .u64 ((andN a.toNat b.toNat : Nat) : Int)) :=
  fun e he hc => bin_run (C := C) (r := .int .u64 ((andN a.toNat b.toNat : Nat) : Int)) ho hx hy sx sy rfl (fun w => by
    have hh := h hc
    rw [binOp_andNot]
    have h1 : (BitVec.ofInt 64 a &&& ~~~BitVec.ofInt 64 b).toNat = andN a.toNat b.toNat := by
      apply Nat.eq_of_testBit_eq
      intro i
      rw [BitVec.toNat_and, Nat.testBit_and, BitVec.testBit_toNat, BitVec.testBit_toNat, BitVec.getLsbD_not]
      rw [← BitVec.testBit_toNat, ← BitVec.testBit_toNat, ofInt_nat hh.1, ofInt_nat hh.2]
      simp only [andN, Nat.testBit_xor, Nat.testBit_and]
      by_cases hi : i < 64
      · simp only [hi, decide_true, Bool.true_and]
        cases a.toNat.testBit i <;> cases b.toNat.testBit i <;> rfl
      · have : a.toNat.testBit i = false := Nat.testBit_lt_two_pow (Nat.lt_of_lt_of_le (show a.toNat < 2 ^ 64 by omega) (Nat.pow_le_pow_right (by decide) (by omega)))
        simp [this]
    have h2 := andN_le a.toNat b.toNat
    simp only [Op.intBits, IntKind.bits, Sem.run_pure]
    exact congrArg (fun k => Result.ok (Value.int IntKind.u64 k) w) ((wrap_u64 (show (BitVec.ofInt 64 a &&& ~~~BitVec.ofInt 64 b).toNat < _ by rw [h1]; omega)).trans (congrArg (fun k : Nat => (k : Int)) h1))) e he hc
theorem q_shrN {t t' : TypeId} {x y : Operand} {cx cy : List Bool} {yk : IntKind} {a k : Nat} (ho : o.op = .binOp .shr t x y t') (hx : evl E x = some (cx, .int .u64 (a : Int))) (hy : evl E y = some (cy, .int yk (k : Int))) [sx : Sub cx cs] [sy : Sub cy cs]
    (h : AllT cs → k ≤ 64) : OpR P n E C cs o (.int .u64 ((a / 2 ^ k : Nat) : Int)) := by
  have := q_shr (P := P) (n := n) (C := C) (cs := cs) ho hx hy (fun hc => ⟨Int.natCast_nonneg _, by have := h hc; simp only [IntKind.bits]; omega⟩)
  simpa using this
theorem q_andK {t t' : TypeId} {x y : Operand} {cx cy : List Bool} {a b : Nat} (ho : o.op = .binOp .and t x y t') (hx : evl E x = some (cx, .int .u64 (a : Int))) (hy : evl E y = some (cy, .int .u64 (b : Int))) [sx : Sub cx cs] [sy : Sub cy cs]
    (h : AllT cs → a < 18446744073709551616 ∧ b < 18446744073709551616) : OpR P n E C cs o (.int .u64 ((a &&& b : Nat) : Int)) := by
  have := q_andU (P := P) (n := n) (C := C) (cs := cs) ho hx hy (fun hc => by have := h hc; omega)
  simpa using this
theorem q_orK {t t' : TypeId} {x y : Operand} {cx cy : List Bool} {a b : Nat} (ho : o.op = .binOp .or t x y t') (hx : evl E x = some (cx, .int .u64 (a : Int))) (hy : evl E y = some (cy, .int .u64 (b : Int))) [sx : Sub cx cs] [sy : Sub cy cs]
    (h : AllT cs → a < 18446744073709551616 ∧ b < 18446744073709551616) : OpR P n E C cs o (.int .u64 ((a ||| b : Nat) : Int)) := by
  have := q_orU (P := P) (n := n) (C := C) (cs := cs) ho hx hy (fun hc => by have := h hc; omega)
  simpa using this
theorem q_andNK {t t' : TypeId} {x y : Operand} {cx cy : List Bool} {a b : Nat} (ho : o.op = .binOp .andNot t x y t') (hx : evl E x = some (cx, .int .u64 (a : Int))) (hy : evl E y = some (cy, .int .u64 (b : Int))) [sx : Sub cx cs] [sy : Sub cy cs]
    (h : AllT cs → a < 18446744073709551616 ∧ b < 18446744073709551616) : OpR P n E C cs o (.int .u64 ((andN a b : Nat) : Int)) := by
  have := q_andNU (P := P) (n := n) (C := C) (cs := cs) ho hx hy (fun hc => by have := h hc; omega)
  simpa using this
theorem q_addZ {t t' : TypeId} {x y : Operand} {cx cy : List Bool} {a b z : Nat} (ho : o.op = .binOp .add t x y t') (hx : evl E x = some (cx, .int .u64 (a : Int))) (hy : evl E y = some (cy, .int .u64 (b : Int))) [sx : Sub cx cs] [sy : Sub cy cs]
    (h : a + b = z ∧ z < 18446744073709551616) : OpR P n E C cs o (.int .u64 (z : Int)) := by
  have := q_add_w (P := P) (n := n) (C := C) (cs := cs) ho hx hy
  rw [show (a : Int) + b = ((a + b : Nat) : Int) by omega, h.1, wrap_u64 h.2] at this
  exact this
theorem q_and127 {t t' : TypeId} {x y : Operand} {cx cy : List Bool} {a : Nat} (ho : o.op = .binOp .and t x y t') (hx : evl E x = some (cx, .int .i64 (a : Int))) (hy : evl E y = some (cy, .int .i64 127)) [sx : Sub cx cs] [sy : Sub cy cs]
    (ha : a < 9223372036854775808) : OpR P n E C cs o (.int .i64 ((a % 128 : Nat) : Int)) :=
  fun e he hc => bin_run (C := C) (r := .int .i64 ((a % 128 : Nat) : Int)) ho hx hy sx sy rfl (fun w => by
    rw [binOp_and]
    have h1 : (BitVec.ofInt 64 (a : Int) &&& BitVec.ofInt 64 127).toNat = a % 128 := by
      rw [BitVec.toNat_and, ofInt_nat (by omega), ofInt_nat (by decide)]
      exact Nat.and_two_pow_sub_one_eq_mod a 7
    simp only [Op.intBits, IntKind.bits, Sem.run_pure]
    have h2 : IntKind.i64.wrap ((a % 128 : Nat) : Int) = ((a % 128 : Nat) : Int) := IntWalk.i64_in _ (by omega)
    exact congrArg (fun k => Result.ok (Value.int IntKind.i64 k) w) ((congrArg (fun k : Nat => IntKind.i64.wrap (k : Int)) h1).trans h2)) e he hc
theorem q_shl1 {t t' : TypeId} {x y : Operand} {cx cy : List Bool} {yk : IntKind} {k : Nat} (ho : o.op = .binOp .shl t x y t') (hx : evl E x = some (cx, .int .u64 1)) (hy : evl E y = some (cy, .int yk (k : Int))) [sx : Sub cx cs] [sy : Sub cy cs]
    (hk : k < 64) : OpR P n E C cs o (.int .u64 ((2 ^ k : Nat) : Int)) := by
  have := q_shl (P := P) (n := n) (C := C) (cs := cs) ho hx hy (fun hc => ⟨Int.natCast_nonneg _, by simp only [IntKind.bits]; omega⟩)
  have h2 : 2 ^ k < 18446744073709551616 := by
    have := Nat.pow_lt_pow_right (a := 2) (by decide) hk
    simpa using this
  have e : IntKind.u64.wrap (1 * 2 ^ ((k : Int)).toNat) = ((2 ^ k : Nat) : Int) := by
    rw [Int.one_mul, Int.toNat_natCast, ← wrap_u64 h2, Int.natCast_pow]; rfl
  rw [e] at this
  exact this
end
def popN : Nat → Nat → Nat
  | 0, _ => 0
  | k + 1, x => x % 2 + popN k (x / 2)
theorem and_base (k a b c d : Nat) (ha : a < 2 ^ k) (hc : c < 2 ^ k) : (a + 2 ^ k * b) &&& (c + 2 ^ k * d) = (a &&& c) + 2 ^ k * (b &&& d) := by
  have hac : a &&& c < 2 ^ k := Nat.and_lt_two_pow _ hc
  apply Nat.eq_of_testBit_eq
  intro i
  rw [Nat.testBit_and, Nat.add_comm a, Nat.add_comm c, Nat.add_comm (a &&& c), Nat.testBit_two_pow_mul_add _ ha, Nat.testBit_two_pow_mul_add _ hc, Nat.testBit_two_pow_mul_add _ hac]
  split
  · rw [Nat.testBit_and]
  · rw [Nat.testBit_and]
/-- Pairs of digits in base 2^k, and a mask that keeps the first of each. -/
def pv (k : Nat) : List (Nat × Nat) → Nat
  | [] => 0
  | (a, b) :: ps => (a + 2 ^ k * b) + 2 ^ (2 * k) * pv k ps
def pm (k : Nat) : Nat → Nat
  | 0 => 0
  | n + 1 => (2 ^ k - 1) + 2 ^ (2 * k) * pm k n
def fst1 (k : Nat) : List (Nat × Nat) → Nat
  | [] => 0
  | (a, _) :: ps => a + 2 ^ (2 * k) * fst1 k ps
def snd1 (k : Nat) : List (Nat × Nat) → Nat
  | [] => 0
  | (_, b) :: ps => b + 2 ^ (2 * k) * snd1 k ps
theorem pow_twice (k : Nat) : 2 ^ (2 * k) = 2 ^ k * 2 ^ k := by rw [Nat.two_mul, Nat.pow_add]
theorem pair_lt {k a b : Nat} (ha : a < 2 ^ k) (hb : b < 2 ^ k) : a + 2 ^ k * b < 2 ^ (2 * k) := by
  have h : 2 ^ k * (b + 1) ≤ 2 ^ k * 2 ^ k := Nat.mul_le_mul_left _ hb
  rw [pow_twice, Nat.mul_add] at *
  omega
theorem mask_fst (k : Nat) : ∀ (ps : List (Nat × Nat)) (n : Nat), ps.length ≤ n → (∀ p ∈ ps, p.1 < 2 ^ k ∧ p.2 < 2 ^ k) → pv k ps &&& pm k n = fst1 k ps
  | [], n, _, _ => by simp [pv, fst1]
  | (a, b) :: ps, 0, h, _ => by simp at h
  | (a, b) :: ps, n + 1, h, hb => by
    have h1 := hb (a, b) (by simp)
    have ih := mask_fst k ps n (by simpa using h) (fun p hp => hb p (by simp [hp]))
    simp only [pv, pm, fst1]
    rw [and_base _ _ _ _ _ (pair_lt h1.1 h1.2) (by have := Nat.pow_le_pow_right (n := 2) (by decide) (show k ≤ 2 * k by omega); have h3 : 0 < 2 ^ k := Nat.two_pow_pos k; omega), ih]
    congr 1
    rw [Nat.and_two_pow_sub_one_eq_mod, Nat.add_mul_mod_self_left, Nat.mod_eq_of_lt h1.1]
theorem mask_snd (k : Nat) : ∀ (ps : List (Nat × Nat)) (n : Nat), ps.length ≤ n → (∀ p ∈ ps, p.1 < 2 ^ k ∧ p.2 < 2 ^ k) → (pv k ps / 2 ^ k) &&& pm k n = snd1 k ps
  | [], n, _, _ => by simp [pv, snd1]
  | (a, b) :: ps, 0, h, _ => by simp at h
  | (a, b) :: ps, n + 1, h, hb => by
    have h1 := hb (a, b) (by simp)
    have ih := mask_snd k ps n (by simpa using h) (fun p hp => hb p (by simp [hp]))
    have hp : 0 < 2 ^ k := Nat.two_pow_pos k
    simp only [pv, pm, snd1]
    have e : (a + 2 ^ k * b + 2 ^ (2 * k) * pv k ps) / 2 ^ k = (b + 2 ^ k * (pv k ps % 2 ^ k)) + 2 ^ (2 * k) * (pv k ps / 2 ^ k) := by
      rw [pow_twice]
      have e1 : a + 2 ^ k * b + 2 ^ k * 2 ^ k * pv k ps = a + 2 ^ k * (b + 2 ^ k * pv k ps) := by rw [Nat.mul_add, Nat.mul_assoc, Nat.add_assoc]
      rw [e1, Nat.add_mul_div_left _ _ hp, Nat.div_eq_of_lt h1.1, Nat.zero_add]
      have e2 := Nat.div_add_mod (pv k ps) (2 ^ k)
      have e3 : 2 ^ k * pv k ps = 2 ^ k * (2 ^ k * (pv k ps / 2 ^ k) + pv k ps % 2 ^ k) := by rw [e2]
      rw [e3, Nat.mul_add, Nat.mul_assoc]; omega
    rw [e, and_base _ _ _ _ _ (pair_lt h1.2 (Nat.mod_lt _ hp)) (by have := Nat.pow_le_pow_right (n := 2) (by decide) (show k ≤ 2 * k by omega); omega), ih]
    congr 1
    rw [Nat.and_two_pow_sub_one_eq_mod, Nat.add_mul_mod_self_left, Nat.mod_eq_of_lt h1.2]
def v2 (k : Nat) : List Nat → Nat
  | [] => 0
  | b :: bs => b + 2 ^ k * v2 k bs
theorem digits : ∀ (k x : Nat), x < 2 ^ k → ∃ bs : List Nat, bs.length = k ∧ (∀ b ∈ bs, b < 2) ∧ x = v2 1 bs ∧ popN k x = bs.sum
  | 0, x, h => ⟨[], rfl, by simp, by simp at h; simp [v2, h], rfl⟩
  | k + 1, x, h => by
    obtain ⟨bs, h1, h2, h3, h4⟩ := digits k (x / 2) (by rw [Nat.pow_succ] at h; omega)
    refine ⟨x % 2 :: bs, by simp [h1], fun b hb => ?_, ?_, ?_⟩
    · rcases List.mem_cons.1 hb with rfl | hb
      · omega
      · exact h2 b hb
    · simp only [v2, ← h3]; omega
    · simp only [popN, h4, List.sum_cons]
def adj : List Nat → List Nat
  | a :: b :: r => (a + b) :: adj r
  | _ => []
def prs : List Nat → List (Nat × Nat)
  | a :: b :: r => (a, b) :: prs r
  | _ => []
theorem adj_facts (k : Nat) : ∀ (m : Nat) (ds : List Nat), ds.length = 2 * m → v2 k ds = pv k (prs ds) ∧ fst1 k (prs ds) + snd1 k (prs ds) = v2 (2 * k) (adj ds) ∧ (adj ds).sum = ds.sum ∧ (adj ds).length = m ∧ (prs ds).length = m ∧ (∀ p ∈ prs ds, p.1 ∈ ds ∧ p.2 ∈ ds) ∧ ∀ d ∈ adj ds, ∃ a ∈ ds, ∃ b ∈ ds, d = a + b
  | 0, ds, h => by
    have : ds = [] := List.eq_nil_of_length_eq_zero (by omega)
    subst this
    simp [adj, prs, v2, pv, fst1, snd1]
  | m + 1, [], h => by simp at h
  | m + 1, [_], h => by simp at h; omega
  | m + 1, a :: b :: r, h => by
    obtain ⟨h1, h2, h3, h4, h5, h6, h7⟩ := adj_facts k m r (by simp at h; omega)
    refine ⟨?_, ?_, ?_, ?_, ?_, ?_, ?_⟩
    · simp only [v2, prs, pv, h1, pow_twice, Nat.mul_add, Nat.mul_assoc, Nat.add_assoc]
    · simp only [prs, fst1, snd1, adj, v2, ← h2, Nat.mul_add]; omega
    · simp only [adj, List.sum_cons, h3]; omega
    · simp [adj, h4]
    · simp [prs, h5]
    · intro p hp
      rcases List.mem_cons.1 hp with rfl | hp
      · simp
      · have := h6 p hp; simp [this]
    · intro d hd
      rcases List.mem_cons.1 hd with rfl | hd
      · exact ⟨a, by simp, b, by simp, rfl⟩
      · obtain ⟨x, hx, y, hy, e⟩ := h7 d hd
        exact ⟨x, by simp [hx], y, by simp [hy], e⟩
theorem fold_step (k m n : Nat) (ds : List Nat) (h : ds.length = 2 * m) (hn : m ≤ n) (hd : ∀ d ∈ ds, d < 2 ^ k) :
    (v2 k ds / 2 ^ k &&& pm k n) + (v2 k ds &&& pm k n) = v2 (2 * k) (adj ds) := by
  obtain ⟨h1, h2, h3, h4, h5, h6, h7⟩ := adj_facts k m ds h
  have hb : ∀ p ∈ prs ds, p.1 < 2 ^ k ∧ p.2 < 2 ^ k := fun p hp => ⟨hd _ (h6 p hp).1, hd _ (h6 p hp).2⟩
  rw [h1, mask_snd k _ n (by omega) hb, mask_fst k _ n (by omega) hb, ← h2, Nat.add_comm]
set_option maxHeartbeats 1000000 in
/-- The seven steps of the count. -/
theorem count_steps (x : Nat) (hx : x < 4294967296) : ∃ x1 x2 y x3 x4 x5 x6 : Nat,
    (x / 2 ^ 1 &&& 6148914691236517205) + (x &&& 6148914691236517205) = x1 ∧ (x1 / 2 ^ 2 &&& 3689348814741910323) + (x1 &&& 3689348814741910323) = x2 ∧ x2 / 2 ^ 4 + x2 = y ∧ y &&& 1085102592571150095 = x3 ∧ x3 + x3 / 2 ^ 8 = x4 ∧ x4 + x4 / 2 ^ 16 = x5 ∧ x5 + x5 / 2 ^ 32 = x6 ∧
    x6 % 128 = popN 32 x ∧ x1 < 4294967296 ∧ x2 < 4294967296 ∧ y < 8589934592 ∧ x3 < 4294967296 ∧ x4 < 8589934592 ∧ x5 < 8589934592 ∧ x6 < 17179869184 := by
  obtain ⟨bs, hl, hb, hv, hp⟩ := digits 32 x hx
  obtain ⟨-, -, s3, s4, -, -, s7⟩ := adj_facts 1 16 bs (by omega)
  obtain ⟨-, -, t3, t4, -, -, t7⟩ := adj_facts 2 8 (adj bs) (by omega)
  have e1 := fold_step 1 16 32 bs (by omega) (by omega) (by simpa using hb)
  have b1 : ∀ d ∈ adj bs, d ≤ 2 := fun d hd => by
    obtain ⟨a, ha, b, hb', e⟩ := s7 d hd
    have := hb a ha; have := hb b hb'; omega
  have e2 := fold_step 2 8 16 (adj bs) (by omega) (by omega) (fun d hd => by have := b1 d hd; omega)
  have b2 : ∀ d ∈ adj (adj bs), d ≤ 4 := fun d hd => by
    obtain ⟨a, ha, b, hb', e⟩ := t7 d hd
    have := b1 a ha; have := b1 b hb'; omega
  rw [← hv] at e1
  rw [show pm 1 32 = 6148914691236517205 by decide] at e1
  rw [show pm 2 16 = 3689348814741910323 by decide] at e2
  generalize hC : adj (adj bs) = cl at e2 b2 t3 t4
  match cl, t4 with
  | [c0, c1, c2, c3, c4, c5, c6, c7], _ =>
    simp only [List.mem_cons, List.not_mem_nil, or_false, forall_eq_or_imp, forall_eq] at b2
    obtain ⟨d0, d1, d2, d3, d4, d5, d6, d7⟩ := b2
    have hs : popN 32 x = c0 + c1 + c2 + c3 + c4 + c5 + c6 + c7 := by
      rw [hp, ← s3, ← t3]; simp only [List.sum_cons, List.sum_nil]; omega
    have v : v2 4 [c0, c1, c2, c3, c4, c5, c6, c7] = c0 + 16 * c1 + 256 * c2 + 4096 * c3 + 65536 * c4 + 1048576 * c5 + 16777216 * c6 + 268435456 * c7 := by
      simp only [v2]; omega
    have hm := mask_fst 4 [(c0 + c1, c1 + c2), (c2 + c3, c3 + c4), (c4 + c5, c5 + c6), (c6 + c7, c7)] 8 (by simp) (by
      simp only [List.mem_cons, List.not_mem_nil, or_false, forall_eq_or_imp, forall_eq]; omega)
    rw [show pm 4 8 = 1085102592571150095 by decide] at hm
    simp only [pv, fst1] at hm
    have hx1 : v2 2 (adj bs) < 4294967296 := by
      have : ∀ (m : Nat) (l : List Nat), l.length = m → (∀ d ∈ l, d ≤ 2) → v2 2 l < 2 ^ (2 * m) := by
        intro m
        induction m with
        | zero => intro l hl _; simp [List.eq_nil_of_length_eq_zero hl, v2]
        | succ m ih =>
          intro l hl hd
          match l, hl with
          | a :: r, hl =>
            have i1 := ih r (by simpa using hl) (fun d h => hd d (by simp [h]))
            have i2 := hd a (by simp)
            have i3 : 2 ^ (2 * (m + 1)) = 4 * 2 ^ (2 * m) := by rw [show 2 * (m + 1) = 2 * m + 2 by omega, Nat.pow_add]; omega
            simp only [v2]; omega
      exact this 16 _ s4 b1
    refine ⟨_, _, _, _, _, _, _, rfl, rfl, rfl, rfl, rfl, rfl, rfl, ?_⟩
    rw [e1]
    rw [show 2 * 1 = 2 from rfl, e2, show 2 * 2 = 4 from rfl, v]
    have hy : (c0 + 16 * c1 + 256 * c2 + 4096 * c3 + 65536 * c4 + 1048576 * c5 + 16777216 * c6 + 268435456 * c7) / 2 ^ 4 + (c0 + 16 * c1 + 256 * c2 + 4096 * c3 + 65536 * c4 + 1048576 * c5 + 16777216 * c6 + 268435456 * c7) = c0 + c1 + 2 ^ 4 * (c1 + c2) + 2 ^ (2 * 4) * (c2 + c3 + 2 ^ 4 * (c3 + c4) + 2 ^ (2 * 4) * (c4 + c5 + 2 ^ 4 * (c5 + c6) + 2 ^ (2 * 4) * (c6 + c7 + 2 ^ 4 * c7 + 2 ^ (2 * 4) * 0))) := by
      have hq : ∀ q : Nat, (c0 + 16 * q) / 2 ^ 4 = q := fun q => by omega
      have h1 := hq (c1 + 16 * c2 + 256 * c3 + 4096 * c4 + 65536 * c5 + 1048576 * c6 + 16777216 * c7)
      rw [show c0 + 16 * (c1 + 16 * c2 + 256 * c3 + 4096 * c4 + 65536 * c5 + 1048576 * c6 + 16777216 * c7) = c0 + 16 * c1 + 256 * c2 + 4096 * c3 + 65536 * c4 + 1048576 * c5 + 16777216 * c6 + 268435456 * c7 by omega] at h1
      rw [h1]; omega
    rw [hy, hm, hs]
    clear hm hy hs v e1 e2 s7 t7 b1 s3 t3 hC hv hp hl hb s4 hx
    simp only [Nat.reduceMul, Nat.reducePow, Nat.mul_zero, Nat.add_zero]
    generalize hX3 : c0 + c1 + 256 * (c2 + c3 + 256 * (c4 + c5 + 256 * (c6 + c7))) = x3
    have k3 : x3 < 4294967296 := by omega
    have g4 : x3 + x3 / 256 = (c0 + c1 + c2 + c3) + 256 * (c2 + c3 + c4 + c5) + 65536 * (c4 + c5 + c6 + c7) + 16777216 * (c6 + c7) := by
      have : x3 / 256 = c2 + c3 + 256 * (c4 + c5 + 256 * (c6 + c7)) := by omega
      omega
    rw [g4]
    generalize hX4 : (c0 + c1 + c2 + c3) + 256 * (c2 + c3 + c4 + c5) + 65536 * (c4 + c5 + c6 + c7) + 16777216 * (c6 + c7) = x4
    clear hX3 g4
    have k4 : x4 < 8589934592 := by omega
    have g5 : x4 + x4 / 65536 = (c0 + c1 + c2 + c3 + c4 + c5 + c6 + c7) + 256 * (c2 + c3 + c4 + c5 + c6 + c7) + 65536 * (c4 + c5 + c6 + c7) + 16777216 * (c6 + c7) := by
      have : x4 / 65536 = c4 + c5 + c6 + c7 + 256 * (c6 + c7) := by omega
      omega
    rw [g5]
    generalize hX5 : (c0 + c1 + c2 + c3 + c4 + c5 + c6 + c7) + 256 * (c2 + c3 + c4 + c5 + c6 + c7) + 65536 * (c4 + c5 + c6 + c7) + 16777216 * (c6 + c7) = x5
    clear hX4 g5
    have k5 : x5 < 8589934592 := by omega
    have g6 : x5 / 4294967296 = 0 := by
      exact Nat.div_eq_of_lt (by omega)
    rw [g6]
    clear g6
    refine ⟨?_, hx1, ?_, ?_, ?_, ?_, ?_, ?_⟩
    · generalize hS : c0 + c1 + c2 + c3 + c4 + c5 + c6 + c7 = S at hX5 ⊢
      have hS' : S < 128 := by omega
      rw [← hX5, Nat.add_zero]
      generalize c2 + c3 + c4 + c5 + c6 + c7 = A
      generalize c4 + c5 + c6 + c7 = B
      generalize c6 + c7 = D
      clear k3 k4 k5 hx1 hX5 hS d0 d1 d2 d3 d4 d5 d6 d7
      omega
    · clear hX5 k3 k4 k5; omega
    · clear hX5 k3 k4 k5; omega
    · exact k3
    · exact k4
    · exact k5
    · clear hX5 k3 k4; omega
theorem popN_le : ∀ (k x : Nat), popN k x ≤ k
  | 0, _ => Nat.le_refl _
  | k + 1, x => by have := popN_le k (x / 2); simp only [popN]; omega
end Go.Sx

set_option autoImplicit false
set_option maxRecDepth 100000
namespace Go.Proofs.YtomjbfeafodfbaaGreat
open Go.Sx
open Enc (enc val)
theorem ones_spec (x : Nat) (hx : x < 4294967296) (w : World) : Calls Tryz.prog 119 #[.int .u64 x] w fun e w' => e = .returned (.int .i64 (popN 32 x)) ∧ Cl w [] [] w' := by
  obtain ⟨x1, x2, y, x3, x4, x5, x6, h1, h2, h3, h4, h5, h6, h7, h8, l1, l2, l3, l4, l5, l6, l7⟩ := count_steps x hx
  refine calls_cw (vs := [_]) Tryz.func119 rfl Tryz.ntmps119 rfl (Cl.start0 w) (cw_seq (cw_region (sr rfl rfl rfl ((q_assign rfl rfl)) (sw_nil (post_then (cw_seq (cw_region (sr rfl rfl rfl ((q_move rfl rfl)) ?_))))))))
  refine sr rfl rfl rfl ((q_shrN (k := 1) rfl rfl rfl (fun _ => by omega))) ?_
  refine sr rfl rfl rfl ((q_andK (b := 6148914691236517205) rfl rfl rfl (fun _ => by omega))) ?_
  refine sr rfl rfl rfl ((q_move rfl rfl)) ?_
  refine sr rfl rfl rfl ((q_andK (b := 6148914691236517205) rfl rfl rfl (fun _ => by omega))) ?_
  refine sr rfl rfl rfl ((q_addZ (z := x1) rfl rfl rfl ⟨h1, by omega⟩)) ?_
  refine sr rfl rfl rfl ((q_assign rfl rfl)) (sw_nil (post_then (cw_seq (cw_region (sr rfl rfl rfl ((q_move rfl rfl)) ?_)))))
  refine sr rfl rfl rfl ((q_shrN (k := 2) rfl rfl rfl (fun _ => by omega))) ?_
  refine sr rfl rfl rfl ((q_andK (b := 3689348814741910323) rfl rfl rfl (fun _ => by omega))) ?_
  refine sr rfl rfl rfl ((q_move rfl rfl)) ?_
  refine sr rfl rfl rfl ((q_andK (b := 3689348814741910323) rfl rfl rfl (fun _ => by omega))) ?_
  refine sr rfl rfl rfl ((q_addZ (z := x2) rfl rfl rfl ⟨h2, by omega⟩)) ?_
  refine sr rfl rfl rfl ((q_assign rfl rfl)) (sw_nil (post_then (cw_seq (cw_region (sr rfl rfl rfl ((q_move rfl rfl)) ?_)))))
  refine sr rfl rfl rfl ((q_shrN (k := 4) rfl rfl rfl (fun _ => by omega))) ?_
  refine sr rfl rfl rfl ((q_move rfl rfl)) ?_
  refine sr rfl rfl rfl ((q_addZ (z := y) rfl rfl rfl ⟨h3, by omega⟩)) ?_
  refine sr rfl rfl rfl ((q_andK (b := 1085102592571150095) rfl rfl rfl (fun _ => by omega))) ?_
  rw [h4]
  refine sr rfl rfl rfl ((q_assign rfl rfl)) (sw_nil (post_then (cw_seq (cw_region (sr rfl rfl rfl ((q_move rfl rfl)) (sr rfl rfl rfl ((q_move rfl rfl)) ?_))))))
  refine sr rfl rfl rfl ((q_shrN (k := 8) rfl rfl rfl (fun _ => by omega))) ?_
  refine sr rfl rfl rfl ((q_addZ (z := x4) rfl rfl rfl ⟨h5, by omega⟩)) ?_
  refine sr rfl rfl rfl ((q_assign rfl rfl)) (sw_nil (post_then (cw_seq (cw_region (sr rfl rfl rfl ((q_move rfl rfl)) (sr rfl rfl rfl ((q_move rfl rfl)) ?_))))))
  refine sr rfl rfl rfl ((q_shrN (k := 16) rfl rfl rfl (fun _ => by omega))) ?_
  refine sr rfl rfl rfl ((q_addZ (z := x5) rfl rfl rfl ⟨h6, by omega⟩)) ?_
  refine sr rfl rfl rfl ((q_assign rfl rfl)) (sw_nil (post_then (cw_seq (cw_region (sr rfl rfl rfl ((q_move rfl rfl)) (sr rfl rfl rfl ((q_move rfl rfl)) ?_))))))
  refine sr rfl rfl rfl ((q_shrN (k := 32) rfl rfl rfl (fun _ => by omega))) ?_
  refine sr rfl rfl rfl ((q_addZ (z := x6) rfl rfl rfl ⟨h7, by omega⟩)) ?_
  refine sr rfl rfl rfl ((q_assign rfl rfl)) (sw_nil (post_then (cw_seq (cw_region (sr rfl rfl rfl ((q_move rfl rfl)) (sr rfl rfl rfl ((q_conv rfl rfl)) ?_))))))
  rw [show IntKind.i64.wrap (x6 : Int) = x6 from IntWalk.i64_in _ (by omega)]
  refine sr rfl rfl rfl ((q_and127 (a := x6) rfl rfl rfl (by omega))) ?_
  rw [h8]
  refine sr rfl rfl rfl ((q_assign rfl rfl)) (sw_nil (post_then (cw_ret (post_ret1 rfl (resOk_tmp rfl) ?_))))
  exact fun w' hw => ⟨rfl, hw⟩
end Go.Proofs.YtomjbfeafodfbaaGreat

set_option autoImplicit false
set_option maxRecDepth 100000
namespace Go.Proofs.YtomjbfeafodfbaaGreat
open Go.Sx
open Enc (enc val)
theorem isNaNi_spec (x : Int) (w : World) : Calls Tryz.prog 159 #[.int .i64 x] w fun e w' => e = .returned (.bool false) ∧ Cl w [] [] w' := by
  refine calls_cw (vs := [_]) Tryz.func159 rfl Tryz.ntmps159 rfl (Cl.start0 w) (cw_seq (cw_region (sr rfl rfl rfl ((q_assign rfl rfl)) (sw_nil (post_then (cw_seq (cw_region (sr rfl rfl rfl ((q_move rfl rfl)) (sr rfl rfl rfl ((q_move rfl rfl)) (sr rfl rfl rfl ((q_neq rfl rfl rfl)) (sr rfl rfl rfl ((q_assign rfl rfl)) (sw_nil (post_then (cw_ret (post_ret1 rfl (resOk_tmp rfl) ?_)))))))))))))))
  exact fun w' hw => ⟨by simp, hw⟩
theorem cmpLess_spec (x y : Int) (w : World) : Calls Tryz.prog 149 #[.int .i64 x, .int .i64 y] w fun e w' => e = .returned (.bool (decide (x < y))) ∧ Cl w [] [] w' := by
  refine calls_cw (vs := [_, _]) Tryz.func149 rfl Tryz.ntmps149 rfl (Cl.start0 w) (cw_seq (cw_region (sr rfl rfl rfl ((q_assign rfl rfl)) (sw_nil (post_then (cw_seq (cw_region (sr rfl rfl rfl ((q_move rfl rfl)) (sw_step rfl rfl rfl (q_call (CanCall.mk Tryz.call159) rfl (.cons rfl inferInstance (.nil)) (fun _ w hw => callq hw (isNaNi_spec _ w))) (sr rfl rfl rfl ((q_move rfl rfl)) (sr rfl rfl rfl ((q_move rfl rfl)) (sw_step rfl rfl rfl (q_call (CanCall.mk Tryz.call159) rfl (.cons rfl inferInstance (.nil)) (fun _ w hw => callq hw (isNaNi_spec _ w))) (sr rfl rfl rfl ((q_not rfl rfl)) (sr rfl rfl rfl ((q_and2 rfl rfl rfl)) (sr rfl rfl rfl ((q_move rfl rfl)) (sr rfl rfl rfl ((q_move rfl rfl)) (sr rfl rfl rfl ((q_move rfl rfl)) (sr rfl rfl rfl ((q_lss rfl rfl rfl)) (sr rfl rfl rfl ((q_or2 rfl rfl rfl)) (sr rfl rfl rfl ((q_assign rfl rfl)) (sw_nil (post_then (cw_ret (post_ret1 rfl (resOk_tmp rfl) ?_))))))))))))))))))))))))
  exact fun w' hw => ⟨by simp, hw⟩
def swI (l : List Int) (i j : Nat) : List Int := (l.set i (nth l j)).set j (nth l i)
theorem swI_len (l : List Int) (i j : Nat) : (swI l i j).length = l.length := by simp [swI]
theorem swI_nth {l : List Int} {i j : Nat} (hi : i < l.length) (hj : j < l.length) (k : Nat) : nth (swI l i j) k = if k = j then nth l i else if k = i then nth l j else nth l k := by
  unfold swI
  rw [nth_setP _ _ _ _ (by simpa using hj), nth_setP _ _ _ _ hi]
theorem swI_perm {l : List Int} {i j : Nat} (hi : i < l.length) (hj : j < l.length) : (swI l i j).Perm l := by
  unfold swI
  rw [nth_get hi, nth_get hj]
  exact List.set_set_perm hi hj
/-- Sorted from a to b, but for what stands at j. -/
def SrtBut (l : List Int) (a b j : Nat) : Prop := ∀ p q, a ≤ p → p < q → q < b → q ≠ j → nth l p ≤ nth l q
def Srt (l : List Int) (a b : Nat) : Prop := ∀ p q, a ≤ p → p < q → q < b → nth l p ≤ nth l q
/-- The same but for what lies from a to b. -/
structure Mix (l l' : List Int) (a b : Nat) : Prop where
  perm : l'.Perm l
  out : ∀ k, k < a ∨ b ≤ k → nth l' k = nth l k
theorem Mix.refl (l : List Int) (a b : Nat) : Mix l l a b := ⟨.refl _, fun _ _ => rfl⟩
theorem Mix.len {l l' : List Int} {a b : Nat} (h : Mix l l' a b) : l'.length = l.length := h.perm.length_eq
theorem Mix.swI {l l' : List Int} {a b i j : Nat} (h : Mix l l' a b) (hi : a ≤ i ∧ i < b) (hj : a ≤ j ∧ j < b) (hb : b ≤ l.length) : Mix l (swI l' i j) a b := by
  have hl := h.len
  refine ⟨(swI_perm (by omega) (by omega)).trans h.perm, fun k hk => ?_⟩
  rw [swI_nth (by omega) (by omega), if_neg (by omega), if_neg (by omega)]
  exact h.out k hk
theorem Mix.wider {l l' : List Int} {a b c d : Nat} (h : Mix l l' a b) (h1 : c ≤ a) (h2 : b ≤ d) : Mix l l' c d := ⟨h.perm, fun k hk => h.out k (by omega)⟩
theorem Mix.trans {l l' l'' : List Int} {a b : Nat} (h : Mix l l' a b) (k : Mix l' l'' a b) : Mix l l'' a b := ⟨k.perm.trans h.perm, fun i hi => (k.out i hi).trans (h.out i hi)⟩
theorem srtBut_swI {l : List Int} {a b j : Nat} (h : SrtBut l a b j) (ha : a < j) (hj : j < b) (hb : b ≤ l.length) (hlt : nth l j < nth l (j - 1)) : SrtBut (swI l j (j - 1)) a b (j - 1) := by
  intro p q hp hpq hq hne
  rw [swI_nth (by omega) (by omega), swI_nth (by omega) (by omega), if_neg hne]
  by_cases h1 : q = j
  · rw [if_pos h1]
    by_cases h2 : p = j - 1
    · rw [if_pos h2]; omega
    · rw [if_neg h2, if_neg (by omega)]
      exact h p (j - 1) hp (by omega) (by omega) (by omega)
  · rw [if_neg h1]
    by_cases h2 : p = j - 1
    · rw [if_pos h2]; exact h j q (by omega) (by omega) hq h1
    · rw [if_neg h2]
      by_cases h3 : p = j
      · rw [if_pos h3]; exact h (j - 1) q (by omega) (by omega) hq h1
      · rw [if_neg h3]; exact h p q hp hpq hq h1
theorem srt_of_but {l : List Int} {a b j : Nat} (h : SrtBut l a b j) (hj : j ≤ a ∨ nth l (j - 1) ≤ nth l j) : Srt l a b := by
  intro p q hp hpq hq
  by_cases h1 : q = j
  · subst h1
    rcases hj with hj | hj
    · omega
    · by_cases h2 : p = q - 1
      · rw [h2]; exact hj
      · exact Int.le_trans (h p (q - 1) hp (by omega) (by omega) (by omega)) hj
  · exact h p q hp hpq hq h1
theorem insertion_spec (sv : SlV) (l : List Int) (a b : Nat) (hab : a ≤ b) (hb : b ≤ l.length) (hl : l.length ≤ 4611686018427387904) (w : World) (bs : List Nat) (hs : Sep [ownL 3 sv.v l] w bs) (hn : bs.Nodup) (hlt : ∀ b ∈ bs, b < w.heap.size) :
    Calls Tryz.prog 143 #[sv.v, .int .i64 a, .int .i64 b] w fun e w' => ∃ l' : List Int, e = .returned (.tuple #[]) ∧ (Mix l l' a b ∧ Srt l' a b) ∧ Cl w bs [ownL 3 sv.v l'] w' := by
  refine calls_cw (vs := [_, _, _]) Tryz.func143 rfl Tryz.ntmps143 rfl (Cl.start hs hn hlt) (cw_seq (cw_region (sr rfl rfl rfl ((q_move rfl rfl)) ?_)))
  refine sr rfl rfl rfl ((q_add rfl rfl rfl (by intro hc; omega))) ?_
  refine sr rfl rfl rfl ((q_assign rfl rfl)) (sw_nil (post_then (cw_block ?_)))
  refine cw_loop (S := Nat × List Int) (fun y => [(0, [], sv.v), (1, [], .int .i64 a), (2, [], .int .i64 b), (6, [], .int .i64 y.1)]) (fun y => Cl w bs [ownL 3 sv.v y.2]) (fun y => a + 1 ≤ y.1 ∧ (y.1 ≤ b ∨ y.1 = a + 1) ∧ Mix l y.2 a b ∧ Srt y.2 a y.1) (fun y => b + 1 - y.1) (a + 1, l) ⟨by omega, .inr rfl, .refl _ _ _, fun p q h1 h2 h3 => by simp only at h3; omega⟩ (by exact .cons rfl (.cons rfl (.cons rfl (.cons rfl .nil)))) (fun _ h => h) ?_
  rintro ⟨i, m⟩ ⟨hi1, hi2, hm, hsr⟩
  dsimp only at hi1 hi2 hm hsr ⊢
  have hml := hm.len
  refine cw_seq (cw_seq (cw_region (sr rfl rfl rfl ((q_move rfl rfl)) (sr rfl rfl rfl ((q_move rfl rfl)) (sr rfl rfl rfl ((q_lss rfl rfl rfl)) (sw_nil (post_then ?_)))))))
  refine cw_cond rfl (fun h => ?_) (fun h => ?_)
  · skip
    have hib : i < b := by simp at h; omega
    refine cw_skip (post_then (cw_seq (cw_block (cw_seq (cw_region (sr rfl rfl rfl ((q_move rfl rfl)) (sr rfl rfl rfl ((q_assign rfl rfl)) (sw_nil (post_then (cw_block ?_))))))))))
    refine cw_loop (S := Nat × List Int) (fun y => [(0, [], sv.v), (1, [], .int .i64 a), (2, [], .int .i64 b), (6, [], .int .i64 i), (7, [], .int .i64 y.1)]) (fun y => Cl w bs [ownL 3 sv.v y.2]) (fun y => a ≤ y.1 ∧ y.1 ≤ i ∧ Mix l y.2 a b ∧ SrtBut y.2 a (i + 1) y.1) (fun y => y.1) (i, m) ⟨by simp only; omega, by simp, hm, fun p q h1 h2 h3 h4 => hsr p q h1 h2 (by simp only at h4; omega)⟩ (by exact .cons rfl (.cons rfl (.cons rfl (.cons rfl (.cons rfl .nil))))) (fun _ h => h) ?_
    rintro ⟨j, u⟩ ⟨hj1, hj2, hu, hsu⟩
    dsimp only at hj1 hj2 hu hsu ⊢
    have hul := hu.len
    refine cw_seq (cw_seq ?_)
    refine cw_region_q mixed_Tryz (by kernel_rfl) ?_
    refine qr rfl rfl rfl ((q_move rfl rfl)) (qr rfl rfl rfl ((q_move rfl rfl)) (qr rfl rfl rfl ((q_gtr rfl rfl rfl)) (qr rfl rfl rfl ((q_move rfl rfl)) (qr rfl rfl rfl ((q_move rfl rfl)) (qr rfl rfl rfl ((q_move rfl rfl)) ?_)))))
    refine qr rfl rfl rfl ((q_indexN rfl rfl rfl (by exact fun w hw => rd_own hw (by exact .head _)) (by intro hc; omega))) ?_
    refine qr rfl rfl rfl ((q_loadEl rfl rfl rfl (by exact fun w hw => rd_own hw (by exact .head _)) (by intro hc; omega))) ?_
    refine qr rfl rfl rfl ((q_move rfl rfl)) (qr rfl rfl rfl ((q_move rfl rfl)) ?_)
    refine qr rfl rfl rfl ((q_sub rfl rfl rfl (by intro hc; omega))) ?_
    refine qr rfl rfl rfl ((q_index rfl rfl rfl (by exact fun w hw => rd_own hw (by exact .head _)) (by intro hc; (simp only [AllT.iff, List.all_cons, List.all_nil, id, Bool.and_eq_true, Bool.not_eq_true', decide_eq_true_eq, decide_eq_false_iff_not, and_true] at hc; omega)))) ?_
    refine qr rfl rfl rfl ((q_loadEl rfl rfl rfl (by exact fun w hw => rd_own hw (by exact .head _)) (by intro hc; omega))) ?_
    refine qw_step rfl rfl rfl (q_call (CanCall.mk Tryz.call149) rfl (.cons rfl inferInstance (.cons rfl inferInstance (.nil))) (fun _ w hw => callq hw (cmpLess_spec _ _ w))) (qr rfl rfl rfl ((q_and2 rfl rfl rfl)) (qw_end (post_then ?_)))
    refine cw_cond rfl (fun h2 => ?_) (fun h2 => ?_)
    · skip
      have h3 : a < j ∧ nth u j < nth u (j - 1) := by
        simp only [Bool.and_eq_true, decide_eq_true_eq] at h2
        have e : ((j : Int) - 1).toNat = j - 1 := by omega
        rw [e] at h2
        omega
      have e : ((j : Int) - 1).toNat = j - 1 := by omega
      refine cw_skip (post_then (cw_seq (cw_block (cw_region_a (Cl w bs [ownL 3 sv.v u]) [15, 16, 17] mixed_Tryz ?_))))
      refine aw_pure 0 rfl (by kernel_rfl) (by kernel_rfl) (by kernel_rfl) (by kernel_rfl) (by kernel_rfl) rfl rfl rfl (q_move rfl rfl) ?_
      refine aw_pure 1 rfl (by kernel_rfl) (by kernel_rfl) (by kernel_rfl) (by kernel_rfl) (by kernel_rfl) rfl rfl rfl (q_move rfl rfl) ?_
      refine aw_pure 2 rfl (by kernel_rfl) (by kernel_rfl) (by kernel_rfl) (by kernel_rfl) (by kernel_rfl) rfl rfl rfl (q_move rfl rfl) ?_
      refine aw_pure 3 rfl (by kernel_rfl) (by kernel_rfl) (by kernel_rfl) (by kernel_rfl) (by kernel_rfl) rfl rfl rfl (q_move rfl rfl) ?_
      refine aw_pure 4 rfl (by kernel_rfl) (by kernel_rfl) (by kernel_rfl) (by kernel_rfl) (by kernel_rfl) rfl rfl rfl (q_sub rfl rfl rfl (by intro hc; omega)) ?_
      refine aw_pure 5 rfl (by kernel_rfl) (by kernel_rfl) (by kernel_rfl) (by kernel_rfl) (by kernel_rfl) rfl rfl rfl (q_move rfl rfl) ?_
      refine aw_pure 6 rfl (by kernel_rfl) (by kernel_rfl) (by kernel_rfl) (by kernel_rfl) (by kernel_rfl) rfl rfl rfl (q_move rfl rfl) ?_
      refine aw_pure 7 rfl (by kernel_rfl) (by kernel_rfl) (by kernel_rfl) (by kernel_rfl) (by kernel_rfl) rfl rfl rfl (q_sub rfl rfl rfl (by intro hc; omega)) ?_
      refine aw_take 8 (fun w h => Cl.sel (by exact .take 0 rfl (.nil _)) w h) rfl (by kernel_rfl) (by kernel_rfl) (by kernel_rfl) (by kernel_rfl) (by kernel_rfl) (by kernel_rfl) rfl rfl rfl (q_index rfl rfl rfl (by exact fun w hw => rd_own hw (by exact .head _)) (by intro hc; omega)) ?_
      refine aw_take 9 (fun w h => Cl.sel (by exact .take 0 rfl (.nil _)) w h) rfl (by kernel_rfl) (by kernel_rfl) (by kernel_rfl) (by kernel_rfl) (by kernel_rfl) (by kernel_rfl) rfl rfl rfl (q_loadEl rfl rfl rfl (by exact fun w hw => rd_own hw (by exact .head _)) (by intro hc; omega)) ?_
      refine aw_pure 10 rfl (by kernel_rfl) (by kernel_rfl) (by kernel_rfl) (by kernel_rfl) (by kernel_rfl) rfl rfl rfl (q_move rfl rfl) ?_
      refine aw_pure 11 rfl (by kernel_rfl) (by kernel_rfl) (by kernel_rfl) (by kernel_rfl) (by kernel_rfl) rfl rfl rfl (q_move rfl rfl) ?_
      refine aw_take 12 (fun w h => Cl.sel (by exact .take 0 rfl (.nil _)) w h) rfl (by kernel_rfl) (by kernel_rfl) (by kernel_rfl) (by kernel_rfl) (by kernel_rfl) (by kernel_rfl) rfl rfl rfl (q_indexN rfl rfl rfl (by exact fun w hw => rd_own hw (by exact .head _)) (by intro hc; omega)) ?_
      refine aw_take 13 (fun w h => Cl.sel (by exact .take 0 rfl (.nil _)) w h) rfl (by kernel_rfl) (by kernel_rfl) (by kernel_rfl) (by kernel_rfl) (by kernel_rfl) (by kernel_rfl) rfl rfl rfl (q_loadEl rfl rfl rfl (by exact fun w hw => rd_own hw (by exact .head _)) (by intro hc; omega)) ?_
      refine aw_take 14 (fun w h => Cl.sel (by exact .take 0 rfl (.nil _)) w h) rfl (by kernel_rfl) (by kernel_rfl) (by kernel_rfl) (by kernel_rfl) (by kernel_rfl) (by kernel_rfl) rfl rfl rfl (q_indexN rfl rfl rfl (by exact fun w hw => rd_own hw (by exact .head _)) (by intro hc; omega)) ?_
      refine aw_one0 15 (by kernel_rfl) rfl rfl rfl (e_storeEl1 (i := 0) rfl rfl rfl rfl rfl (by omega)) (by intro hb; (exact absurd hb (by decide))) ?_
      refine aw_q 16 (by kernel_rfl) rfl rfl rfl rfl (OpR.q (q_index rfl rfl rfl (by exact fun w hw => rd_own hw (by exact .head _)) (by intro hc; (simp only [List.length_set, List.length_append, List.length_cons, List.length_nil, List.length_replicate, List.length_take, List.length_drop, List.length_map]; omega)))) (by intro hb; (exact absurd hb (by decide))) ?_
      refine aw_one0 17 (by kernel_rfl) rfl rfl rfl (e_storeEl1 (i := 0) rfl rfl rfl rfl rfl (by (simp only [List.length_set, List.length_append, List.length_cons, List.length_nil, List.length_replicate, List.length_take, List.length_drop, List.length_map]; omega))) (by intro hb; (exact absurd hb (by decide))) ?_
      refine aw_end (by kernel_rfl) ?_
      refine post_blk (post_then (cw_region (sr rfl rfl rfl ((q_move rfl rfl)) ?_)))
      refine sr rfl rfl rfl ((q_sub rfl rfl rfl (by intro hc; omega))) ?_
      refine sr rfl rfl rfl ((q_assign rfl rfl)) (sw_nil ?_)
      have e2 : (u.set j (nth u ((j : Int) - 1).toNat)).set ((j : Int) - 1).toNat (nth u j) = swI u j (j - 1) := by rw [e]; rfl
      refine post_next (j - 1, swI u j (j - 1)) (by exact .cons rfl (.cons rfl (.cons rfl (.cons rfl (.cons' rfl (by congr 1; first | omega | (simp only; omega)) .nil))))) (fun w3 hw3 => ?_) ⟨by simp only; omega, by simp only; omega, hu.swI (by omega) (by omega) hb, srtBut_swI hsu (by omega) (by omega) (by omega) h3.2⟩ (by simp only; omega)
      rw [← e2]
      exact hw3
    · skip
      have h3 : j ≤ a ∨ nth u (j - 1) ≤ nth u j := by
        by_cases h4 : a < j
        · right
          have e : ((j : Int) - 1).toNat = j - 1 := by omega
          rw [e] at h2
          simp at h2
          exact h2 (by omega)
        · left; omega
      refine cw_exit (post_then_x (post_then_x (post_blk_eq (post_blk (post_then (cw_region (sr rfl rfl rfl ((q_move rfl rfl)) ?_)))))))
      refine sr rfl rfl rfl ((q_add rfl rfl rfl (by intro hc; omega))) ?_
      refine sr rfl rfl rfl ((q_assign rfl rfl)) (sw_nil ?_)
      exact post_next (i + 1, u) (by exact .cons rfl (.cons rfl (.cons rfl (.cons rfl .nil)))) (fun _ h => h) ⟨by simp only; omega, by simp only; omega, hu, srt_of_but hsu h3⟩ (by simp only; omega)
  · skip
    have hib : i = b ∨ i = a + 1 ∧ b = a := by simp at h; omega
    refine cw_exit (post_then_x (post_then_x (post_blk_eq (post_end0 rfl ?_))))
    exact fun w' hw => ⟨m, rfl, ⟨hm, fun p q h1 h2 h3 => hsr p q h1 h2 (by omega)⟩, hw⟩
theorem len64_spec (x : Int) (hx : 0 ≤ x ∧ x < 256) (w : World) : Calls Tryz.prog 153 #[.int .u64 x] w fun e w' => ∃ l : Int, e = .returned (.int .i64 l) ∧ True ∧ Cl w [] [] w' := by
  refine calls_cw (vs := [_]) Tryz.func153 rfl Tryz.ntmps153 rfl (Cl.start0 w) (cw_seq (cw_region (sr rfl rfl rfl ((q_assign rfl rfl)) (sw_nil (post_then (cw_seq (cw_seq (cw_region (sr rfl rfl rfl ((q_move rfl rfl)) (sr rfl rfl rfl ((q_geq rfl rfl rfl)) (sw_nil (post_then ?_))))))))))))
  refine cw_cond rfl (fun h1 => ?_) (fun h1 => ?_)
  · skip
    simp at h1; omega
  · skip
    refine cw_skip (post_then (cw_seq (cw_seq (cw_region (sr rfl rfl rfl ((q_move rfl rfl)) (sr rfl rfl rfl ((q_geq rfl rfl rfl)) (sw_nil (post_then ?_))))))))
    refine cw_cond rfl (fun h2 => ?_) (fun h2 => ?_)
    · skip
      simp at h2; omega
    · skip
      refine cw_skip (post_then (cw_seq (cw_seq (cw_region (sr rfl rfl rfl ((q_move rfl rfl)) (sr rfl rfl rfl ((q_geq rfl rfl rfl)) (sw_nil (post_then ?_))))))))
      refine cw_cond rfl (fun h3 => ?_) (fun h3 => ?_)
      · skip
        simp at h3; omega
      · skip
        refine cw_skip (post_then (cw_seq (cw_region (sr rfl rfl rfl ((q_move rfl rfl)) (sr rfl rfl rfl ((q_move rfl rfl)) (sr rfl rfl rfl ((q_conv rfl rfl)) ?_))))))
        have hw : IntKind.u8.wrap x = x := by simp only [IntKind.wrap, IntKind.signed, IntKind.bits]; simp; omega
        refine sr rfl rfl rfl ((q_indexS rfl rfl rfl Tryz.underlying9 (fun _ => ⟨by rw [hw]; omega, by rw [hw]; exact Int.lt_of_lt_of_le hx.2 (by decide)⟩))) ?_
        refine sr rfl rfl rfl ((q_conv rfl rfl)) (sr rfl rfl rfl ((q_add_w rfl rfl rfl)) (sr rfl rfl rfl ((q_assign rfl rfl)) (sw_nil (post_then (cw_ret (post_ret1 rfl (resOk_tmp rfl) ?_))))))
        exact fun w' hw => ⟨_, rfl, trivial, hw⟩
theorem len_spec (x : Int) (hx : 0 ≤ x ∧ x < 256) (w : World) : Calls Tryz.prog 140 #[.int .u64 x] w fun e w' => ∃ l : Int, e = .returned (.int .i64 l) ∧ True ∧ Cl w [] [] w' := by
  refine calls_cw (vs := [_]) Tryz.func140 rfl Tryz.ntmps140 rfl (Cl.start0 w) (cw_seq (cw_region (sr rfl rfl rfl ((q_assign rfl rfl)) (sw_nil (post_then (cw_seq ?_))))))
  refine cw_cond rfl (fun h1 => ?_) (fun h1 => ?_)
  · skip
    cases h1
  · skip
    refine cw_skip (post_then (cw_seq (cw_region (sr rfl rfl rfl ((q_move rfl rfl)) ?_))))
    refine sw_x rfl rfl rfl (e_call (CanCall.mk Tryz.call153) rfl (.cons rfl inferInstance (.nil)) (fun w hw => len64_spec x hx w)) (fun l7 => ?_)
    refine sw_imp fun _ => (sr rfl rfl rfl ((q_assign rfl rfl)) (sw_nil (post_then (cw_ret (post_ret1 rfl (resOk_tmp rfl) ?_)))))
    exact fun w' hw => ⟨l7, rfl, trivial, hw⟩
theorem pdq12_spec (sv : SlV) (l : List Int) (lim : Int) (hb : l.length ≤ 12) (w : World) (bs : List Nat) (hs : Sep [ownL 3 sv.v l] w bs) (hn : bs.Nodup) (hlt : ∀ b ∈ bs, b < w.heap.size) :
    Calls Tryz.prog 139 #[sv.v, .int .i64 0, .int .i64 l.length, .int .i64 lim] w fun e w' => ∃ l' : List Int, e = .returned (.tuple #[]) ∧ (Mix l l' 0 l.length ∧ Srt l' 0 l.length) ∧ Cl w bs [ownL 3 sv.v l'] w' := by
  refine calls_cw (vs := [_, _, _, _]) Tryz.func139 rfl Tryz.ntmps139 rfl (Cl.start hs hn hlt) (cw_seq (cw_region (sr rfl rfl rfl ((q_assign rfl rfl)) (sw_nil (post_then (cw_seq (cw_region (sr rfl rfl rfl ((q_assign rfl rfl)) (sw_nil (post_then (cw_block ?_)))))))))))
  refine cw_loop (S := Unit) (fun _ => [(0, [], sv.v), (1, [], .int .i64 0), (2, [], .int .i64 l.length), (3, [], .int .i64 lim)]) (fun _ => Cl w bs [ownL 3 sv.v l]) (fun _ => True) (fun _ => 0) () trivial (by exact .cons rfl (.cons rfl (.cons rfl (.cons rfl .nil)))) (fun _ h => h) ?_
  rintro ⟨⟩ _
  refine cw_block (cw_seq (cw_region (sr rfl rfl rfl ((q_move rfl rfl)) (sr rfl rfl rfl ((q_move rfl rfl)) ?_))))
  refine sr rfl rfl rfl ((q_sub rfl rfl rfl (by intro hc; omega))) ?_
  refine sr rfl rfl rfl ((q_assign rfl rfl)) (sw_nil (post_then (cw_seq (cw_seq (cw_region (sr rfl rfl rfl ((q_move rfl rfl)) (sr rfl rfl rfl ((q_leq rfl rfl rfl)) (sw_nil (post_then ?_)))))))))
  refine cw_cond rfl (fun h => ?_) (fun h => ?_)
  · skip
    refine cw_seq (cw_region (sr rfl rfl rfl ((q_move rfl rfl)) (sr rfl rfl rfl ((q_move rfl rfl)) (sr rfl rfl rfl ((q_move rfl rfl)) ?_))))
    refine sw_x rfl rfl rfl (e_callH (A := [ownL 3 sv.v l]) (F := []) (CanCall.mk Tryz.call143) rfl rfl (.cons rfl inferInstance (.cons rfl inferInstance (.cons rfl inferInstance (.nil)))) (.refl _) (fun w bs h1 h2 h3 _ _ => insertion_spec sv l 0 l.length (by omega) (by omega) (by omega) w bs h1 h2 h3)) (fun l27 => ?_)
    refine sw_imp fun hm => (sw_nil (post_then (cw_ret (post_then_r (post_blk_r (post_then_r (post_blk_r (post_ret0 rfl ?_))))))))
    exact fun w' hw => ⟨l27, rfl, hm, hw⟩
  · skip
    simp at h; omega
theorem sort12_spec (sv : SlV) (l : List Int) (hb : l.length ≤ 12) (w : World) (bs : List Nat) (hs : Sep [ownL 3 sv.v l] w bs) (hn : bs.Nodup) (hlt : ∀ b ∈ bs, b < w.heap.size) :
    Calls Tryz.prog 121 #[sv.v] w fun e w' => ∃ l' : List Int, e = .returned (.tuple #[]) ∧ (Mix l l' 0 l.length ∧ Srt l' 0 l.length) ∧ Cl w bs [ownL 3 sv.v l'] w' := by
  refine calls_cw (vs := [_]) Tryz.func121 rfl Tryz.ntmps121 rfl (Cl.start hs hn hlt) (cw_seq (cw_region (sr rfl rfl rfl ((q_move rfl rfl)) ?_)))
  refine sr rfl rfl rfl ((q_len rfl (.cons rfl inferInstance (.nil)) (by exact fun w hw => rd_own hw (by exact .head _)))) ?_
  refine sr rfl rfl rfl ((q_assign rfl rfl)) (sw_nil (post_then (cw_region (sr rfl rfl rfl ((q_move rfl rfl)) (sr rfl rfl rfl ((q_move rfl rfl)) (sr rfl rfl rfl ((q_move rfl rfl)) (sr rfl rfl rfl ((q_conv rfl rfl)) ?_)))))))
  refine sw_x rfl rfl rfl (e_call (CanCall.mk Tryz.call140) rfl (.cons rfl inferInstance (.nil)) (fun w hw => len_spec _ (by simp only [IntKind.wrap, IntKind.signed, IntKind.bits]; simp; omega) w)) (fun l9 => ?_)
  refine sw_imp fun _ => ?_
  refine sw_x rfl rfl rfl (e_callH (A := [ownL 3 sv.v l]) (F := []) (CanCall.mk Tryz.call139) rfl rfl (.cons rfl inferInstance (.cons rfl inferInstance (.cons rfl inferInstance (.cons rfl inferInstance (.nil))))) (.refl _) (fun w bs h1 h2 h3 _ _ => pdq12_spec sv l l9 hb w bs h1 h2 h3)) (fun l27 => ?_)
  refine sw_imp fun hm => (sw_nil (post_end0 rfl ?_))
  exact fun w' hw => ⟨l27, rfl, hm, hw⟩
end Go.Proofs.YtomjbfeafodfbaaGreat

/- Covers: sets of small numbers as bits, the greedy cover, sums over sets. Plain lemmas, no program text. -/
set_option autoImplicit false
namespace Go.Sx
def sumB (f : Nat → Bool) : Nat → Nat
  | 0 => 0
  | k + 1 => sumB f k + (f k).toNat
theorem popN_last : ∀ (k a : Nat), popN (k + 1) a = popN k a + (a.testBit k).toNat
  | 0, a => by simp only [popN, Nat.testBit_zero]; by_cases h : a % 2 = 1 <;> simp [h]; omega
  | k + 1, a => by
    rw [popN, popN_last k (a / 2), popN, Nat.testBit_succ, Nat.add_assoc]
theorem popN_sum (a : Nat) : ∀ k, popN k a = sumB a.testBit k
  | 0 => rfl
  | k + 1 => by rw [popN_last, sumB, popN_sum a k]
theorem sumB_congr {f g : Nat → Bool} : ∀ {k : Nat}, (∀ i, i < k → f i = g i) → sumB f k = sumB g k
  | 0, _ => rfl
  | k + 1, h => by rw [sumB, sumB, sumB_congr (fun i hi => h i (by omega)), h k (by omega)]
theorem sumB_add {f g h : Nat → Bool} : ∀ {k : Nat}, (∀ i, i < k → (f i).toNat = (g i).toNat + (h i).toNat) → sumB f k = sumB g k + sumB h k
  | 0, _ => rfl
  | k + 1, e => by
    have := sumB_add (k := k) (fun i hi => e i (by omega))
    have := e k (by omega)
    simp only [sumB]; omega
theorem sumB_le {f g : Nat → Bool} : ∀ {k : Nat}, (∀ i, i < k → f i = true → g i = true) → sumB f k ≤ sumB g k
  | 0, _ => Nat.le_refl _
  | k + 1, e => by
    have := sumB_le (k := k) (fun i hi => e i (by omega))
    have := e k (by omega)
    simp only [sumB]
    cases hf : f k <;> cases hg : g k <;> simp_all <;> omega
theorem sumB_zero {f : Nat → Bool} : ∀ {k : Nat}, sumB f k = 0 ↔ ∀ i, i < k → f i = false
  | 0 => by simp [sumB]
  | k + 1 => by
    simp only [sumB, Nat.add_eq_zero_iff, sumB_zero (k := k)]
    constructor
    · rintro ⟨h1, h2⟩ i hi
      by_cases e : i = k
      · subst e; cases hf : f i <;> simp_all
      · exact h1 i (by omega)
    · intro h
      exact ⟨fun i hi => h i (by omega), by simp [h k (by omega)]⟩
theorem sumB_one {k j : Nat} (h : j < k) : sumB (fun i => decide (i = j)) k = 1 := by
  induction k with
  | zero => omega
  | succ k ih =>
    simp only [sumB]
    by_cases e : k = j
    · subst e
      have : sumB (fun i => decide (i = k)) k = 0 := sumB_zero.2 fun i hi => by simp; omega
      simp [this]
    · simp [ih (by omega), e]
theorem sumB_mono {f : Nat → Bool} : ∀ {k m : Nat}, k ≤ m → sumB f k ≤ sumB f m := by
  intro k m h
  induction m with
  | zero => simp_all
  | succ m ih =>
    by_cases e : k = m + 1
    · subst e; exact Nat.le_refl _
    · have := ih (by omega); simp only [sumB]; omega
theorem sumB_bd {f : Nat → Bool} : ∀ (k : Nat), sumB f k ≤ k
  | 0 => Nat.le_refl _
  | k + 1 => by have := sumB_bd (f := f) k; simp only [sumB]; cases f k <;> simp <;> omega
theorem andN_bit (a b i : Nat) : (andN a b).testBit i = (a.testBit i && !b.testBit i) := by
  simp only [andN, Nat.testBit_xor, Nat.testBit_and]
  cases a.testBit i <;> cases b.testBit i <;> rfl
def maskTo (s : List Int) : Nat → Nat
  | 0 => 0
  | k + 1 => maskTo s k ||| 2 ^ (nth s k).toNat
def mask (s : List Int) : Nat := maskTo s s.length
theorem maskTo_bit (s : List Int) (i : Nat) : ∀ k, (maskTo s k).testBit i = true ↔ ∃ j, j < k ∧ (nth s j).toNat = i
  | 0 => by simp [maskTo]
  | k + 1 => by
    rw [maskTo, Nat.testBit_or, Bool.or_eq_true, maskTo_bit s i k, Nat.testBit_two_pow, decide_eq_true_eq]
    constructor
    · rintro (⟨j, h1, h2⟩ | h)
      · exact ⟨j, by omega, h2⟩
      · exact ⟨k, by omega, h⟩
    · rintro ⟨j, h1, h2⟩
      by_cases e : j = k
      · subst e; exact .inr h2
      · exact .inl ⟨j, by omega, h2⟩
theorem two_lt {i n : Nat} (h : i < n) : 2 ^ i < 2 ^ n := Nat.pow_lt_pow_right (by decide) h
theorem maskTo_lt {s : List Int} {n : Nat} (h : ∀ x ∈ s, 0 ≤ x ∧ x < n) : ∀ k, k ≤ s.length → maskTo s k < 2 ^ n
  | 0, _ => Nat.two_pow_pos n
  | k + 1, hk => by
    have h1 := h (nth s k) (by rw [nth_get (by omega)]; exact List.getElem_mem _)
    exact Nat.or_lt_two_pow (maskTo_lt h k (by omega)) (two_lt (by omega))
theorem maskTo_out {s : List Int} {n : Nat} (h : ∀ x ∈ s, 0 ≤ x ∧ x < n) {k i : Nat} (hk : k ≤ s.length) (hi : n ≤ i) : (maskTo s k).testBit i = false :=
  Nat.testBit_lt_two_pow (Nat.lt_of_lt_of_le (maskTo_lt h k hk) (Nat.pow_le_pow_right (by decide) hi))
def fullN (n : Nat) : Nat := 2 ^ n - 1
theorem fullN_bit (n i : Nat) : (fullN n).testBit i = decide (i < n) := Nat.testBit_two_pow_sub_one n i
theorem fullN_succ (n : Nat) : fullN n ||| 2 ^ n = fullN (n + 1) := by
  apply Nat.eq_of_testBit_eq
  intro i
  rw [Nat.testBit_or, fullN_bit, fullN_bit, Nat.testBit_two_pow]
  by_cases h : i < n <;> by_cases e : n = i <;> simp [h, e] <;> omega
/-- How many of a set are new. -/
@[irreducible] def fr (g m : Nat) : Nat := popN 32 (andN m g)
theorem fr_sum (g m : Nat) : fr g m = sumB (fun i => m.testBit i && !g.testBit i) 32 := by
  rw [fr, popN_sum]; exact sumB_congr fun i _ => andN_bit _ _ _
theorem fr_le (g m : Nat) : fr g m ≤ 32 := by rw [fr]; exact popN_le _ _
/-- One more number in a set. -/
theorem fr_put {g m x : Nat} (hx : x < 32) : fr g (m ||| 2 ^ x) = fr g m + if (g ||| m).testBit x then 0 else 1 := by
  rw [fr_sum, fr_sum]
  by_cases h : (g ||| m).testBit x = true
  · rw [if_pos h, Nat.add_zero]
    refine sumB_congr fun i _ => ?_
    rw [Nat.testBit_or, Nat.testBit_two_pow]
    rw [Nat.testBit_or] at h
    by_cases e : x = i
    · subst e
      cases h1 : g.testBit x <;> cases h2 : m.testBit x <;> simp_all
    · simp [e]
  · rw [if_neg h]
    have h0 : g.testBit x = false ∧ m.testBit x = false := by
      rw [Nat.testBit_or] at h
      cases h1 : g.testBit x <;> cases h2 : m.testBit x <;> simp_all
    rw [← sumB_one hx]
    refine sumB_add fun i _ => ?_
    rw [Nat.testBit_or, Nat.testBit_two_pow]
    by_cases e : x = i
    · subst e; simp [h0.1, h0.2]
    · have : ¬ i = x := fun h => e h.symm
      simp [e, this]
theorem fr_after {n g m : Nat} (hm : ∀ i, m.testBit i = true → i < n) : fr (g ||| m) (fullN n) + fr g m = fr g (fullN n) := by
  rw [fr_sum, fr_sum, fr_sum]
  refine (sumB_add fun i _ => ?_).symm
  rw [fullN_bit, Nat.testBit_or]
  by_cases h : i < n
  · simp only [h, decide_true, Bool.true_and]
    cases g.testBit i <;> cases m.testBit i <;> rfl
  · have h2 : m.testBit i = false := by
      cases e : m.testBit i
      · rfl
      · exact absurd (hm i e) h
    simp [h, h2]
theorem fr_zero {g m : Nat} : fr g m = 0 ↔ ∀ i, i < 32 → m.testBit i = true → g.testBit i = true := by
  rw [fr_sum, sumB_zero]
  constructor
  · intro h i hi hm
    have := h i hi
    cases e : g.testBit i <;> simp_all
  · intro h i hi
    have := h i hi
    cases e : m.testBit i <;> simp_all
def bestTo (ms : List Nat) (g : Nat) : Nat → Int × Nat
  | 0 => (-1, 0)
  | k + 1 => if (bestTo ms g k).2 < fr g (nth ms k) then ((k : Int), fr g (nth ms k)) else bestTo ms g k
def best (ms : List Nat) (g : Nat) : Int × Nat := bestTo ms g ms.length
theorem bestTo_spec (ms : List Nat) (g : Nat) : ∀ k, (bestTo ms g k = (-1, 0) ∧ ∀ j, j < k → fr g (nth ms j) = 0) ∨
    ∃ i, i < k ∧ bestTo ms g k = ((i : Int), fr g (nth ms i)) ∧ 0 < fr g (nth ms i) ∧ (∀ j, j < k → fr g (nth ms j) ≤ fr g (nth ms i))
  | 0 => .inl ⟨rfl, fun j hj => by omega⟩
  | k + 1 => by
    rw [bestTo]
    rcases bestTo_spec ms g k with ⟨h1, h2⟩ | ⟨i, h1, h2, h3, h4⟩
    · rw [h1]
      by_cases h : 0 < fr g (nth ms k)
      · right
        refine ⟨k, by omega, by simp [h], h, fun j hj => ?_⟩
        by_cases e : j = k
        · rw [e]; exact Nat.le_refl _
        · rw [h2 j (by omega)]; exact Nat.zero_le _
      · left
        refine ⟨by simp [h], fun j hj => ?_⟩
        by_cases e : j = k
        · rw [e]; omega
        · exact h2 j (by omega)
    · rw [h2]
      by_cases h : fr g (nth ms i) < fr g (nth ms k)
      · right
        refine ⟨k, by omega, by simp [h], by omega, fun j hj => ?_⟩
        by_cases e : j = k
        · rw [e]; exact Nat.le_refl _
        · have := h4 j (by omega); omega
      · right
        refine ⟨i, by omega, by simp [h], h3, fun j hj => ?_⟩
        by_cases e : j = k
        · rw [e]; omega
        · exact h4 j (by omega)
structure GS where
  g : Nat
  out : List Int
  sh : List Int
def shUp (n : Nat) (g m : Nat) (most : Int) (sh : List Int) : Nat → List Int
  | 0 => sh
  | k + 1 => if m.testBit k && !g.testBit k then (shUp n g m most sh k).set k most else shUp n g m most sh k
/-- The next step: none if all is covered or nothing helps. -/
def gstep (n : Nat) (ms : List Nat) (s : GS) : GS :=
  let b := best ms s.g
  ⟨s.g ||| nth ms b.1.toNat, s.out ++ [b.1], shUp n s.g (nth ms b.1.toNat) b.2 s.sh n⟩
def giter (n : Nat) (ms : List Nat) : Nat → GS
  | 0 => ⟨0, [], List.replicate n 0⟩
  | k + 1 => gstep n ms (giter n ms k)
theorem shUp_len (n g m : Nat) (most : Int) (sh : List Int) : ∀ k, (shUp n g m most sh k).length = sh.length
  | 0 => rfl
  | k + 1 => by rw [shUp]; split <;> simp [shUp_len n g m most sh k]
theorem nth_set' {l : List Int} {i : Nat} {v : Int} (hi : i < l.length) (j : Nat) : nth (l.set i v) j = if j = i then v else nth l j := by
  simp only [nth, List.getD, List.getElem?_set]
  by_cases e : i = j
  · subst e; simp [hi]
  · rw [if_neg e, if_neg (fun h => e h.symm)]
theorem shUp_nth (n g m : Nat) (most : Int) (sh : List Int) (hl : n ≤ sh.length) : ∀ k, k ≤ n → ∀ j, nth (shUp n g m most sh k) j = if j < k ∧ m.testBit j = true ∧ g.testBit j = false then most else nth sh j
  | 0, _, j => by simp [shUp]
  | k + 1, hk, j => by
    rw [shUp]
    have ih := shUp_nth n g m most sh hl k (by omega) j
    have hlen := shUp_len n g m most sh k
    by_cases h : (m.testBit k && !g.testBit k) = true
    · rw [if_pos h, nth_set' (by omega)]
      by_cases e : j = k
      · subst e
        have : m.testBit j = true ∧ g.testBit j = false := by simpa using h
        simp [this]
      · rw [if_neg e, ih]
        have : (j < k + 1) = (j < k) := by apply propext; omega
        simp only [this]
    · rw [if_neg h, ih]
      by_cases e : j = k
      · subst e
        have : ¬ (m.testBit j = true ∧ g.testBit j = false) := by simpa using h
        rw [if_neg (by omega), if_neg (fun h2 => this ⟨h2.2.1, h2.2.2⟩)]
      · have : (j < k + 1) = (j < k) := by apply propext; omega
        simp only [this]
theorem giter_sh (n : Nat) (ms : List Nat) : ∀ k, (giter n ms k).sh.length = n
  | 0 => by simp [giter]
  | k + 1 => by simp only [giter, gstep]; rw [shUp_len, giter_sh n ms k]
theorem giter_out (n : Nat) (ms : List Nat) : ∀ k, (giter n ms k).out.length = k
  | 0 => rfl
  | k + 1 => by simp [giter, gstep, giter_out n ms k]
/-- The sets are of numbers below n. -/
def MsOk (n : Nat) (ms : List Nat) : Prop := ∀ m ∈ ms, ∀ i, m.testBit i = true → i < n
/-- k steps were good ones. -/
def GOk (n : Nat) (ms : List Nat) (k : Nat) : Prop := ∀ j, j < k → fr (giter n ms j).g (fullN n) ≠ 0 ∧ ∃ i, i < ms.length ∧ best ms (giter n ms j).g = ((i : Int), fr (giter n ms j).g (nth ms i)) ∧ 0 < fr (giter n ms j).g (nth ms i)
theorem nth_mem {α : Type} [Inhabited α] {l : List α} {i : Nat} (h : i < l.length) : nth l i ∈ l := by rw [nth_get h]; exact List.getElem_mem h
theorem giter_left {n : Nat} {ms : List Nat} (hm : MsOk n ms) : ∀ {k : Nat}, GOk n ms k → fr (giter n ms k).g (fullN n) + k ≤ fr 0 (fullN n)
  | 0, _ => by simp [giter]
  | k + 1, h => by
    have ih := giter_left hm (k := k) (fun j hj => h j (by omega))
    obtain ⟨h1, i, h2, h3, h4⟩ := h k (by omega)
    have h5 := fr_after (g := (giter n ms k).g) (n := n) (hm (nth ms i) (nth_mem h2))
    simp only [giter, gstep, h3, Int.toNat_natCast]
    omega
theorem fr_full {n : Nat} (h : n ≤ 32) : fr 0 (fullN n) = n := by
  rw [fr_sum]
  have key : ∀ k, k ≤ 32 → sumB (fun i => (fullN n).testBit i && !(0 : Nat).testBit i) k = min k n := by
    intro k
    induction k with
    | zero => simp [sumB]
    | succ k ih =>
      intro hk
      rw [sumB, ih (by omega), fullN_bit, Nat.zero_testBit]
      by_cases h : k < n <;> simp [h] <;> omega
  rw [key 32 (Nat.le_refl _)]; omega
theorem giter_bd {n : Nat} {ms : List Nat} (hn : n ≤ 32) (hm : MsOk n ms) {k : Nat} (h : GOk n ms k) : k ≤ n := by
  have := giter_left hm h
  rw [fr_full hn] at this; omega
/-- All numbers are in some set. -/
def unTo (ms : List Nat) : Nat → Nat
  | 0 => 0
  | k + 1 => unTo ms k ||| nth ms k
theorem unTo_bit (ms : List Nat) (i : Nat) : ∀ k, (unTo ms k).testBit i = true ↔ ∃ j, j < k ∧ (nth ms j).testBit i = true
  | 0 => by simp [unTo]
  | k + 1 => by
    rw [unTo, Nat.testBit_or, Bool.or_eq_true, unTo_bit ms i k]
    constructor
    · rintro (⟨j, h1, h2⟩ | h)
      · exact ⟨j, by omega, h2⟩
      · exact ⟨k, by omega, h⟩
    · rintro ⟨j, h1, h2⟩
      by_cases e : j = k
      · subst e; exact .inr h2
      · exact .inl ⟨j, by omega, h2⟩
def possN (n : Nat) (ms : List Nat) : Bool := decide (fr (unTo ms ms.length) (fullN n) = 0)
theorem possN_iff {n : Nat} {ms : List Nat} (hn : n ≤ 32) : possN n ms = true ↔ ∀ i, i < n → ∃ j, j < ms.length ∧ (nth ms j).testBit i = true := by
  rw [possN, decide_eq_true_eq, fr_zero]
  constructor
  · intro h i hi
    exact (unTo_bit ms i _).1 (h i (by omega) (by rw [fullN_bit]; simpa using hi))
  · intro h i _ h2
    rw [fullN_bit, decide_eq_true_eq] at h2
    exact (unTo_bit ms i _).2 (h i h2)
theorem best_pos {n : Nat} {ms : List Nat} (hn : n ≤ 32) (hp : possN n ms = true) {g : Nat} (hg : fr g (fullN n) ≠ 0) : ∃ i, i < ms.length ∧ best ms g = ((i : Int), fr g (nth ms i)) ∧ 0 < fr g (nth ms i) := by
  rcases bestTo_spec ms g ms.length with ⟨_, h2⟩ | ⟨i, h1, h2, h3, _⟩
  · exfalso
    apply hg
    rw [fr_zero]
    intro i hi h4
    rw [fullN_bit, decide_eq_true_eq] at h4
    obtain ⟨j, h5, h6⟩ := (possN_iff hn).1 hp i h4
    exact fr_zero.1 (h2 j h5) i hi h6
  · exact ⟨i, h1, h2, h3⟩
theorem giter_in {n : Nat} {ms : List Nat} : ∀ {k : Nat}, GOk n ms k → ∀ i, (giter n ms k).g.testBit i = true → ∃ j, j < ms.length ∧ (nth ms j).testBit i = true
  | 0, _, i, h => by simp [giter] at h
  | k + 1, hk, i, h => by
    obtain ⟨_, j, h2, h3, _⟩ := hk k (by omega)
    simp only [giter, gstep, h3, Int.toNat_natCast, Nat.testBit_or, Bool.or_eq_true] at h
    rcases h with h | h
    · exact giter_in (fun j hj => hk j (by omega)) i h
    · exact ⟨j, h2, h⟩
/-- If the greedy cover covers all, all numbers are in some set. -/
theorem poss_of_done {n : Nat} {ms : List Nat} (hn : n ≤ 32) {k : Nat} (h : GOk n ms k) (h0 : fr (giter n ms k).g (fullN n) = 0) : possN n ms = true := by
  rw [possN_iff hn]
  intro i hi
  exact giter_in h i (fr_zero.1 h0 i (by omega) (by rw [fullN_bit]; simpa using hi))
theorem done_one {n : Nat} {ms : List Nat} {k k' : Nat} (h : GOk n ms k) (h0 : fr (giter n ms k).g (fullN n) = 0) (h' : GOk n ms k') (h0' : fr (giter n ms k').g (fullN n) = 0) : k = k' := by
  rcases Nat.lt_trichotomy k k' with h1 | h1 | h1
  · exact absurd h0 (h' k h1).1
  · exact h1
  · exact absurd h0' (h k' h1).1
/-- The greedy cover, where there is one. -/
theorem gdone {n : Nat} {ms : List Nat} (hn : n ≤ 32) (hm : MsOk n ms) (hp : possN n ms = true) : ∃ k, GOk n ms k ∧ fr (giter n ms k).g (fullN n) = 0 := by
  have key : ∀ d k, GOk n ms k → fr (giter n ms k).g (fullN n) = d → ∃ k, GOk n ms k ∧ fr (giter n ms k).g (fullN n) = 0 := by
    intro d
    induction d using Nat.strongRecOn with
    | _ d ih =>
      intro k hk hd
      by_cases h0 : d = 0
      · exact ⟨k, hk, by omega⟩
      · obtain ⟨i, h1, h2, h3⟩ := best_pos hn hp (g := (giter n ms k).g) (by omega)
        have h5 := fr_after (g := (giter n ms k).g) (n := n) (hm (nth ms i) (nth_mem h1))
        refine ih _ ?_ (k + 1) (fun j hj => ?_) rfl
        · simp only [giter, gstep, h2, Int.toNat_natCast]; omega
        · by_cases e : j = k
          · subst e; exact ⟨by omega, i, h1, h2, h3⟩
          · exact hk j (by omega)
  exact key _ 0 (fun j hj => by omega) rfl
theorem sumB_lt {f g : Nat → Bool} {k j : Nat} (h : ∀ i, i < k → f i = true → g i = true) (hj : j < k) (h1 : f j = false) (h2 : g j = true) : sumB f k < sumB g k := by
  have e : sumB g k ≥ sumB f k + sumB (fun i => decide (i = j)) k := by
    clear hj
    induction k with
    | zero => simp [sumB]
    | succ k ih =>
      have i1 := ih (fun i hi => h i (by omega))
      have i2 := h k (by omega)
      simp only [sumB]
      by_cases e : k = j
      · subst e; simp [h1, h2]; omega
      · simp only [e, decide_false, Bool.toNat_false]
        cases hf : f k <;> cases hg : g k <;> simp_all <;> omega
  rw [sumB_one hj] at e; omega
theorem fr_mono {g m m' : Nat} : fr (g ||| m') m ≤ fr g m := by
  rw [fr_sum, fr_sum]
  refine sumB_le fun i _ h => ?_
  rw [Nat.testBit_or] at h
  cases h1 : m.testBit i <;> cases h2 : g.testBit i <;> simp_all
theorem fr_self {g m : Nat} : fr (g ||| m) m = 0 := by
  rw [fr_zero]
  intro i _ h
  rw [Nat.testBit_or, h, Bool.or_true]
/-- No set is taken twice. -/
theorem giter_few {n : Nat} {ms : List Nat} : ∀ {k : Nat}, GOk n ms k → sumB (fun i => decide (fr (giter n ms k).g (nth ms i) ≠ 0)) ms.length + k ≤ ms.length
  | 0, _ => sumB_bd _
  | k + 1, h => by
    have ih := giter_few (k := k) (fun j hj => h j (by omega))
    obtain ⟨h1, i, h2, h3, h4⟩ := h k (by omega)
    have h5 : sumB (fun i => decide (fr (giter n ms (k + 1)).g (nth ms i) ≠ 0)) ms.length < sumB (fun i => decide (fr (giter n ms k).g (nth ms i) ≠ 0)) ms.length := by
      refine sumB_lt (fun j _ h5 => ?_) h2 ?_ ?_
      · simp only [giter, gstep, h3, Int.toNat_natCast, ne_eq, decide_eq_true_eq] at h5 ⊢
        have := fr_mono (g := (giter n ms k).g) (m := nth ms j) (m' := nth ms i)
        omega
      · simp only [giter, gstep, h3, Int.toNat_natCast]
        rw [fr_self]; rfl
      · simp; omega
    omega
theorem lt_of_bits {m n : Nat} (hn : n ≤ 30) (h : ∀ i, m.testBit i = true → i < n) : m < 1073741824 := by
  have : m < 2 ^ 30 := Nat.lt_pow_two_of_testBit m fun i hi => by
    cases e : m.testBit i
    · rfl
    · have := h i e; omega
  simpa using this
theorem nth_drop {α : Type} [Inhabited α] (l : List α) (f k : Nat) : nth (l.drop f) k = nth l (f + k) := by
  simp [nth, List.getD]
theorem msOk_nth {n : Nat} {ms : List Nat} (h : MsOk n ms) (i j : Nat) (hb : (nth ms i).testBit j = true) : j < n := by
  by_cases hi : i < ms.length
  · exact h _ (nth_mem hi) j hb
  · have : nth ms i = 0 := by simp only [nth, List.getD, List.getElem?_eq_none (show ms.length ≤ i by omega)]; rfl
    rw [this] at hb; simp at hb
theorem unTo_in {n : Nat} {ms : List Nat} (h : MsOk n ms) {k i : Nat} (hb : (unTo ms k).testBit i = true) : i < n := by
  obtain ⟨j, _, h2⟩ := (unTo_bit ms i k).1 hb
  exact msOk_nth h _ _ h2
theorem giter_bits {n : Nat} {ms : List Nat} (hm : MsOk n ms) : ∀ {k : Nat} {i : Nat}, (giter n ms k).g.testBit i = true → i < n
  | 0, i, h => by simp [giter] at h
  | k + 1, i, h => by
    simp only [giter, gstep, Nat.testBit_or, Bool.or_eq_true] at h
    rcases h with h | h
    · exact giter_bits hm h
    · exact msOk_nth hm _ _ h
theorem giter_share {n : Nat} {ms : List Nat} : ∀ {k : Nat}, GOk n ms k → ∀ j, j < n → (giter n ms k).g.testBit j = true → 1 ≤ nth (giter n ms k).sh j ∧ nth (giter n ms k).sh j ≤ 32
  | 0, _, j, _, h => by simp [giter] at h
  | k + 1, hk, j, hj, h => by
    obtain ⟨_, i, h2, h3, h4⟩ := hk k (by omega)
    have ih := giter_share (k := k) (fun j hj => hk j (by omega)) j hj
    have h5 := giter_sh n ms k
    have h6 := fr_le (giter n ms k).g (nth ms i)
    simp only [giter, gstep, h3, Int.toNat_natCast] at h ⊢
    rw [shUp_nth _ _ _ _ _ (by omega) n (Nat.le_refl _)]
    rw [Nat.testBit_or, Bool.or_eq_true] at h
    by_cases e : (giter n ms k).g.testBit j = true
    · rw [if_neg (by simp [e])]; exact ih e
    · have e2 : (nth ms i).testBit j = true := by rcases h with h | h; exact absurd h e; exact h
      rw [if_pos ⟨hj, e2, by simpa using e⟩]
      omega
/-- The widest set. -/
def widTo (ms : List Nat) : Nat → Nat
  | 0 => 1
  | k + 1 => max (widTo ms k) (fr 0 (nth ms k))
theorem widTo_bd (ms : List Nat) : ∀ k, 1 ≤ widTo ms k ∧ widTo ms k ≤ 32
  | 0 => by simp [widTo]
  | k + 1 => by have := widTo_bd ms k; have := fr_le 0 (nth ms k); simp only [widTo]; omega
def wid (ms : List Nat) : Nat := widTo ms ms.length
def scaleTo : Nat → Int
  | 0 => 0
  | k + 1 => scaleTo k + 27720 / ((k : Int) + 1)
theorem scaleTo_bd : ∀ k, 0 ≤ scaleTo k ∧ scaleTo k ≤ 27720 * k
  | 0 => by simp [scaleTo]
  | k + 1 => by
    have := scaleTo_bd k
    have h1 : (0 : Int) ≤ 27720 / ((k : Int) + 1) := Int.ediv_nonneg (by decide) (by omega)
    have h2 : (27720 : Int) / ((k : Int) + 1) ≤ 27720 := Int.ediv_le_self _ (by decide)
    simp only [scaleTo]; omega
/-- The sum of what lies at the numbers of a set. -/
def psum (l : List Int) (m : Nat) : Nat → Int
  | 0 => 0
  | k + 1 => psum l m k + if m.testBit k = true then nth l k else 0
def sumTo (l : List Int) : Nat → Int
  | 0 => 0
  | k + 1 => sumTo l k + nth l k
theorem psum_bd {l : List Int} {B : Int} (h : ∀ k, 0 ≤ nth l k ∧ nth l k ≤ B) (m : Nat) : ∀ k, 0 ≤ psum l m k ∧ psum l m k ≤ B * k
  | 0 => by simp [psum]
  | k + 1 => by
    have h1 := psum_bd h m k
    have h2 := h k
    have e : B * ((k + 1 : Nat) : Int) = B * k + B := by rw [Int.natCast_add, Int.mul_add]; simp
    simp only [psum, e]; split <;> omega
theorem sumTo_bd {l : List Int} {B : Int} (h : ∀ k, 0 ≤ nth l k ∧ nth l k ≤ B) : ∀ k, 0 ≤ sumTo l k ∧ sumTo l k ≤ B * k
  | 0 => by simp [sumTo]
  | k + 1 => by
    have h1 := sumTo_bd h k
    have h2 := h k
    have e : B * ((k + 1 : Nat) : Int) = B * k + B := by rw [Int.natCast_add, Int.mul_add]; simp
    simp only [sumTo, e]; omega
def cvL (n g : Nat) : List Bool := (List.range n).map fun i => g.testBit i
theorem cvL_len (n g : Nat) : (cvL n g).length = n := by simp [cvL]
theorem cvL_nth {n i : Nat} (h : i < n) (g : Nat) : nth (cvL n g) i = g.testBit i := by rw [nth_get (by rw [cvL_len]; exact h)]; simp [cvL]
theorem cvL_set {n i : Nat} (h : i < n) (g : Nat) : (cvL n g).set i true = cvL n (g ||| 2 ^ i) := by
  apply List.ext_getElem
  · simp [cvL_len]
  · intro j h1 h2
    rw [List.getElem_set]
    simp only [cvL, List.getElem_map, List.getElem_range, Nat.testBit_or, Nat.testBit_two_pow]
    by_cases e : i = j
    · rw [if_pos e]; simp [e]
    · rw [if_neg e]; simp [e]
theorem cvL_same {n i g : Nat} (h : g.testBit i = true) : cvL n (g ||| 2 ^ i) = cvL n g := by
  simp only [cvL]
  congr 1
  funext j
  rw [Nat.testBit_or, Nat.testBit_two_pow]
  by_cases e : i = j
  · subst e; simp [h]
  · simp [e]
theorem cvL_zero (n : Nat) : List.replicate n false = cvL n 0 := by
  apply List.ext_getElem
  · simp [cvL_len]
  · intro j h1 h2; simp [cvL]
theorem psum_put {l : List Int} {m x : Nat} : ∀ {k : Nat}, x < k → psum l (m ||| 2 ^ x) k = psum l m k + if m.testBit x = true then 0 else nth l x
  | 0, h => by omega
  | k + 1, h => by
    have e : ∀ j, ¬ x = j → (m ||| 2 ^ x).testBit j = m.testBit j := fun j hj => by rw [Nat.testBit_or, Nat.testBit_two_pow]; simp [hj]
    by_cases hx : x = k
    · subst hx
      have h1 : ∀ q, q ≤ x → psum l (m ||| 2 ^ x) q = psum l m q := by
        intro q
        induction q with
        | zero => intro _; rfl
        | succ q ih => intro hq; rw [psum, psum, ih (by omega), e q (by omega)]
      have h2 : (m ||| 2 ^ x).testBit x = true := by rw [Nat.testBit_or, Nat.testBit_two_pow]; simp
      rw [psum, psum, h1 x (Nat.le_refl _), h2, if_pos rfl]
      split <;> omega
    · have ih := psum_put (l := l) (m := m) (x := x) (k := k) (by omega)
      rw [psum, psum, ih, e k hx]; omega
end Go.Sx

set_option autoImplicit false
set_option maxRecDepth 100000
namespace Go.Proofs.YtomjbfeafodfbaaGreat
open Go.Sx
open Enc (enc val)
/-- A word of 64 bits. -/
structure UW where
  n : Nat
instance : Inhabited UW := ⟨⟨0⟩⟩
instance : Enc UW := ⟨fun u => [.int .u64 u.n], 1, fun u => .int .u64 u.n, fun _ => rfl, by simp [Value.oneCell'], fun _ => rfl, by decide⟩
instance : HasTy Tryz.prog 156 UW := hasTy_cell Tryz.sizeOf156 Tryz.isAgg156 rfl (fun _ => rfl)
/-- The words of a set of things below n ≤ 30. -/
def ws (n x : Nat) : List UW := if n = 0 then [] else [⟨x⟩]
theorem ws_pos {n : Nat} (h : 0 < n) (x : Nat) : ws n x = [⟨x⟩] := by rw [ws, if_neg (by omega)]
theorem ws_len (n x : Nat) : (ws n x).length = if n = 0 then 0 else 1 := by unfold ws; split <;> rfl
theorem has_spec (s : SlV) (x i : Nat) (hi : i < 64) (hx : x < 4294967296) (w : World) (hs : Stb w [] (RdL s.v [UW.mk x])) : Calls Tryz.prog 83 #[s.v, .int .i64 i] w fun e w' => e = .returned (.bool (x.testBit i)) ∧ Cl w [] [] w' := by
  refine calls_cw (vs := [_, _]) Tryz.func83 rfl Tryz.ntmps83 rfl (Cl.start0 w) (cw_seq (cw_region (sr rfl rfl rfl ((q_assign rfl rfl)) (sw_nil (post_then (cw_seq (cw_region (sr rfl rfl rfl ((q_move rfl rfl)) (sr rfl rfl rfl ((q_move rfl rfl)) ?_)))))))))
  refine sr rfl rfl rfl ((q_quo rfl rfl rfl (by intro hc; omega))) ?_
  rw [show ((i : Int) / 64) = ((0 : Nat) : Int) by omega]
  refine sr rfl rfl rfl ((q_indexN rfl rfl rfl (by exact fun w hw => Stb.cl (by assumption) hw) (by intro hc; (simp only [List.length_set, List.length_append, List.length_cons, List.length_nil, List.length_replicate, List.length_take, List.length_drop, List.length_map]; omega)))) ?_
  refine sr rfl rfl rfl ((q_loadEl rfl rfl rfl (by exact fun w hw => Stb.cl (by assumption) hw) (by intro hc; (simp only [List.length_set, List.length_append, List.length_cons, List.length_nil, List.length_replicate, List.length_take, List.length_drop, List.length_map]; omega)))) ?_
  refine sr rfl rfl rfl ((q_move rfl rfl)) ?_
  refine sr rfl rfl rfl ((q_rem rfl rfl rfl (by intro hc; omega))) ?_
  rw [show ((i : Int) % 64) = (i : Int) by omega]
  refine sr rfl rfl rfl ((q_shrN (a := x) (k := i) rfl rfl rfl (fun _ => by omega))) ?_
  refine sr rfl rfl rfl ((q_andK (a := x / 2 ^ i) (b := 1) rfl rfl rfl (fun _ => ⟨Nat.lt_of_le_of_lt (Nat.div_le_self _ _) (by omega), by omega⟩))) ?_
  refine sr rfl rfl rfl ((q_eql rfl rfl rfl)) (sr rfl rfl rfl ((q_assign rfl rfl)) (sw_nil (post_then (cw_ret (post_ret1 rfl (resOk_tmp rfl) ?_)))))
  refine fun w' hw => ⟨?_, hw⟩
  rw [show (1 : Nat) = 2 ^ 1 - 1 from rfl, Nat.and_two_pow_sub_one_eq_mod]
  rw [Nat.testBit_eq_decide_div_mod_eq]
  congr 2
  simp only [decide_eq_decide]; omega
theorem clone_spec (s : SlV) (l : List UW) (hlen : l.length ≤ 1000000) (w : World) (hs : Stb w [] (RdL s.v l)) : Calls Tryz.prog 138 #[s.v] w fun e w' => ∃ r : SlV, e = .returned r.v ∧ True ∧ Cl w [] [ownL 156 r.v l] w' := by
  have hL := rd_len hs.here
  refine calls_cw (vs := [_]) Tryz.func138 rfl Tryz.ntmps138 rfl (Cl.start0 w) ?_
  have hnil : s.addr = none → l = [] := fun h0 => by
    obtain ⟨a, n, cap, h1, h2, h3, h4, h5⟩ := hs.here
    cases l with
    | nil => rfl
    | cons x r =>
      obtain ⟨b, hb, _⟩ := h5 0 x 0 (.int .u64 x.n) rfl rfl
      simp only [SlV.v, Value.slice.injEq] at h1
      rw [hb, h0] at h1; cases h1.1
  refine cw_seq (cw_region (sr rfl rfl rfl ((q_assign rfl rfl)) (sw_nil (post_then (cw_seq (cw_seq (cw_region (sr rfl rfl rfl ((q_move rfl rfl)) (sr rfl rfl rfl ((q_eqlNil rfl rfl)) (sw_nil (post_then ?_)))))))))))
  refine cw_cond rfl (fun h => ?_) (fun h => ?_)
  · skip
    rw [hnil (by simpa using h)]
    refine cw_seq (cw_region (sr rfl rfl rfl ((q_assign rfl rfl)) (sw_nil (post_then (cw_ret (post_then_r (post_ret1 rfl (resOk_tmp rfl) ?_)))))))
    exact fun w' hw => ⟨⟨none, 0, 0⟩, rfl, trivial, hw.addNil (α := UW) 156⟩
  · skip
    refine cw_skip (post_then (cw_seq (cw_region ?_)))
    refine sw_x rfl rfl rfl (e_buildL (α := UW) (l := []) (ps := []) rfl .nil rfl rfl rfl rfl) (fun s5 => ?_)
    refine sr rfl rfl rfl ((q_move rfl rfl)) ?_
    refine sw_x rfl rfl rfl (e_append (i := 0) rfl (.cons rfl inferInstance (.cons rfl inferInstance (.nil))) rfl rfl (by exact fun w hw => Stb.cl (by assumption) hw) (by simp only [List.length_set, List.length_append, List.length_cons, List.length_nil, List.length_replicate, List.length_take, List.length_drop, List.length_map]; omega) rfl) (fun s7 => ?_)
    refine sr rfl rfl rfl ((q_assign rfl rfl)) (sw_nil (post_then (cw_ret (post_ret1 rfl (resOk_tmp rfl) ?_))))
    exact fun w' hw => ⟨_, rfl, trivial, hw⟩
theorem join_spec (s t : SlV) (n x y : Nat) (hx : x < 4294967296) (hy : y < 4294967296) (w : World) (hs : Stb w [] (RdL s.v (ws n x))) (ht : Stb w [] (RdL t.v (ws n y))) : Calls Tryz.prog 120 #[s.v, t.v] w fun e w' => ∃ r : SlV, e = .returned r.v ∧ True ∧ Cl w [] [ownL 156 r.v (ws n (x ||| y))] w' := by
  refine calls_cw (vs := [_, _]) Tryz.func120 rfl Tryz.ntmps120 rfl (Cl.start0 w) (cw_seq (cw_region (sr rfl rfl rfl ((q_assign rfl rfl)) (sw_nil (post_then (cw_seq (cw_region (sr rfl rfl rfl ((q_move rfl rfl)) ?_))))))))
  refine sw_x rfl rfl rfl (e_call (CanCall.mk Tryz.call138) rfl (.cons rfl inferInstance (.nil)) (fun w hw => clone_spec _ _ (by rw [ws_len]; split <;> omega) w (by exact stb_arg hw (by assumption)))) (fun x8 => ?_)
  refine sw_imp (fun hx8 => ?_)
  refine sr rfl rfl rfl ((q_assign rfl rfl)) (sw_nil (post_then (cw_seq (cw_seq (cw_region (sr rfl rfl rfl ((q_move rfl rfl)) ?_))))))
  refine sr rfl rfl rfl ((q_len rfl (.cons rfl inferInstance (.nil)) (by exact fun w hw => rd_own hw (by exact .head _)))) ?_
  refine sr rfl rfl rfl ((q_move rfl rfl)) (sw_nil (post_then (cw_block ?_)))
  refine cw_loop (S := Nat) (fun k => [(0, [], s.v), (1, [], t.v), (5, [], x8.v), (10, [], .int .i64 (ws n x).length), (11, [], .int .i64 k)]) (fun k => Cl w [] [ownL 156 x8.v (ws n (if k = 0 then x else x ||| y))]) (fun k => k ≤ (ws n x).length) (fun k => (ws n x).length - k) 0 (Nat.zero_le _) (by exact .cons rfl (.cons rfl (.cons rfl (.cons rfl (.cons rfl .nil))))) (fun _ h => h) ?_
  rintro k hk
  refine cw_seq (cw_region (sr rfl rfl rfl ((q_lss rfl rfl rfl)) (sw_nil (post_then (cw_seq ?_)))))
  refine cw_cond rfl (fun h => ?_) (fun h => ?_)
  · skip
    have h1 : 0 < n ∧ k = 0 := by
      simp only [decide_eq_true_eq] at h
      rw [ws_len] at h hk
      split at h <;> omega
    obtain ⟨h1, rfl⟩ := h1
    rw [ws_pos h1] at hs ht
    have hlw : (ws n x).length = 1 := by rw [ws_len, if_neg (by omega)]
    simp only [ws_pos h1, if_true]
    refine cw_skip (post_then (cw_seq (cw_block (cw_seq (cw_region (sr rfl rfl rfl ((q_move rfl rfl)) (sr rfl rfl rfl ((q_assign rfl rfl)) (sw_nil (post_then (cw_region_a (Cl w [] [ownL 156 x8.v [UW.mk x]]) [10] mixed_Tryz ?_))))))))))
    refine aw_pure 0 rfl (by kernel_rfl) (by kernel_rfl) (by kernel_rfl) (by kernel_rfl) (by kernel_rfl) rfl rfl rfl (q_move rfl rfl) ?_
    refine aw_pure 1 rfl (by kernel_rfl) (by kernel_rfl) (by kernel_rfl) (by kernel_rfl) (by kernel_rfl) rfl rfl rfl (q_move rfl rfl) ?_
    refine aw_take 2 (fun w h => Cl.sel (by exact .take 0 rfl (.nil _)) w h) rfl (by kernel_rfl) (by kernel_rfl) (by kernel_rfl) (by kernel_rfl) (by kernel_rfl) (by kernel_rfl) rfl rfl rfl (q_indexN rfl rfl rfl (by exact fun w hw => rd_own hw (by exact .head _)) (by intro hc; (simp only [List.length_set, List.length_append, List.length_cons, List.length_nil, List.length_replicate, List.length_take, List.length_drop, List.length_map]; omega))) ?_
    refine aw_take 3 (fun w h => Cl.sel (by exact .take 0 rfl (.nil _)) w h) rfl (by kernel_rfl) (by kernel_rfl) (by kernel_rfl) (by kernel_rfl) (by kernel_rfl) (by kernel_rfl) rfl rfl rfl (q_loadEl rfl rfl rfl (by exact fun w hw => rd_own hw (by exact .head _)) (by intro hc; (simp only [List.length_set, List.length_append, List.length_cons, List.length_nil, List.length_replicate, List.length_take, List.length_drop, List.length_map]; omega))) ?_
    refine aw_pure 4 rfl (by kernel_rfl) (by kernel_rfl) (by kernel_rfl) (by kernel_rfl) (by kernel_rfl) rfl rfl rfl (q_move rfl rfl) ?_
    refine aw_pure 5 rfl (by kernel_rfl) (by kernel_rfl) (by kernel_rfl) (by kernel_rfl) (by kernel_rfl) rfl rfl rfl (q_move rfl rfl) ?_
    refine aw_take 6 (fun w h => Cl.sel (by exact .take 0 rfl (.nil _)) w h) rfl (by kernel_rfl) (by kernel_rfl) (by kernel_rfl) (by kernel_rfl) (by kernel_rfl) (by kernel_rfl) rfl rfl rfl (q_indexN rfl rfl rfl (by exact fun w hw => Stb.cl (by assumption) hw) (by intro hc; (simp only [List.length_set, List.length_append, List.length_cons, List.length_nil, List.length_replicate, List.length_take, List.length_drop, List.length_map]; omega))) ?_
    refine aw_take 7 (fun w h => Cl.sel (by exact .take 0 rfl (.nil _)) w h) rfl (by kernel_rfl) (by kernel_rfl) (by kernel_rfl) (by kernel_rfl) (by kernel_rfl) (by kernel_rfl) rfl rfl rfl (q_loadEl rfl rfl rfl (by exact fun w hw => Stb.cl (by assumption) hw) (by intro hc; (simp only [List.length_set, List.length_append, List.length_cons, List.length_nil, List.length_replicate, List.length_take, List.length_drop, List.length_map]; omega))) ?_
    refine aw_pure 8 rfl (by kernel_rfl) (by kernel_rfl) (by kernel_rfl) (by kernel_rfl) (by kernel_rfl) rfl rfl rfl (q_orK (a := x) (b := y) rfl rfl rfl (fun _ => by omega)) ?_
    refine aw_take 9 (fun w h => Cl.sel (by exact .take 0 rfl (.nil _)) w h) rfl (by kernel_rfl) (by kernel_rfl) (by kernel_rfl) (by kernel_rfl) (by kernel_rfl) (by kernel_rfl) rfl rfl rfl (q_indexN rfl rfl rfl (by exact fun w hw => rd_own hw (by exact .head _)) (by intro hc; (simp only [List.length_set, List.length_append, List.length_cons, List.length_nil, List.length_replicate, List.length_take, List.length_drop, List.length_map]; omega))) ?_
    refine aw_one0 10 (by kernel_rfl) rfl rfl rfl (e_storeEl1 (i := 0) rfl rfl rfl rfl rfl (by (simp only [List.length_set, List.length_append, List.length_cons, List.length_nil, List.length_replicate, List.length_take, List.length_drop, List.length_map]; omega))) (by intro hb; (exact absurd hb (by decide))) ?_
    refine aw_end (by kernel_rfl) ?_
    refine post_blk (post_then (cw_region ?_))
    refine sr rfl rfl rfl ((q_add rfl rfl rfl (by intro hc; omega))) ?_
    refine sr rfl rfl rfl ((q_move rfl rfl)) (sw_nil ?_)
    refine post_next 1 (by exact .cons rfl (.cons rfl (.cons rfl (.cons rfl (.cons rfl .nil))))) (fun w3 hw3 => ?_) (by first | omega | simp) (by first | omega | simp)
    rw [if_neg (by omega)]
    exact hw3
  · skip
    have h1 : k = (ws n x).length := by simp only [decide_eq_false_iff_not] at h; omega
    subst h1
    refine cw_exit (post_then_x (post_then_x (post_blk_eq (post_then (cw_seq (cw_region (sr rfl rfl rfl ((q_move rfl rfl)) (sr rfl rfl rfl ((q_assign rfl rfl)) (sw_nil (post_then (cw_ret (post_ret1 rfl (resOk_tmp rfl) ?_))))))))))))
    refine fun w' hw => ⟨x8, rfl, trivial, ?_⟩
    by_cases h0 : n = 0
    · subst h0; exact hw
    · rw [if_neg (by rw [ws_len, if_neg h0]; decide)] at hw; exact hw
/-- How many of s are not in t. -/
theorem without_spec (s t : SlV) (n x y : Nat) (hx : x < 4294967296) (hy : y < 4294967296) (h0 : n = 0 → x = 0) (w : World) (hs : Stb w [] (RdL s.v (ws n x))) (ht : Stb w [] (RdL t.v (ws n y))) : Calls Tryz.prog 76 #[s.v, t.v] w fun e w' => e = .returned (.int .i64 (fr y x)) ∧ Cl w [] [] w' := by
  refine calls_cw (vs := [_, _]) Tryz.func76 rfl Tryz.ntmps76 rfl (Cl.start0 w) (cw_seq (cw_region (sr rfl rfl rfl ((q_assign rfl rfl)) (sw_nil (post_then (cw_seq (cw_region (sr rfl rfl rfl ((q_assign rfl rfl)) (sw_nil (post_then (cw_seq (cw_seq (cw_region (sr rfl rfl rfl ((q_move rfl rfl)) ?_))))))))))))))
  refine sr rfl rfl rfl ((q_len rfl (.cons rfl inferInstance (.nil)) (by exact fun w hw => Stb.cl (by assumption) hw))) ?_
  refine sr rfl rfl rfl ((q_move rfl rfl)) (sw_nil (post_then (cw_block ?_)))
  refine cw_loop (S := Nat) (fun k => [(0, [], s.v), (1, [], t.v), (5, [], .int .i64 (if k = 0 then 0 else fr y x)), (8, [], .int .i64 (ws n x).length), (9, [], .int .i64 k)]) (fun k => Cl w [] []) (fun k => k ≤ (ws n x).length) (fun k => (ws n x).length - k) 0 (Nat.zero_le _) (by exact .cons rfl (.cons rfl (.cons rfl (.cons rfl (.cons rfl .nil))))) (fun _ h => h) ?_
  rintro k hk
  refine cw_seq (cw_region (sr rfl rfl rfl ((q_lss rfl rfl rfl)) (sw_nil (post_then (cw_seq ?_)))))
  refine cw_cond rfl (fun h => ?_) (fun h => ?_)
  · skip
    have h1 : 0 < n ∧ k = 0 := by
      simp only [decide_eq_true_eq] at h
      rw [ws_len] at h hk
      split at h <;> omega
    obtain ⟨h1, rfl⟩ := h1
    rw [ws_pos h1] at hs ht
    have hlw : (ws n x).length = 1 := by rw [ws_len, if_neg (by omega)]
    have hle := andN_le x y
    have hfl := fr_le y x
    rw [if_pos (rfl : (0 : Nat) = 0)]
    refine cw_skip (post_then (cw_seq (cw_block (cw_seq (cw_region (sr rfl rfl rfl ((q_move rfl rfl)) (sr rfl rfl rfl ((q_assign rfl rfl)) (sw_nil (post_then ?_)))))))))
    refine cw_region_q mixed_Tryz (by kernel_rfl) ?_
    refine qr rfl rfl rfl ((q_move rfl rfl)) (qr rfl rfl rfl ((q_move rfl rfl)) (qr rfl rfl rfl ((q_move rfl rfl)) ?_))
    refine qr rfl rfl rfl ((q_indexN rfl rfl rfl (by exact fun w hw => Stb.cl (by assumption) hw) (by intro hc; (simp only [List.length_set, List.length_append, List.length_cons, List.length_nil, List.length_replicate, List.length_take, List.length_drop, List.length_map]; omega)))) ?_
    refine qr rfl rfl rfl ((q_loadEl rfl rfl rfl (by exact fun w hw => Stb.cl (by assumption) hw) (by intro hc; (simp only [List.length_set, List.length_append, List.length_cons, List.length_nil, List.length_replicate, List.length_take, List.length_drop, List.length_map]; omega)))) ?_
    refine qr rfl rfl rfl ((q_move rfl rfl)) (qr rfl rfl rfl ((q_move rfl rfl)) ?_)
    refine qr rfl rfl rfl ((q_indexN rfl rfl rfl (by exact fun w hw => Stb.cl (by assumption) hw) (by intro hc; (simp only [List.length_set, List.length_append, List.length_cons, List.length_nil, List.length_replicate, List.length_take, List.length_drop, List.length_map]; omega)))) ?_
    refine qr rfl rfl rfl ((q_loadEl rfl rfl rfl (by exact fun w hw => Stb.cl (by assumption) hw) (by intro hc; (simp only [List.length_set, List.length_append, List.length_cons, List.length_nil, List.length_replicate, List.length_take, List.length_drop, List.length_map]; omega)))) ?_
    refine qr rfl rfl rfl ((q_andNK (a := x) (b := y) rfl rfl rfl (fun _ => by omega))) ?_
    refine qw_step rfl rfl rfl (q_call (v := .int .i64 (fr y x)) (CanCall.mk Tryz.call119) rfl (.cons rfl inferInstance (.nil)) (fun _ w hw => callq hw (by rw [fr]; exact ones_spec (andN x y) (by omega) w))) ?_
    refine qr rfl rfl rfl ((q_add rfl rfl rfl (by intro hc; omega))) ?_
    refine qr rfl rfl rfl ((q_assign rfl rfl)) (qw_end (post_blk (post_then (cw_region ?_))))
    refine sr rfl rfl rfl ((q_add rfl rfl rfl (by intro hc; omega))) ?_
    refine sr rfl rfl rfl ((q_move rfl rfl)) (sw_nil ?_)
    refine post_next 1 ?_ (fun _ h => h) (by omega) (by omega)
    exact Le.cons rfl (Le.cons rfl (Le.cons' rfl (by congr 1; rw [if_neg (by decide)]; omega) (Le.cons rfl (Le.cons rfl Le.nil))))
  · skip
    have h1 : k = (ws n x).length := by simp only [decide_eq_false_iff_not] at h; omega
    subst h1
    refine cw_exit (post_then_x (post_then_x (post_blk_eq (post_then (cw_seq (cw_region (sr rfl rfl rfl ((q_move rfl rfl)) (sr rfl rfl rfl ((q_assign rfl rfl)) (sw_nil (post_then (cw_ret (post_ret1 rfl (resOk_tmp rfl) ?_))))))))))))
    refine fun w' hw => ⟨?_, hw⟩
    by_cases hn : n = 0
    · rw [if_pos (by rw [ws_len, if_pos hn]), h0 hn, fr_sum, sumB_zero.2 (fun i _ => by simp)]
      rfl
    · rw [if_neg (by rw [ws_len, if_neg hn]; decide)]
end Go.Proofs.YtomjbfeafodfbaaGreat

set_option autoImplicit false
set_option maxRecDepth 100000
namespace Go.Proofs.YtomjbfeafodfbaaGreat
open Go.Sx
open Enc (enc val)
structure CV where
  bc : Nat
  n : Nat
  ss : SlV
  ls : List SlV
  sa : SlV
  ms : List Nat
structure CV.Rd (c : CV) (w : World) : Prop where
  bk : BlkAt c.bc [.int .i64 c.n, c.ss.v, c.sa.v] 117 w
  ss : RdL c.ss.v c.ls w
  ll : c.ls.length = c.ms.length
  mm : ∀ i, i < c.ms.length → RdL (nth c.ls i).v (ws c.n (nth c.ms i)) w
  sa : RdL c.sa.v (ws c.n (fullN c.n)) w
structure CV.Ok (c : CV) : Prop where
  n : c.n ≤ 30
  m : MsOk c.n c.ms
  l : c.ms.length ≤ 1000
theorem CV.Ok.lt {c : CV} (h : c.Ok) (i : Nat) : nth c.ms i < 4294967296 := by
  have := lt_of_bits h.n (fun j hj => msOk_nth h.m i j hj); omega
theorem CV.Ok.full {c : CV} (h : c.Ok) : fullN c.n < 4294967296 := by
  have := lt_of_bits h.n (m := fullN c.n) (fun j hj => by simpa [fullN_bit] using hj); omega
theorem CV.Ok.un {c : CV} (h : c.Ok) (f k : Nat) : unTo (c.ms.drop f) k < 4294967296 := by
  have := lt_of_bits h.n (m := unTo (c.ms.drop f) k) (fun j hj => unTo_in (fun m hm => h.m m (List.mem_of_mem_drop hm)) hj); omega
theorem CV.Ok.g {c : CV} (h : c.Ok) (k : Nat) : (giter c.n c.ms k).g < 4294967296 := by
  have := lt_of_bits h.n (m := (giter c.n c.ms k).g) (fun j hj => giter_bits h.m hj); omega
theorem ws_zero (n x : Nat) : List.replicate (ws n x).length (⟨0⟩ : UW) = ws n 0 := by
  unfold ws; split <;> rfl
theorem union_spec (c : CV) (ok : c.Ok) (f : Nat) (hf : f ≤ c.ms.length) (w : World) (hR : Stb w [] c.Rd) : Calls Tryz.prog 101 #[.pointer (some ⟨c.bc, 0, none⟩), .int .i64 f] w fun e w' => ∃ r : SlV, e = .returned r.v ∧ True ∧ Cl w [] [ownL 156 r.v (ws c.n (unTo (c.ms.drop f) (c.ms.length - f)))] w' := by
  have hbk := stb_map hR fun _ h => h.bk
  have hss := stb_map hR fun _ h => h.ss
  have hsa := stb_map hR fun _ h => h.sa
  have hll := hR.here.ll
  have hl := ok.l
  have hwl : (ws c.n (fullN c.n)).length ≤ 1 := by rw [ws_len]; split <;> omega
  refine calls_cw (vs := [_, _]) Tryz.func101 rfl Tryz.ntmps101 rfl (Cl.start0 w) (cw_seq (cw_region (sr rfl rfl rfl ((q_assign rfl rfl)) (sw_nil (post_then (cw_seq (cw_region (sr rfl rfl rfl ((q_move rfl rfl)) (sr rfl rfl rfl ((q_nilCheck rfl rfl)) (sr rfl rfl rfl ((q_fieldAddr rfl rfl)) ?_))))))))))
  refine sr rfl rfl rfl ((q_loadS rfl rfl (fun w hw => Stb.cl (by assumption) hw) rfl)) ?_
  refine sr rfl rfl rfl ((q_len rfl (.cons rfl inferInstance (.nil)) (by exact fun w hw => Stb.cl (by assumption) hw))) ?_
  refine sw_x rfl rfl rfl (e_make (α := UW) (zero := ⟨0⟩) rfl rfl rfl rfl rfl (by omega) (by omega) (by decide)) (fun s13 => ?_)
  rw [Int.toNat_natCast, ws_zero]
  refine sr rfl rfl rfl ((q_assign rfl rfl)) (sw_nil (post_then (cw_seq (cw_seq (cw_region (sr rfl rfl rfl ((q_move rfl rfl)) (sr rfl rfl rfl ((q_nilCheck rfl rfl)) (sr rfl rfl rfl ((q_fieldAddr rfl rfl)) ?_))))))))
  refine sr rfl rfl rfl ((q_loadS rfl rfl (fun w hw => Stb.cl (by assumption) hw) rfl)) ?_
  refine sr rfl rfl rfl ((q_move rfl rfl)) ?_
  refine sr rfl rfl rfl ((q_sliceL rfl rfl rfl (by exact fun w hw => Stb.cl (by assumption) hw) (by intro hc; omega))) ?_
  refine sr rfl rfl rfl ((q_lenV rfl (.cons rfl inferInstance (.nil)))) (sr rfl rfl rfl ((q_move rfl rfl)) (sw_nil (post_then (cw_block ?_))))
  refine cw_loop (S := Nat × SlV) (fun y => [(5, [], y.2.v), (19, [], (c.ss.sub 1 f c.ls.length).v), (20, [], .int .i64 (c.ms.length - f : Nat)), (21, [], .int .i64 y.1)]) (fun y => Cl w [] [ownL 156 y.2.v (ws c.n (unTo (c.ms.drop f) y.1))]) (fun y => y.1 ≤ c.ms.length - f) (fun y => c.ms.length - f - y.1) (0, s13) (Nat.zero_le _) ?_ (fun _ h => h) ?_
  · exact Le.cons rfl (Le.cons rfl (Le.cons' rfl (by simp only [SlV.sub, Int.toNat_natCast, hll]) (Le.cons rfl Le.nil)))
  rintro ⟨k, s5⟩ hk
  dsimp only at hk ⊢
  refine cw_seq (cw_region (sr rfl rfl rfl ((q_lss rfl rfl rfl)) (sw_nil (post_then (cw_seq ?_)))))
  refine cw_cond rfl (fun h => ?_) (fun h => ?_)
  · skip
    have hk' : k < c.ms.length - f := by simp only [decide_eq_true_eq] at h; omega
    have hrow := stb_map hR fun _ h => h.mm (f + k) (by omega)
    have hx := ok.un f k
    have hy := ok.lt (f + k)
    refine cw_skip (post_then (cw_seq (cw_block (cw_seq (cw_region ?_)))))
    refine sr rfl rfl rfl ((q_indexSub rfl rfl rfl (by exact fun w hw => Stb.cl (by assumption) hw) rfl (by intro hc; omega))) ?_
    refine sr rfl rfl rfl ((q_loadEl rfl rfl rfl (by exact fun w hw => Stb.cl (by assumption) hw) (by intro hc; omega))) ?_
    refine sr rfl rfl rfl ((q_assign rfl rfl)) (sw_nil (post_then (cw_region (sr rfl rfl rfl ((q_move rfl rfl)) (sr rfl rfl rfl ((q_move rfl rfl)) ?_)))))
    refine sw_x rfl rfl rfl (e_call (CanCall.mk Tryz.call120) rfl (.cons rfl inferInstance (.cons rfl inferInstance (.nil))) (fun w hw => join_spec _ _ c.n _ _ hx hy w (by exact stb_own hw (by exact .head _)) (by exact stb_arg hw (by assumption)))) (fun x27 => ?_)
    refine sw_imp (fun hx27 => ?_)
    refine sr rfl rfl rfl ((q_assign rfl rfl)) (sw_nil (post_blk (post_then (cw_region ?_))))
    refine sr rfl rfl rfl ((q_add rfl rfl rfl (by intro hc; omega))) ?_
    refine sr rfl rfl rfl ((q_move rfl rfl)) (sw_nil ?_)
    refine post_next (k + 1, x27) (by exact .cons rfl (.cons rfl (.cons rfl (.cons rfl .nil)))) (fun w3 hw3 => ?_) (by simp only; omega) (by simp only; omega)
    simp only [unTo, nth_drop]
    exact (fun w h => Cl.sel (by exact .take 0 rfl (.nil _)) w h) _ hw3
  · skip
    have hk' : k = c.ms.length - f := by simp only [decide_eq_false_iff_not] at h; omega
    subst hk'
    refine cw_exit (post_then_x (post_then_x (post_blk_eq (post_then (cw_seq (cw_region (sr rfl rfl rfl ((q_move rfl rfl)) (sr rfl rfl rfl ((q_assign rfl rfl)) (sw_nil (post_then (cw_ret (post_ret1 rfl (resOk_tmp rfl) ?_))))))))))))
    exact fun w' hw => ⟨s5, rfl, trivial, hw⟩
theorem covers_spec (c : CV) (ok : c.Ok) (w : World) (hR : Stb w [] c.Rd) : Calls Tryz.prog 77 #[.pointer (some ⟨c.bc, 0, none⟩)] w fun e w' => e = .returned (.bool (possN c.n c.ms)) ∧ Cl w [] [] w' := by
  have hbk := stb_map hR fun _ h => h.bk
  have hsa := stb_map hR fun _ h => h.sa
  have h1 := ok.full
  have h2 := ok.un 0 (c.ms.length - 0)
  have h3 : c.n = 0 → fullN c.n = 0 := fun e => by rw [e]; rfl
  refine calls_cw (vs := [_]) Tryz.func77 rfl Tryz.ntmps77 rfl (Cl.start0 w) (cw_seq (cw_region (sr rfl rfl rfl ((q_assign rfl rfl)) (sw_nil (post_then (cw_seq (cw_region_a (Cl w [] []) [] mixed_Tryz ?_)))))))
  refine aw_pure 0 rfl (by kernel_rfl) (by kernel_rfl) (by kernel_rfl) (by kernel_rfl) (by kernel_rfl) rfl rfl rfl (q_move rfl rfl) ?_
  refine aw_pure 1 rfl (by kernel_rfl) (by kernel_rfl) (by kernel_rfl) (by kernel_rfl) (by kernel_rfl) rfl rfl rfl (q_nilCheck rfl rfl) ?_
  refine aw_take 2 (fun w h => Cl.sel (by exact .nil _) w h) rfl (by kernel_rfl) (by kernel_rfl) (by kernel_rfl) (by kernel_rfl) (by kernel_rfl) (by kernel_rfl) rfl rfl rfl (q_fieldAddr rfl rfl) ?_
  refine aw_take 3 (fun w h => Cl.sel (by exact .nil _) w h) rfl (by kernel_rfl) (by kernel_rfl) (by kernel_rfl) (by kernel_rfl) (by kernel_rfl) (by kernel_rfl) rfl rfl rfl (q_loadS rfl rfl (fun w hw => Stb.cl (by assumption) hw) rfl) ?_
  refine aw_pure 4 rfl (by kernel_rfl) (by kernel_rfl) (by kernel_rfl) (by kernel_rfl) (by kernel_rfl) rfl rfl rfl (q_move rfl rfl) ?_
  refine aw_x 5 (by kernel_rfl) rfl rfl rfl rfl (e_call (CanCall.mk Tryz.call101) rfl (.cons rfl inferInstance (.cons rfl inferInstance (.nil))) (fun w hw => union_spec c ok 0 (Nat.zero_le _) w (stb_arg hw hR))) (by intro hb; exact fun _ w h => (fun w h => Cl.sel (by exact .nil _) w h) w h.2) (fun x8 => ?_)
  refine aw_imp (fun hx8 => ?_)
  refine aw_q 6 (by kernel_rfl) rfl rfl rfl rfl (q_call (CanCall.mk Tryz.call76) rfl (.cons rfl inferInstance (.cons rfl inferInstance (.nil))) (fun _ w hw => callq hw (without_spec _ _ c.n _ _ h1 h2 h3 w (by exact stb_arg hw (by assumption)) (by exact stb_own hw (by exact .head _))))) (by intro hb; exact (fun w h => Cl.sel (by exact .nil _) w h)) ?_
  refine aw_pure 7 rfl (by kernel_rfl) (by kernel_rfl) (by kernel_rfl) (by kernel_rfl) (by kernel_rfl) rfl rfl rfl (q_eql rfl rfl rfl) ?_
  refine aw_pure 8 rfl (by kernel_rfl) (by kernel_rfl) (by kernel_rfl) (by kernel_rfl) (by kernel_rfl) rfl rfl rfl (q_assign rfl rfl) ?_
  refine aw_end (by kernel_rfl) ?_
  refine post_then (cw_ret (post_ret1 rfl (resOk_tmp rfl) ?_))
  refine fun w' hw => ⟨?_, (fun w h => Cl.sel (by exact .nil _) w h) _ hw⟩
  simp only [List.drop_zero, Nat.sub_zero, possN]
  congr 2
  rw [decide_eq_decide]; omega
end Go.Proofs.YtomjbfeafodfbaaGreat

set_option autoImplicit false
set_option maxRecDepth 100000
namespace Go.Proofs.YtomjbfeafodfbaaGreat
open Go.Sx
open Enc (enc val)
structure GDone (n : Nat) (ms : List Nat) (k : Nat) (l : List Int) : Prop where
  ok : GOk n ms k
  full : fr (giter n ms k).g (fullN n) = 0
  perm : l.Perm (giter n ms k).out
  srt : Srt l 0 l.length
structure GX where
  k : Nat
  so : SlV
  sg : SlV
theorem greedy_spec (c : CV) (ok : c.Ok) (h8 : c.ms.length ≤ 8) (hp : possN c.n c.ms = true) (w : World) (hR : Stb w [] c.Rd) : Calls Tryz.prog 78 #[.pointer (some ⟨c.bc, 0, none⟩)] w fun e w' => ∃ y : (SlV × SlV) × (List Int × Nat), e = .returned (.tuple #[y.1.1.v, y.1.2.v]) ∧ GDone c.n c.ms y.2.2 y.2.1 ∧ Cl w [] [ownL 3 y.1.1.v y.2.1, ownL 3 y.1.2.v (giter c.n c.ms y.2.2).sh] w' := by
  have hbk := stb_map hR fun _ h => h.bk
  have hss := stb_map hR fun _ h => h.ss
  have hsa := stb_map hR fun _ h => h.sa
  have hll := hR.here.ll
  have hn := ok.n
  have hwl : ∀ x, (ws c.n x).length ≤ 1 := fun x => by rw [ws_len]; split <;> omega
  have f1 := ok.full
  have f3 : c.n = 0 → fullN c.n = 0 := fun e => by rw [e]; rfl
  refine calls_cw (vs := [_]) Tryz.func78 rfl Tryz.ntmps78 rfl (Cl.start0 w) (cw_seq (cw_region (sr rfl rfl rfl ((q_assign rfl rfl)) (sr rfl rfl rfl ((q_assign rfl rfl)) (sw_nil (post_then (cw_seq (cw_region (sr rfl rfl rfl ((q_assign rfl rfl)) (sw_nil (post_then (cw_seq (cw_region (sr rfl rfl rfl ((q_move rfl rfl)) (sr rfl rfl rfl ((q_nilCheck rfl rfl)) (sr rfl rfl rfl ((q_fieldAddr rfl rfl)) ?_))))))))))))))))
  refine sr rfl rfl rfl ((q_loadS rfl rfl (fun w hw => Stb.cl (by assumption) hw) rfl)) ?_
  refine sw_x rfl rfl rfl (e_make (α := Int) (zero := 0) rfl rfl rfl rfl rfl (by omega) (by omega) (by decide)) (fun s17 => ?_)
  refine sr rfl rfl rfl ((q_assign rfl rfl)) (sw_nil (post_then (cw_seq (cw_region (sr rfl rfl rfl ((q_move rfl rfl)) (sr rfl rfl rfl ((q_nilCheck rfl rfl)) (sr rfl rfl rfl ((q_fieldAddr rfl rfl)) ?_)))))))
  refine sr rfl rfl rfl ((q_loadS rfl rfl (fun w hw => Stb.cl (by assumption) hw) rfl)) ?_
  refine sr rfl rfl rfl ((q_len rfl (.cons rfl inferInstance (.nil)) (by exact fun w hw => Stb.cl (by assumption) hw))) ?_
  refine sw_x rfl rfl rfl (e_make (α := UW) (zero := ⟨0⟩) rfl rfl rfl rfl rfl (by omega) (by have := hwl (fullN c.n); omega) (by decide)) (fun s23 => ?_)
  rw [Int.toNat_natCast, Int.toNat_natCast, ws_zero]
  refine sw_le (C' := Cl w [] [ownL 3 (SlV.v ⟨none, 0, 0⟩) ([] : List Int), ownL 156 s23.v (ws c.n 0), ownL 3 s17.v (List.replicate c.n (0 : Int))]) (fun w' hw => hw.addNil (α := Int) 3) (sr rfl rfl rfl ((q_assign rfl rfl)) (sw_nil (post_then (cw_seq (cw_block ?_)))))
  refine cw_loop (S := GX) (fun y => [(0, [], .pointer (some ⟨c.bc, 0, none⟩)), (4, [], y.so.v), (5, [], s17.v), (6, [], y.sg.v)]) (fun y => Cl w [] [ownL 3 y.so.v (giter c.n c.ms y.k).out, ownL 156 y.sg.v (ws c.n (giter c.n c.ms y.k).g), ownL 3 s17.v (giter c.n c.ms y.k).sh]) (fun y => GOk c.n c.ms y.k) (fun y => fr (giter c.n c.ms y.k).g (fullN c.n)) ⟨0, ⟨none, 0, 0⟩, s23⟩ (fun j hj => by simp only at hj; omega) (by exact .cons rfl (.cons rfl (.cons rfl (.cons rfl .nil)))) (fun _ h => h) ?_
  rintro ⟨k, so, sg⟩ hG
  dsimp only at hG ⊢
  have g1 := ok.g k
  have hsh := giter_sh c.n c.ms k
  have hol := giter_out c.n c.ms k
  have hkn := giter_bd (by omega) ok.m hG
  have hk8 := giter_few hG
  generalize hst : giter c.n c.ms k = st at *
  obtain ⟨g, out, sh⟩ := st
  dsimp only at g1 hsh hol ⊢
  refine cw_seq (cw_seq (cw_region (sr rfl rfl rfl ((q_move rfl rfl)) (sr rfl rfl rfl ((q_nilCheck rfl rfl)) (sr rfl rfl rfl ((q_fieldAddr rfl rfl)) ?_)))))
  refine sr rfl rfl rfl ((q_loadS rfl rfl (fun w hw => Stb.cl (by assumption) hw) rfl)) ?_
  refine sr rfl rfl rfl ((q_move rfl rfl)) ?_
  refine sw_step rfl rfl rfl (q_call (CanCall.mk Tryz.call76) rfl (.cons rfl inferInstance (.cons rfl inferInstance (.nil))) (fun _ w hw => callq hw (without_spec _ _ c.n _ _ f1 g1 f3 w (by exact stb_arg hw (by assumption)) (by exact stb_own hw (by exact .tail _ (.head _)))))) ?_
  refine sr rfl rfl rfl ((q_gtr rfl rfl rfl)) (sw_nil (post_then ?_))
  refine cw_cond rfl (fun h => ?_) (fun h => ?_)
  · skip
    have h0 : fr g (fullN c.n) ≠ 0 := by simp only [decide_eq_true_eq] at h; omega
    obtain ⟨i, hi, hb, hpos⟩ := best_pos (by omega) hp h0
    have hn0 : 0 < c.n := by
      by_cases e : c.n = 0
      · exfalso; apply h0; rw [f3 e, fr_zero]; intro i _ hi; simp at hi
      · omega
    refine cw_skip (post_then (cw_block (cw_seq (cw_region (sr rfl rfl rfl ((q_assign rfl rfl)) (sr rfl rfl rfl ((q_assign rfl rfl)) (sw_nil (post_then (cw_seq (cw_seq (cw_region (sr rfl rfl rfl ((q_move rfl rfl)) (sr rfl rfl rfl ((q_nilCheck rfl rfl)) (sr rfl rfl rfl ((q_fieldAddr rfl rfl)) ?_))))))))))))))
    refine sr rfl rfl rfl ((q_loadS rfl rfl (fun w hw => Stb.cl (by assumption) hw) rfl)) ?_
    refine sr rfl rfl rfl ((q_len rfl (.cons rfl inferInstance (.nil)) (by exact fun w hw => Stb.cl (by assumption) hw))) ?_
    refine sr rfl rfl rfl ((q_move rfl rfl)) (sw_nil (post_then (cw_block ?_)))
    refine cw_loop (S := Nat) (fun j => [(0, [], .pointer (some ⟨c.bc, 0, none⟩)), (4, [], so.v), (5, [], s17.v), (6, [], sg.v), (7, [], .int .i64 (bestTo c.ms g j).1), (8, [], .int .i64 (bestTo c.ms g j).2), (34, [], c.ss.v), (35, [], .int .i64 c.ms.length), (36, [], .int .i64 j)]) (fun _ => Cl w [] [ownL 3 so.v out, ownL 156 sg.v (ws c.n g), ownL 3 s17.v sh]) (fun j => j ≤ c.ms.length) (fun j => c.ms.length - j) 0 (Nat.zero_le _) ?_ (fun _ h => h) ?_
    · exact Le.cons rfl (Le.cons rfl (Le.cons rfl (Le.cons rfl (Le.cons rfl (Le.cons rfl (Le.cons rfl (Le.cons' rfl (by rw [hll]) (Le.cons rfl Le.nil))))))))
    intro j hj
    refine cw_seq (cw_region (sr rfl rfl rfl ((q_lss rfl rfl rfl)) (sw_nil (post_then (cw_seq ?_)))))
    refine cw_cond rfl (fun h2 => ?_) (fun h2 => ?_)
    · skip
      have hj' : j < c.ms.length := by simp only [decide_eq_true_eq] at h2; omega
      have hrow := stb_map hR fun _ h => h.mm j hj'
      have m1 := ok.lt j
      have m3 : c.n = 0 → nth c.ms j = 0 := fun e => by omega
      refine cw_skip (post_then (cw_seq (cw_block (cw_seq (cw_region (sr rfl rfl rfl ((q_move rfl rfl)) ?_))))))
      refine sr rfl rfl rfl ((q_indexN rfl rfl rfl (by exact fun w hw => Stb.cl (by assumption) hw) (by intro hc; omega))) ?_
      refine sr rfl rfl rfl ((q_loadEl rfl rfl rfl (by exact fun w hw => Stb.cl (by assumption) hw) (by intro hc; omega))) ?_
      refine sr rfl rfl rfl ((q_assign rfl rfl)) (sr rfl rfl rfl ((q_assign rfl rfl)) (sw_nil (post_then (cw_seq (cw_region (sr rfl rfl rfl ((q_move rfl rfl)) (sr rfl rfl rfl ((q_move rfl rfl)) ?_)))))))
      refine sw_step rfl rfl rfl (q_call (CanCall.mk Tryz.call76) rfl (.cons rfl inferInstance (.cons rfl inferInstance (.nil))) (fun _ w hw => callq hw (without_spec _ _ c.n _ _ m1 g1 m3 w (by exact stb_arg hw (by assumption)) (by exact stb_own hw (by exact .tail _ (.head _)))))) ?_
      refine sr rfl rfl rfl ((q_assign rfl rfl)) (sw_nil (post_then (cw_seq (cw_region (sr rfl rfl rfl ((q_move rfl rfl)) (sr rfl rfl rfl ((q_move rfl rfl)) (sr rfl rfl rfl ((q_gtr rfl rfl rfl)) (sw_nil (post_then ?_)))))))))
      refine cw_cut (S := Unit) (fun _ => [(0, [], .pointer (some ⟨c.bc, 0, none⟩)), (4, [], so.v), (5, [], s17.v), (6, [], sg.v), (7, [], .int .i64 (bestTo c.ms g (j + 1)).1), (8, [], .int .i64 (bestTo c.ms g (j + 1)).2), (34, [], c.ss.v), (35, [], .int .i64 c.ms.length), (36, [], .int .i64 j)]) (fun _ => Cl w [] [ownL 3 so.v out, ownL 156 sg.v (ws c.n g), ownL 3 s17.v sh]) (fun _ => True) ?_ ?_
      · refine cw_cond rfl (fun h3 => ?_) (fun h3 => ?_)
        · skip
          have h4 : bestTo c.ms g (j + 1) = ((j : Int), fr g (nth c.ms j)) := by
            rw [bestTo, if_pos (by simp only [decide_eq_true_eq] at h3; omega)]
          refine cw_region (sr rfl rfl rfl ((q_move rfl rfl)) (sr rfl rfl rfl ((q_move rfl rfl)) (sr rfl rfl rfl ((q_assign rfl rfl)) (sr rfl rfl rfl ((q_assign rfl rfl)) (sw_nil ?_)))))
          refine post_meet () ?_ (fun _ h => h) trivial
          rw [h4]
          exact (by exact .cons rfl (.cons rfl (.cons rfl (.cons rfl (.cons rfl (.cons rfl (.cons rfl (.cons rfl (.cons rfl .nil)))))))))
        · skip
          have h4 : bestTo c.ms g (j + 1) = bestTo c.ms g j := by
            rw [bestTo, if_neg (by simp only [decide_eq_false_iff_not] at h3; omega)]
          refine cw_skip ?_
          refine post_meet () ?_ (fun _ h => h) trivial
          rw [h4]
          exact (by exact .cons rfl (.cons rfl (.cons rfl (.cons rfl (.cons rfl (.cons rfl (.cons rfl (.cons rfl (.cons rfl .nil)))))))))
      · intro _ _
        refine post_blk (post_then (cw_region ?_))
        refine sr rfl rfl rfl ((q_add rfl rfl rfl (by intro hc; omega))) ?_
        refine sr rfl rfl rfl ((q_move rfl rfl)) (sw_nil ?_)
        exact post_next (j + 1) (by exact .cons rfl (.cons rfl (.cons rfl (.cons rfl (.cons rfl (.cons rfl (.cons rfl (.cons rfl (.cons rfl .nil))))))))) (fun _ h => h) (by omega) (by omega)
    · skip
      have hj' : j = c.ms.length := by simp only [decide_eq_false_iff_not] at h2; omega
      subst hj'
      have hb2 : bestTo c.ms g c.ms.length = ((i : Int), fr g (nth c.ms i)) := hb
      rw [hb2]
      dsimp only
      have hrow := stb_map hR fun _ h => h.mm i hi
      have m1 := ok.lt i
      have hrow1 : Stb w [] (RdL (nth c.ls i).v [UW.mk (nth c.ms i)]) := by rw [← ws_pos hn0]; exact hrow
      refine cw_exit (post_then_x (post_then_x (post_blk_eq (post_then (cw_seq (cw_seq (cw_region (sr rfl rfl rfl ((q_move rfl rfl)) (sr rfl rfl rfl ((q_nilCheck rfl rfl)) (sr rfl rfl rfl ((q_fieldAddr rfl rfl)) ?_))))))))))
      refine sr rfl rfl rfl ((q_loadS rfl rfl (fun w hw => Stb.cl (by assumption) hw) rfl)) ?_
      refine sr rfl rfl rfl ((q_move rfl rfl)) (sw_nil (post_then (cw_block ?_)))
      refine cw_loop (S := Nat) (fun x => [(0, [], .pointer (some ⟨c.bc, 0, none⟩)), (4, [], so.v), (5, [], s17.v), (6, [], sg.v), (7, [], .int .i64 i), (8, [], .int .i64 (fr g (nth c.ms i))), (53, [], .int .i64 c.n), (54, [], .int .i64 x)]) (fun x => Cl w [] [ownL 3 so.v out, ownL 156 sg.v [UW.mk g], ownL 3 s17.v (shUp c.n g (nth c.ms i) (fr g (nth c.ms i)) sh x)]) (fun x => x ≤ c.n) (fun x => c.n - x) 0 (Nat.zero_le _) (by exact .cons rfl (.cons rfl (.cons rfl (.cons rfl (.cons rfl (.cons rfl (.cons rfl (.cons rfl .nil)))))))) (fun w3 h => by rw [ws_pos hn0] at h; exact h) ?_
      intro x hx
      have hsl := shUp_len c.n g (nth c.ms i) (fr g (nth c.ms i)) sh x
      refine cw_seq (cw_region (sr rfl rfl rfl ((q_lss rfl rfl rfl)) (sw_nil (post_then (cw_seq ?_)))))
      refine cw_cond rfl (fun h3 => ?_) (fun h3 => ?_)
      · skip
        have hx' : x < c.n := by simp only [decide_eq_true_eq] at h3; omega
        refine cw_skip (post_then (cw_seq (cw_block (cw_seq (cw_region (sr rfl rfl rfl ((q_move rfl rfl)) (sr rfl rfl rfl ((q_assign rfl rfl)) (sw_nil (post_then (cw_seq (cw_region (sr rfl rfl rfl ((q_move rfl rfl)) (sr rfl rfl rfl ((q_nilCheck rfl rfl)) (sr rfl rfl rfl ((q_fieldAddr rfl rfl)) ?_))))))))))))))
        refine sr rfl rfl rfl ((q_loadS rfl rfl (fun w hw => Stb.cl (by assumption) hw) rfl)) ?_
        refine sr rfl rfl rfl ((q_move rfl rfl)) ?_
        refine sr rfl rfl rfl ((q_indexN rfl rfl rfl (by exact fun w hw => Stb.cl (by assumption) hw) (by intro hc; omega))) ?_
        refine sr rfl rfl rfl ((q_loadEl rfl rfl rfl (by exact fun w hw => Stb.cl (by assumption) hw) (by intro hc; omega))) ?_
        refine sr rfl rfl rfl ((q_move rfl rfl)) ?_
        refine sw_step rfl rfl rfl (q_call (CanCall.mk Tryz.call83) rfl (.cons rfl inferInstance (.cons rfl inferInstance (.nil))) (fun _ w hw => callq hw (has_spec _ (nth c.ms i) x (by omega) m1 w (stb_arg hw hrow1)))) ?_
        refine sr rfl rfl rfl ((q_move rfl rfl)) (sr rfl rfl rfl ((q_move rfl rfl)) (sr rfl rfl rfl ((q_move rfl rfl)) ?_))
        refine sw_step rfl rfl rfl (q_call (CanCall.mk Tryz.call83) rfl (.cons rfl inferInstance (.cons rfl inferInstance (.nil))) (fun _ w hw => callq hw (has_spec _ g x (by omega) g1 w (by exact stb_own hw (by exact .tail _ (.head _)))))) ?_
        refine sr rfl rfl rfl ((q_not rfl rfl)) (sr rfl rfl rfl ((q_and2 rfl rfl rfl)) (sw_nil (post_then ?_)))
        refine cw_cut (S := Unit) (fun _ => [(0, [], .pointer (some ⟨c.bc, 0, none⟩)), (4, [], so.v), (5, [], s17.v), (6, [], sg.v), (7, [], .int .i64 i), (8, [], .int .i64 (fr g (nth c.ms i))), (53, [], .int .i64 c.n), (54, [], .int .i64 x)]) (fun _ => Cl w [] [ownL 3 so.v out, ownL 156 sg.v [UW.mk g], ownL 3 s17.v (shUp c.n g (nth c.ms i) (fr g (nth c.ms i)) sh (x + 1))]) (fun _ => True) ?_ ?_
        · refine cw_cond rfl (fun h4 => ?_) (fun h4 => ?_)
          · skip
            refine cw_region (sr rfl rfl rfl ((q_move rfl rfl)) (sr rfl rfl rfl ((q_move rfl rfl)) (sr rfl rfl rfl ((q_move rfl rfl)) ?_)))
            refine sr rfl rfl rfl ((q_indexN rfl rfl rfl (by exact fun w hw => rd_own hw (by exact .tail _ (.tail _ (.head _)))) (by intro hc; omega))) ?_
            refine sw_eff0 rfl rfl (e_storeEl1 (i := 2) rfl rfl rfl rfl rfl (by omega)) ?_
            refine sw_nil ?_
            refine post_meet () (by exact .cons rfl (.cons rfl (.cons rfl (.cons rfl (.cons rfl (.cons rfl (.cons rfl (.cons rfl .nil)))))))) (fun w3 hw3 => ?_) trivial
            rw [shUp, if_pos h4]
            exact hw3
          · skip
            refine cw_skip ?_
            refine post_meet () (by exact .cons rfl (.cons rfl (.cons rfl (.cons rfl (.cons rfl (.cons rfl (.cons rfl (.cons rfl .nil)))))))) (fun w3 hw3 => ?_) trivial
            rw [shUp, if_neg (by rw [h4]; decide)]
            exact hw3
        · intro _ _
          refine post_blk (post_then (cw_region ?_))
          refine sr rfl rfl rfl ((q_add rfl rfl rfl (by intro hc; omega))) ?_
          refine sr rfl rfl rfl ((q_move rfl rfl)) (sw_nil ?_)
          exact post_next (x + 1) (by exact .cons rfl (.cons rfl (.cons rfl (.cons rfl (.cons rfl (.cons rfl (.cons rfl (.cons rfl .nil)))))))) (fun _ h => h) (by omega) (by omega)
      · skip
        have hx' : x = c.n := by simp only [decide_eq_false_iff_not] at h3; omega
        subst hx'
        refine cw_c (C' := Cl w [] [ownL 3 so.v out, ownL 156 sg.v (ws c.n g), ownL 3 s17.v (shUp c.n g (nth c.ms i) (fr g (nth c.ms i)) sh c.n)]) (fun w3 h => by rw [ws_pos hn0]; exact h) ?_
        refine cw_exit (post_then_x (post_then_x (post_blk_eq (post_then (cw_seq (cw_region (sr rfl rfl rfl ((q_move rfl rfl)) (sr rfl rfl rfl ((q_move rfl rfl)) (sr rfl rfl rfl ((q_nilCheck rfl rfl)) (sr rfl rfl rfl ((q_fieldAddr rfl rfl)) ?_))))))))))
        refine sr rfl rfl rfl ((q_loadS rfl rfl (fun w hw => Stb.cl (by assumption) hw) rfl)) ?_
        refine sr rfl rfl rfl ((q_move rfl rfl)) ?_
        refine sr rfl rfl rfl ((q_indexN rfl rfl rfl (by exact fun w hw => Stb.cl (by assumption) hw) (by intro hc; omega))) ?_
        refine sr rfl rfl rfl ((q_loadEl rfl rfl rfl (by exact fun w hw => Stb.cl (by assumption) hw) (by intro hc; omega))) ?_
        refine sw_x rfl rfl rfl (e_call (CanCall.mk Tryz.call120) rfl (.cons rfl inferInstance (.cons rfl inferInstance (.nil))) (fun w hw => join_spec _ _ c.n _ _ g1 m1 w (by exact stb_own hw (by exact .tail _ (.head _))) (by exact stb_arg hw (by assumption)))) (fun x85 => ?_)
        refine sw_imp (fun hx85 => ?_)
        refine sr rfl rfl rfl ((q_assign rfl rfl)) (sw_nil (post_then (cw_region (sr rfl rfl rfl ((q_move rfl rfl)) (sr rfl rfl rfl ((q_move rfl rfl)) ?_)))))
        refine sw_x rfl rfl rfl (e_build1 (α := Int) rfl rfl rfl rfl) (fun s88 => ?_)
        refine sw_x rfl rfl rfl (e_append (i := 2) rfl (.cons rfl inferInstance (.cons rfl inferInstance (.nil))) rfl rfl (by exact fun w hw => rd_own hw (by exact .head _)) (by simp only [List.length_set, List.length_append, List.length_cons, List.length_nil, List.length_replicate, List.length_take, List.length_drop, List.length_map]; omega) rfl) (fun s89 => ?_)
        refine sr rfl rfl rfl ((q_assign rfl rfl)) (sw_nil (post_blk ?_))
        have hst2 : giter c.n c.ms (k + 1) = ⟨g ||| nth c.ms i, out ++ [(i : Int)], shUp c.n g (nth c.ms i) (fr g (nth c.ms i)) sh c.n⟩ := by
          rw [giter, hst]
          simp only [gstep, hb, Int.toNat_natCast]
        refine post_next ⟨k + 1, s89, x85⟩ (by exact .cons rfl (.cons rfl (.cons rfl (.cons rfl .nil)))) (fun w3 hw3 => ?_) ?_ ?_
        · simp only [hst2]
          exact (fun w h => Cl.sel (by exact .take 2 rfl (.take 1 rfl (.take 2 rfl (.nil _)))) w h) _ hw3
        · intro j hj
          by_cases e : j = k
          · subst e; rw [hst]; exact ⟨h0, i, hi, hb, hpos⟩
          · exact hG j (by simp only at hj; omega)
        · simp only [hst2, hst]
          have := fr_after (g := g) (n := c.n) (ok.m (nth c.ms i) (nth_mem hi))
          omega
  · skip
    have h0 : fr g (fullN c.n) = 0 := by simp only [decide_eq_false_iff_not] at h; omega
    refine cw_exit (post_then_x (post_then_x (post_blk_eq (post_then (cw_seq (cw_region (sr rfl rfl rfl ((q_move rfl rfl)) ?_)))))))
    refine sw_x rfl rfl rfl (e_callH (A := [ownL 3 so.v out]) (F := [ownL 156 sg.v (ws c.n g), ownL 3 s17.v sh]) (CanCall.mk Tryz.call121) rfl rfl (.cons rfl inferInstance (.nil)) (.refl _) (fun w bs h1 h2 h3 _ _ => sort12_spec so out (by omega) w bs h1 h2 h3)) (fun l91 => ?_)
    refine sw_imp fun hm => (sw_nil (post_then (cw_seq (cw_region (sr rfl rfl rfl ((q_move rfl rfl)) (sr rfl rfl rfl ((q_move rfl rfl)) (sr rfl rfl rfl ((q_assign rfl rfl)) (sr rfl rfl rfl ((q_assign rfl rfl)) (sw_nil (post_then (cw_ret (post_ret2 rfl (resOk_tmp rfl) (resOk_tmp rfl) ?_))))))))))))
    refine fun w' hw => ⟨((so, s17), (l91, k)), rfl, ⟨hG, by rw [hst]; exact h0, by rw [hst]; exact hm.1.perm, by rw [hm.1.len]; exact hm.2⟩, ?_⟩
    simp only [hst]
    exact (fun w h => Cl.sel (by exact .take 0 rfl (.take 1 rfl (.nil _))) w h) _ hw
end Go.Proofs.YtomjbfeafodfbaaGreat
