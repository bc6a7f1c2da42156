import Derived.Test.YtkmbliojafefdaaGreatDoorWSays5
import Derived.Lib.LaidU8T
import Derived.PinnedBridge
import Derived.Test.YtkmbliojafefdaaGreatDoorRows
import Derived.LaidMore
import Derived.Lay
import Derived.Stop.Joined
import Derived.Test.YtkmbliojafefdaaGreatDoorCards
import Derived.KernelRfl

set_option autoImplicit false
set_option linter.unusedSimpArgs false
set_option linter.unusedVariables false
set_option maxRecDepth 100000
namespace Go.Proofs.YtkmbliojafefdaaGreatDoor
open Go.Sx
open Enc (enc val)
instance : InfoT Tryz.prog 21 1 4 [.int .i32 0] := info_of (v := .int .i32 0) (by kernel_rfl) rfl rfl
instance : HasTy Tryz.prog 21 Rn := hasTy_cell Tryz.sizeOf21 Tryz.isAgg21 rfl (fun _ => rfl)
/-- The examples of a letter. -/
def fgX (G : List (Rn × XL)) (c : Rn) : List XL := (G.filter fun x => decide (x.1 = c)).map (·.2)
theorem fg_snoc (G : List (Rn × XL)) (x : Rn × XL) (c : Rn) : fgX (G ++ [x]) c = fgX G c ++ if x.1 = c then [x.2] else [] := by
  unfold fgX
  rw [List.filter_append, List.map_append]
  congr 1
  by_cases h : x.1 = c <;> simp [h]
theorem fg_le (G : List (Rn × XL)) (c : Rn) : (fgX G c).length ≤ G.length := by
  unfold fgX; rw [List.length_map]; exact List.length_filter_le _ _
def evG (G : List (Rn × XL)) : List (Rn × XP) := G.map fun x => (x.1, plX x.2)
theorem abc_le (q : List (Rn × XP)) : (abcC q).length ≤ q.length := by
  have key : ∀ (q : List Rn) (acc : List Rn), (q.foldl insR acc).length ≤ acc.length + q.length := by
    intro q
    induction q with
    | nil => intro acc; simp
    | cons x q ih =>
      intro acc
      rw [List.foldl_cons]
      have h := ih (insR acc x)
      have h2 : (insR acc x).length ≤ acc.length + 1 := by unfold insR; split <;> simp
      simp only [List.length_cons]; omega
  have := key (q.map (·.1)) []
  simpa [abcC] using this
theorem evG_len (G : List (Rn × XL)) : (evG G).length = G.length := by simp [evG]
theorem fg_pl (G : List (Rn × XL)) (c : Rn) : (fgX G c).map plX = xsC (evG G) c := by
  unfold fgX xsC evG
  rw [List.map_map, List.filter_map, List.map_map]
  rfl
theorem fg_nil {G : List (Rn × XL)} {c : Rn} : c ∈ abcC (evG G) ↔ fgX G c ≠ [] := by
  rw [abc_mem, ← fg_pl]
  simp
theorem fg_mem {G : List (Rn × XL)} {c : Rn} {e : XL} (h : e ∈ fgX G c) : ∃ x ∈ G, x.2 = e := by
  unfold fgX at h
  obtain ⟨x, hx, rfl⟩ := List.mem_map.1 h
  exact ⟨x, (List.mem_filter.1 hx).1, rfl⟩
/-- What entries must be. -/
structure EtyOk (u : Ety) : Prop where
  size : u.word.size ≤ 1000000
  few : (runes u.word).length ≤ 40
  len : u.sl.length = (runes u.word).length
  ok : ∀ q ∈ u.sl, q.length ≤ 1000 ∧ ∀ x ∈ q, phoneOk x = true
theorem sw_pureP {P : Program} {ops : Array Oper} {Q : Exit → Act → World → Prop} {n : Fr} {E : Env} {C : World → Prop} {l : List Oper} {p : Prop} (hp : ∀ w, C w → p) (h : p → SW P ops Q l n E C) : SW P ops Q l n E C := fun a w ha hw => h (hp w hw) a w ha hw
theorem cw_pureP {P : Program} {Q : Exit → Act → World → Prop} {n : Fr} {E : Env} {C : World → Prop} {c : Code} {p : Prop} (hp : ∀ w, C w → p) (h : p → CW P c Q n E C) : CW P c Q n E C := fun a w ha hw => h (hp w hw) a w ha hw
theorem evs_take {es : List Ety} {k : Nat} (hk : k < es.length) : ((es.take (k + 1)).map fun u => (u.word, u.sl)).flatMap evOf = ((es.take k).map fun u => (u.word, u.sl)).flatMap evOf ++ evOf ((nth es k).word, (nth es k).sl) := by
  rw [List.take_succ_eq_append_getElem hk, List.map_append, List.flatMap_append, nth_get hk]; simp
theorem evOf_take {u : ByteArray × List (List ByteArray)} {i : Nat} (hi : i < (runes u.1).length) : (evOf u).take (i + 1) = (evOf u).take i ++ [evAt (runes u.1) u.2 i] := by
  unfold evOf
  rw [List.take_succ_eq_append_getElem (by simpa using hi)]; simp
theorem evOf_len (u : ByteArray × List (List ByteArray)) : (evOf u).length = (runes u.1).length := by simp [evOf]
theorem learned_spec (sv : SlV) (es : List Ety) (o : Lrn) (ho : LrnOk o) (hn : es.length ≤ 3000) (heo : ∀ u ∈ es, EtyOk u) (h12 : (abcC ((es.map fun u => (u.word, u.sl)).flatMap evOf)).length ≤ 12) (w : World) (hs : Stb w [] (RdL sv.v es)) (hei : Stb w [] fun w' => ∀ u ∈ es, EtIn u w') :
    Calls Tryz.prog 70 #[sv.v, val o] w fun e w' => ∃ b : Bk, e = .returned (val b) ∧ (b.bl.map fun L => (L.c, L.rl.map fun u => (u.tl, u.pl))) = learnC o (es.map fun u => (u.word, u.sl)) ∧ Cl w [] [Sx.frz (BkIn b)] w' := by
  have hLn := rd_len hs.here
  refine calls_cw (vs := [_, _]) Tryz.func70 rfl Tryz.ntmps70 rfl (Cl.start0 w) (cw_seq (cw_region ?_))
  refine sw_x rfl rfl rfl (e_box rfl rfl rfl) (fun b3 => ?_)
  refine sw_x rfl rfl rfl (e_alloc rfl) (fun b4 => ?_)
  refine sw_nil (post_then (cw_seq (cw_region ?_)))
  refine sw_x rfl rfl rfl (e_makeMap (κ := Rn) (ν := SlV) rfl) (fun b15 => ?_)
  refine sr rfl rfl rfl ((q_assign rfl rfl)) (sw_nil (post_then (cw_seq (cw_region (sr rfl rfl rfl ((q_assign rfl rfl)) (sw_nil (post_then (cw_seq (cw_seq (cw_region (sr rfl rfl rfl ((q_move rfl rfl)) ?_)))))))))))
  refine sr rfl rfl rfl ((q_len rfl (.cons rfl inferInstance (.nil)) (by exact fun w hw => Stb.cl (by assumption) hw))) ?_
  refine sr rfl rfl rfl ((q_move rfl rfl)) (sw_nil (post_then (cw_block ?_)))
  refine cw_loop (S := Nat × SlV × List (Rn × XL) × List (Rn × SlV)) (fun y => [(3, [], .pointer (some ⟨b3, 0, none⟩)), (4, [], .pointer (some ⟨b4, 0, none⟩)), (5, [], .map (some b15)), (6, [], y.2.1.v), (16, [], sv.v), (17, [], .int .i64 es.length), (18, [], .int .i64 y.1)]) (fun y => Cl w [] ((ownL 21 y.2.1.v (abcC (evG y.2.2.1)) :: Sx.frz (fun w => ∀ x ∈ y.2.2.1, RdL x.2.w.v x.2.wl w) :: mpA b15 y.2.2.2 :: blk b4 (enc (default : Bk)) 45 :: blk b3 (enc o) 40 :: []) ++ rowsK 179 y.2.2.2 (fgX y.2.2.1))) (fun y => y.1 ≤ es.length ∧ (evG y.2.2.1) = ((es.take y.1).map fun u => (u.word, u.sl)).flatMap evOf ∧ y.2.2.1.length ≤ 40 * y.1 ∧ (∀ x ∈ y.2.2.1, ExOk x.2) ∧ Stb w [] (fun w' => ∀ x ∈ y.2.2.1, RdL x.2.p.v x.2.pl w') ∧ (y.2.2.2.map (·.1)).Nodup ∧ (∀ c, get? y.2.2.2 c = none ↔ fgX y.2.2.1 c = [])) (fun y => es.length - y.1) (0, ⟨none, 0, 0⟩, [], []) ⟨by simp, by simp [evG], by simp, by simp, ⟨fun w' _ x hx => by simp at hx⟩, by simp, fun c => by simp [fgX, get?]⟩ (by exact .cons rfl (.cons rfl (.cons rfl (.cons rfl (.cons rfl (.cons rfl (.cons rfl .nil))))))) (fun w' h => Cl.addNil 21 (cl_true (fun w => by simp) ((fun w h => Cl.sel (by exact .take 0 rfl (.take 0 rfl (.take 0 rfl (.nil _)))) w h) _ h))) ?_
  rintro ⟨k, sa, G, m⟩ ⟨hk, hG, hGl, hGo, hGp, hmn, hmg⟩
  dsimp only at hk hG hGl hGo hGp hmn hmg ⊢
  refine cw_seq (cw_region (sr rfl rfl rfl ((q_lss rfl rfl rfl)) (sw_nil (post_then (cw_seq ?_)))))
  refine cw_cond rfl (fun h => ?_) (fun h => ?_)
  · skip
    have hk' : k < es.length := by simp at h; omega
    obtain ⟨u, hu⟩ : ∃ u, nth es k = u := ⟨_, rfl⟩
    have hum : u ∈ es := by rw [← hu]; exact nth_mem hk'
    have huo := heo u hum
    obtain ⟨ws, hws⟩ : ∃ ws, runes u.word = ws := ⟨_, rfl⟩
    have hfew := huo.few
    have husz := huo.size
    have hlen := huo.len
    have hev := evs_take hk'
    rw [hu] at hev
    have hue : Stb w [] (EtIn u) := stb_map hei fun _ h => h u hum
    obtain ⟨vs, g1, ⟨g2, g3⟩, g4⟩ := hue.here
    have g1s := rd_stb g1
    refine cw_skip (post_then (cw_seq (cw_block (cw_seq (cw_region ?_)))))
    refine sr rfl rfl rfl ((q_indexN rfl rfl rfl (by exact fun w hw => Stb.cl (by assumption) hw) (by intro hc; omega))) ?_
    refine sr rfl rfl rfl ((q_loadEl rfl rfl rfl (by exact fun w hw => Stb.cl (by assumption) hw) (by intro hc; omega))) ?_
    rw [hu]
    refine sw_x rfl rfl rfl (e_alloc rfl) (fun b8 => ?_)
    refine sw_eff0 rfl rfl (e_store (i := 0) rfl rfl rfl rfl rfl rfl rfl rfl) (sw_nil (post_then (cw_seq (cw_region (sr rfl rfl rfl ((q_fieldAddr rfl rfl)) (sr rfl rfl rfl ((q_fieldAddr rfl rfl)) ?_))))))
    refine sr rfl rfl rfl ((q_loadC rfl rfl (by exact .head _) rfl)) ?_
    refine sw_x rfl rfl rfl (e_call (CanCall.mk Tryz.call110) rfl (.cons rfl inferInstance (.nil)) (fun w hw => letters_spec _ w (by omega))) (fun x25 => ?_)
    refine sw_imp (fun hx25 => ?_)
    refine sr rfl rfl rfl ((q_assign rfl rfl)) (sw_nil (post_then (cw_seq (cw_region (sr rfl rfl rfl ((q_move rfl rfl)) ?_)))))
    refine sr rfl rfl rfl ((q_len rfl (.cons rfl inferInstance (.nil)) (by exact fun w hw => rd_own hw (by exact .head _)))) ?_
    refine sr rfl rfl rfl ((q_move rfl rfl)) (sw_nil (post_then (cw_block ?_)))
    rw [hws] at hfew hlen ⊢
    refine cw_loop (S := Nat × SlV × List (Rn × XL) × List (Rn × SlV)) (fun y => [(3, [], .pointer (some ⟨b3, 0, none⟩)), (4, [], .pointer (some ⟨b4, 0, none⟩)), (5, [], .map (some b15)), (6, [], y.2.1.v), (8, [], .pointer (some ⟨b8, 0, none⟩)), (9, [], x25.v), (16, [], sv.v), (17, [], .int .i64 es.length), (18, [], .int .i64 k), (26, [], x25.v), (27, [], .int .i64 ws.length), (28, [], .int .i64 y.1)]) (fun y => Cl w [] ((ownL 21 y.2.1.v (abcC (evG y.2.2.1)) :: Sx.frz (fun w => (∀ x ∈ y.2.2.1, RdL x.2.w.v x.2.wl w) ∧ RdL x25.v ws w) :: mpA b15 y.2.2.2 :: blk b8 (enc u) 153 :: blk b4 (enc (default : Bk)) 45 :: blk b3 (enc o) 40 :: []) ++ rowsK 179 y.2.2.2 (fgX y.2.2.1))) (fun y => y.1 ≤ ws.length ∧ (evG y.2.2.1) = ((es.take k).map fun u => (u.word, u.sl)).flatMap evOf ++ (evOf (u.word, u.sl)).take y.1 ∧ y.2.2.1.length ≤ 40 * k + y.1 ∧ (∀ x ∈ y.2.2.1, ExOk x.2) ∧ Stb w [] (fun w' => ∀ x ∈ y.2.2.1, RdL x.2.p.v x.2.pl w') ∧ (y.2.2.2.map (·.1)).Nodup ∧ (∀ c, get? y.2.2.2 c = none ↔ fgX y.2.2.1 c = [])) (fun y => ws.length - y.1) (0, sa, G, m) ⟨by simp, by rw [hG]; simp, hGl, hGo, hGp, hmn, hmg⟩ (by exact .cons rfl (.cons rfl (.cons rfl (.cons rfl (.cons rfl (.cons rfl (.cons rfl (.cons rfl (.cons rfl (.cons rfl (.cons rfl (.cons rfl .nil)))))))))))) (fun w' h => ?_) ?_
    · have h1 : Cl w [] (ownL 21 x25.v ws :: (blk b8 (enc u) 153 :: ownL 21 sa.v (abcC (evG G)) :: Sx.frz (fun w => ∀ x ∈ G, RdL x.2.w.v x.2.wl w) :: mpA b15 m :: blk b4 (enc (default : Bk)) 45 :: blk b3 (enc o) 40 :: rowsK 179 m (fgX G))) w' := h
      have h2 : Cl w [] (Sx.frz (fun w => ∀ x ∈ G, RdL x.2.w.v x.2.wl w) :: Sx.frz (RdL x25.v ws) :: blk b8 (enc u) 153 :: ownL 21 sa.v (abcC (evG G)) :: mpA b15 m :: blk b4 (enc (default : Bk)) 45 :: blk b3 (enc o) 40 :: rowsK 179 m (fgX G)) w' := (fun w h => Cl.sel (by exact .take 3 rfl (.all _)) w h) _ h1.frzL
      have h3 : Cl w [] (ownL 21 sa.v (abcC (evG G)) :: Sx.frz (fun w => (∀ x ∈ G, RdL x.2.w.v x.2.wl w) ∧ RdL x25.v ws w) :: mpA b15 m :: blk b8 (enc u) 153 :: blk b4 (enc (default : Bk)) 45 :: blk b3 (enc o) 40 :: rowsK 179 m (fgX G)) w' := (fun w h => Cl.sel (by exact .take 2 rfl (.take 0 rfl (.take 1 rfl (.all _)))) w h) _ h2.frz2
      exact h3
    rintro ⟨i, sa, G, m⟩ ⟨hi, hG, hGl, hGo, hGp, hmn, hmg⟩
    dsimp only at hi hG hGl hGo hGp hmn hmg ⊢
    refine cw_seq (cw_region (sr rfl rfl rfl ((q_lss rfl rfl rfl)) (sw_nil (post_then (cw_seq ?_)))))
    refine cw_cond rfl (fun h2 => ?_) (fun h2 => ?_)
    · skip
      have hi' : i < ws.length := by simp at h2; omega
      obtain ⟨c, hc⟩ : ∃ c, nth ws i = c := ⟨_, rfl⟩
      have hev2 := evOf_take (u := (u.word, u.sl)) (i := i) (by rw [hws]; exact hi')
      simp only [hws] at hev2
      have hlen2 := fg_le G c
      have habl := abc_le (evG G)
      rw [evG_len] at habl
      have hvi : i < vs.length := by omega
      refine cw_skip (post_then (cw_seq (cw_block (cw_seq (cw_region (sr rfl rfl rfl ((q_move rfl rfl)) ?_))))))
      refine sr rfl rfl rfl ((q_indexN (xs := ws) rfl rfl rfl (fun w1 h1 => (rd_frz (R := fun w => (∀ x ∈ G, RdL x.2.w.v x.2.wl w) ∧ RdL x25.v ws w) h1 (by exact .tail _ (.head _))).2) (fun _ => hi'))) ?_
      refine sr rfl rfl rfl ((q_loadF (xs := ws) rfl rfl rfl (fun w1 h1 => (rd_frz (R := fun w => (∀ x ∈ G, RdL x.2.w.v x.2.wl w) ∧ RdL x25.v ws w) h1 (by exact .tail _ (.head _))).2) (fun _ => hi') rfl)) ?_
      rw [hc]
      refine sr rfl rfl rfl ((q_assign rfl rfl)) (sr rfl rfl rfl ((q_assign rfl rfl)) (sw_nil (post_then (cw_seq (cw_seq (cw_region (sr rfl rfl rfl ((q_move rfl rfl)) (sr rfl rfl rfl ((q_move rfl rfl)) ?_))))))))
      refine sr rfl rfl rfl ((q_lookup (κ := Rn) (ν := SlV) (k := c) rfl rfl rfl (by exact fun w hw => rdm_own hw (by exact .tail _ (.tail _ (.head _)))))) ?_
      refine sw_pureP (p := (getZ (⟨none, 0, 0⟩ : SlV) m c).addr.isNone = decide (fgX G c = [])) (fun w1 h1 => ?_) fun hnil => ?_
      · show (getZ (default : SlV) m c).addr.isNone = _
        have h3 := open_row (H := ownL 21 sa.v (abcC (evG G)) :: Sx.frz (fun w => (∀ x ∈ G, RdL x.2.w.v x.2.wl w) ∧ RdL x25.v ws w) :: mpA b15 m :: blk b8 (enc u) 153 :: blk b4 (enc (default : Bk)) 45 :: blk b3 (enc o) 40 :: []) hmn (fun h => (hmg c).1 h) h1
        by_cases hg : fgX G c = []
        · have h4 := (hmg c).2 hg
          have : (getZ (default : SlV) m c) = default := by unfold getZ; rw [h4]; rfl
          rw [this, decide_eq_true hg]; rfl
        · rw [decide_eq_false hg]
          cases ha : (getZ (default : SlV) m c).addr with
          | some a => rfl
          | none => exact absurd (rd_nil (rd_own h3 (.head _)) ha) hg
      refine sr rfl rfl rfl ((q_eqlNil rfl rfl)) (sw_nil (post_then ?_))
      rw [hnil]
      have hcm : c ∈ abcC (evG G) ↔ fgX G c ≠ [] := fg_nil
      refine cw_cut (S := SlV) (fun y => [(3, [], .pointer (some ⟨b3, 0, none⟩)), (4, [], .pointer (some ⟨b4, 0, none⟩)), (5, [], .map (some b15)), (6, [], y.v), (8, [], .pointer (some ⟨b8, 0, none⟩)), (9, [], x25.v), (10, [], .int .i64 i), (11, [], .int .i32 c.v), (16, [], sv.v), (17, [], .int .i64 es.length), (18, [], .int .i64 k), (26, [], x25.v), (27, [], .int .i64 ws.length), (28, [], .int .i64 i)]) (fun y => Cl w [] ((ownL 21 y.v (insR (abcC (evG G)) c) :: Sx.frz (fun w => (∀ x ∈ G, RdL x.2.w.v x.2.wl w) ∧ RdL x25.v ws w) :: mpA b15 m :: blk b8 (enc u) 153 :: blk b4 (enc (default : Bk)) 45 :: blk b3 (enc o) 40 :: []) ++ rowsK 179 m (fgX G))) (fun _ => True) ?_ ?_
      · refine cw_cond rfl (fun h3 => ?_) (fun h3 => ?_)
        · skip
          have h4 : insR (abcC (evG G)) c = abcC (evG G) ++ [c] := by
            unfold insR; rw [if_neg]
            rw [hcm]; simpa using h3
          refine cw_region (sr rfl rfl rfl ((q_move rfl rfl)) (sr rfl rfl rfl ((q_move rfl rfl)) ?_))
          refine sw_x rfl rfl rfl (e_buildL (α := Rn) (l := [c]) rfl (.cons rfl inferInstance (.nil)) rfl rfl rfl rfl) (fun s39 => ?_)
          refine sw_x rfl rfl rfl (e_append (i := 1) rfl (.cons rfl inferInstance (.cons rfl inferInstance (.nil))) rfl rfl (by exact fun w hw => rd_own hw (by exact .head _)) (by first | omega | (simp only [List.length_set, List.length_append, List.length_cons, List.length_nil, List.length_replicate, List.length_take, List.length_drop, List.length_map]; omega)) rfl) (fun s40 => ?_)
          refine sr rfl rfl rfl ((q_assign rfl rfl)) (sw_nil ?_)
          exact post_meet s40 (by exact .cons rfl (.cons rfl (.cons rfl (.cons rfl (.cons rfl (.cons rfl (.cons rfl (.cons rfl (.cons rfl (.cons rfl (.cons rfl (.cons rfl (.cons rfl (.cons rfl .nil)))))))))))))) (fun w' h => by rw [h4]; exact h.tail) trivial
        · skip
          have h4 : insR (abcC (evG G)) c = abcC (evG G) := by
            unfold insR; rw [if_pos]
            rw [hcm]; simpa using h3
          refine cw_skip ?_
          exact post_meet sa (by exact .cons rfl (.cons rfl (.cons rfl (.cons rfl (.cons rfl (.cons rfl (.cons rfl (.cons rfl (.cons rfl (.cons rfl (.cons rfl (.cons rfl (.cons rfl (.cons rfl .nil)))))))))))))) (fun w' h => by rw [h4]; exact h) trivial
      rintro sa2 -
      refine post_then ?_
      dsimp only
      refine cw_c (C' := Cl w [] (ownL 179 (getZ (default : SlV) m c).v (fgX G c) :: ownL 21 sa2.v (insR (abcC (evG G)) c) :: Sx.frz (fun w => (∀ x ∈ G, RdL x.2.w.v x.2.wl w) ∧ RdL x25.v ws w) :: mpA b15 m :: blk b8 (enc u) 153 :: blk b4 (enc (default : Bk)) 45 :: blk b3 (enc o) 40 :: rowsK 179 (eraseK m c) (fgX G))) (fun w' h => open_row hmn (fun h => (hmg c).1 h) h) (cw_region_a (Cl w [] [mpA b15 m, blk b8 (enc u) 153]) [15] mixed_Tryz ?_)
      refine aw_pure 0 rfl (by kernel_rfl) (by kernel_rfl) (by kernel_rfl) (by kernel_rfl) (by kernel_rfl) rfl rfl rfl (q_move rfl rfl) ?_
      refine aw_pure 1 rfl (by kernel_rfl) (by kernel_rfl) (by kernel_rfl) (by kernel_rfl) (by kernel_rfl) rfl rfl rfl (q_move rfl rfl) ?_
      refine aw_pure 2 rfl (by kernel_rfl) (by kernel_rfl) (by kernel_rfl) (by kernel_rfl) (by kernel_rfl) rfl rfl rfl (q_move rfl rfl) ?_
      refine aw_pure 3 rfl (by kernel_rfl) (by kernel_rfl) (by kernel_rfl) (by kernel_rfl) (by kernel_rfl) rfl rfl rfl (q_move rfl rfl) ?_
      refine aw_pure 5 rfl (by kernel_rfl) (by kernel_rfl) (by kernel_rfl) (by kernel_rfl) (by kernel_rfl) rfl rfl rfl (q_move rfl rfl) ?_
      refine aw_pure 6 rfl (by kernel_rfl) (by kernel_rfl) (by kernel_rfl) (by kernel_rfl) (by kernel_rfl) rfl rfl rfl (q_move rfl rfl) ?_
      refine aw_take 7 (fun w h => Cl.sel (by exact .take 3 rfl (.take 3 rfl (.nil _))) w h) rfl (by kernel_rfl) (by kernel_rfl) (by kernel_rfl) (by kernel_rfl) (by kernel_rfl) (by kernel_rfl) rfl rfl rfl (q_fieldAddr rfl rfl) ?_
      refine aw_take 8 (fun w h => Cl.sel (by exact .take 3 rfl (.take 3 rfl (.nil _))) w h) rfl (by kernel_rfl) (by kernel_rfl) (by kernel_rfl) (by kernel_rfl) (by kernel_rfl) (by kernel_rfl) rfl rfl rfl (q_loadC rfl rfl (by exact .tail _ (.head _)) rfl) ?_
      refine aw_pure 9 rfl (by kernel_rfl) (by kernel_rfl) (by kernel_rfl) (by kernel_rfl) (by kernel_rfl) rfl rfl rfl (q_move rfl rfl) ?_
      refine aw_take 10 (fun w h => Cl.sel (by exact .take 3 rfl (.take 3 rfl (.nil _))) w h) rfl (by kernel_rfl) (by kernel_rfl) (by kernel_rfl) (by kernel_rfl) (by kernel_rfl) (by kernel_rfl) rfl rfl rfl (q_indexN rfl rfl rfl (by exact fun w hw => Stb.cl (by assumption) hw) (by intro hc; omega)) ?_
      refine aw_take 11 (fun w h => Cl.sel (by exact .take 3 rfl (.take 3 rfl (.nil _))) w h) rfl (by kernel_rfl) (by kernel_rfl) (by kernel_rfl) (by kernel_rfl) (by kernel_rfl) (by kernel_rfl) rfl rfl rfl (q_loadEl rfl rfl rfl (by exact fun w hw => Stb.cl (by assumption) hw) (by intro hc; omega)) ?_
      refine aw_pure 12 rfl (by kernel_rfl) (by kernel_rfl) (by kernel_rfl) (by kernel_rfl) (by kernel_rfl) rfl rfl rfl (q_build rfl (.cons rfl inferInstance (.cons rfl inferInstance (.cons rfl inferInstance (.nil)))) rfl) ?_
      refine aw_take 4 (fun w h => Cl.sel (by exact .take 3 rfl (.take 3 rfl (.nil _))) w h) rfl (by kernel_rfl) (by kernel_rfl) (by kernel_rfl) (by kernel_rfl) (by kernel_rfl) (by kernel_rfl) rfl rfl rfl (q_lookup (κ := Rn) (ν := SlV) (k := c) rfl rfl rfl (by exact fun w hw => rdm_own hw (by exact .head _))) ?_
      refine aw_x 13 (by kernel_rfl) rfl rfl rfl rfl (e_buildL (α := XL) (l := [⟨x25, i, nth vs i, ws, nth u.sl i⟩]) rfl (.cons rfl inferInstance (.nil)) rfl rfl rfl rfl) (by intro hb; exact fun _ => (fun w h => Cl.sel (by exact .take 4 rfl (.take 4 rfl (.nil _))) w h)) (fun s54 => ?_)
      refine aw_x 14 (by kernel_rfl) rfl rfl rfl rfl (e_append (i := 1) rfl (.cons rfl inferInstance (.cons rfl inferInstance (.nil))) rfl rfl (by exact fun w hw => rd_own hw (by exact .head _)) (by first | omega | (simp only [List.length_set, List.length_append, List.length_cons, List.length_nil, List.length_replicate, List.length_take, List.length_drop, List.length_map]; omega)) rfl) (by intro hb; exact fun _ => (fun w h => Cl.sel (by exact .take 4 rfl (.take 4 rfl (.nil _))) w h)) (fun s55 => ?_)
      refine aw_one0 15 (by kernel_rfl) rfl rfl rfl (e_mapUpdate (κ := Rn) (ν := SlV) (i := 4) (.inl rfl) rfl rfl rfl rfl) (by intro hb; (exact absurd hb (by decide))) ?_
      refine aw_end (by kernel_rfl) ?_
      refine post_blk (post_then (cw_region ?_))
      refine sr rfl rfl rfl ((q_add rfl rfl rfl (by intro hc; omega))) ?_
      refine sr rfl rfl rfl ((q_move rfl rfl)) (sw_nil ?_)
      have hXp : Stb w [] (RdL (nth vs i).v (nth u.sl i)) := rd_stb (g3 i (by omega))
      have hXs : SpotOk (nth vs i) := g4 _ (nth_mem hvi)
      have hXo := huo.ok _ (nth_mem (l := u.sl) (i := i) (by omega))
      obtain ⟨X, hX⟩ : ∃ X : XL, (⟨x25, (i : Int), nth vs i, ws, nth u.sl i⟩ : XL) = X := ⟨_, rfl⟩
      rw [hX]
      have hXok : ExOk X := by rw [← hX]; exact ⟨hXs, hXo.1, hXo.2, by simp only; omega⟩
      have hXpl : RdL X.w.v X.wl = RdL x25.v ws := by rw [← hX]
      have hXpp : Stb w [] (RdL X.p.v X.pl) := by rw [← hX]; exact hXp
      have hXev : (c, plX X) = evAt ws u.sl i := by rw [← hX]; unfold evAt; rw [hc]; rfl
      have hev3 : evG (G ++ [(c, X)]) = evG G ++ [evAt ws u.sl i] := by rw [← hXev]; simp [evG]
      have hab : abcC (evG (G ++ [(c, X)])) = insR (abcC (evG G)) c := by rw [hev3, abc_snoc]; unfold evAt; rw [hc]
      refine post_next (i + 1, sa2, G ++ [(c, X)], upd m c s55) (by exact .cons rfl (.cons rfl (.cons rfl (.cons rfl (.cons rfl (.cons rfl (.cons rfl (.cons rfl (.cons rfl (.cons rfl (.cons rfl (.cons rfl .nil)))))))))))) (fun w' h => ?_) ⟨by simp only; omega, ?_, ?_, ?_, ?_, ?_, fun c' => ?_⟩ (by simp only; omega)
      · have h1 : Cl w [] (ownL 179 s55.v (fgX G c ++ [X]) :: ((ownL 21 sa2.v (insR (abcC (evG G)) c) :: Sx.frz (fun w => (∀ x ∈ G, RdL x.2.w.v x.2.wl w) ∧ RdL x25.v ws w) :: mpA b15 (upd m c s55) :: blk b8 (enc u) 153 :: blk b4 (enc (default : Bk)) 45 :: blk b3 (enc o) 40 :: []) ++ rowsK 179 (eraseK m c) (fgX G))) w' := h.tail
        have h2 := shut_row (f' := fgX (G ++ [(c, X)])) hmn (fun k' hk' => by rw [fg_snoc, if_neg (fun e => hk' e.symm), List.append_nil]) (by rw [fg_snoc, if_pos rfl]) h1
        have h3 : Cl w [] (Sx.frz (fun w => (∀ x ∈ G, RdL x.2.w.v x.2.wl w) ∧ RdL x25.v ws w) :: ownL 21 sa2.v (insR (abcC (evG G)) c) :: mpA b15 (upd m c s55) :: blk b8 (enc u) 153 :: blk b4 (enc (default : Bk)) 45 :: blk b3 (enc o) 40 :: rowsK 179 (upd m c s55) (fgX (G ++ [(c, X)]))) w' := (fun w h => Cl.sel (by exact .take 1 rfl (.all _)) w h) _ h2
        have h4 := Cl.frzM (R' := fun w => (∀ x ∈ G ++ [(c, X)], RdL x.2.w.v x.2.wl w) ∧ RdL x25.v ws w) h3 (fun w hh => ⟨fun x hx => by
          rcases List.mem_append.1 hx with hx | hx
          · exact hh.1 x hx
          · simp at hx; subst hx; rw [hXpl]; exact hh.2, hh.2⟩)
        simp only
        rw [hab]
        have h5 : Cl w [] (ownL 21 sa2.v (insR (abcC (evG G)) c) :: Sx.frz (fun w => (∀ x ∈ G ++ [(c, X)], RdL x.2.w.v x.2.wl w) ∧ RdL x25.v ws w) :: mpA b15 (upd m c s55) :: blk b8 (enc u) 153 :: blk b4 (enc (default : Bk)) 45 :: blk b3 (enc o) 40 :: rowsK 179 (upd m c s55) (fgX (G ++ [(c, X)]))) w' := (fun w h => Cl.sel (by exact .take 1 rfl (.all _)) w h) _ h4
        exact h5
      · simp only
        rw [hev3, hev2, ← List.append_assoc, ← hG]
      · simp only [List.length_append, List.length_cons, List.length_nil]; omega
      · intro x hx
        rcases List.mem_append.1 hx with hx | hx
        · exact hGo x hx
        · simp at hx; subst hx; exact hXok
      · exact ⟨fun w' k x hx => by
          rcases List.mem_append.1 hx with hx | hx
          · exact hGp.stb w' k x hx
          · simp at hx; subst hx; exact hXpp.stb w' k⟩
      · exact upd_nodup _ _ _ hmn
      · simp only
        rw [get?_upd, fg_snoc]
        by_cases hcc : c' = c
        · subst hcc; simp
        · rw [if_neg hcc, if_neg (fun e => hcc e.symm), List.append_nil]; exact hmg c'
    · skip
      have hi' : i = ws.length := by simp at h2; omega
      subst hi'
      rw [List.take_of_length_le (l := evOf (u.word, u.sl)) (by rw [evOf_len, hws]; exact Nat.le_refl _), ← hev] at hG
      refine cw_exit (post_then_x (post_then_x (post_blk_eq (post_blk (post_then (cw_region ?_))))))
      refine sr rfl rfl rfl ((q_add rfl rfl rfl (by intro hc; omega))) ?_
      refine sr rfl rfl rfl ((q_move rfl rfl)) (sw_nil ?_)
      refine post_next (k + 1, sa, G, m) (by exact .cons rfl (.cons rfl (.cons rfl (.cons rfl (.cons rfl (.cons rfl (.cons rfl .nil))))))) (fun w' h => ?_) ⟨by simp only; omega, hG, by simp only; omega, hGo, hGp, hmn, hmg⟩ (by simp only; omega)
      have h1 : Cl w [] (Sx.frz (fun w => (∀ x ∈ G, RdL x.2.w.v x.2.wl w) ∧ RdL x25.v ws w) :: ownL 21 sa.v (abcC (evG G)) :: mpA b15 m :: blk b4 (enc (default : Bk)) 45 :: blk b3 (enc o) 40 :: blk b8 (enc u) 153 :: rowsK 179 m (fgX G)) w' := (fun w h => Cl.sel (by exact .take 1 rfl (.take 0 rfl (.take 0 rfl (.take 1 rfl (.take 1 rfl (.all _)))))) w h) _ h
      have h2 := Cl.frzM (R' := fun w => ∀ x ∈ G, RdL x.2.w.v x.2.wl w) h1 (fun w hh => hh.1)
      have h3 : Cl w [] (blk b8 (enc u) 153 :: ownL 21 sa.v (abcC (evG G)) :: Sx.frz (fun w => ∀ x ∈ G, RdL x.2.w.v x.2.wl w) :: mpA b15 m :: blk b4 (enc (default : Bk)) 45 :: blk b3 (enc o) 40 :: rowsK 179 m (fgX G)) w' := (fun w h => Cl.sel (by exact .take 5 rfl (.take 1 rfl (.all _))) w h) _ h2
      exact h3.tail
  · skip
    have hk' : k = es.length := by simp at h; omega
    subst hk'
    rw [List.take_length] at hG
    have hG2 : evG G = (es.map fun u => (u.word, u.sl)).flatMap evOf := hG
    rw [← hG2] at h12
    refine cw_c (C' := Cl w [] [ownL 21 sa.v (abcC (evG G)), Sx.frz (fun w => ∀ x ∈ G, RdL x.2.w.v x.2.wl w), mpA b15 m, blk b4 (enc (default : Bk)) 45, blk b3 (enc o) 40, Sx.frz (fun w => ∀ kv ∈ m, RdL kv.2.v (fgX G kv.1) w)]) (fun w' h => rowsK_frz (H := [ownL 21 sa.v (abcC (evG G)), Sx.frz (fun w => ∀ x ∈ G, RdL x.2.w.v x.2.wl w), mpA b15 m, blk b4 (enc (default : Bk)) 45, blk b3 (enc o) 40]) h) (cw_exit (post_then_x (post_then_x (post_blk_eq (post_then (cw_seq (cw_region (sr rfl rfl rfl ((q_move rfl rfl)) ?_))))))))
    refine sw_x rfl rfl rfl (e_callH (A := [ownL 21 sa.v (abcC (evG G))]) (CanCall.mk Tryz.call118) rfl rfl (.cons rfl inferInstance (.nil)) (.refl _) (fun w1 bs h1 h2 h3 _ _ => sort12_spec sa (abcC (evG G)) h12 w1 bs h1 h2 h3)) (fun ab => ?_)
    refine sw_imp fun hab => ?_
    have habl := hab.1.perm.length_eq
    have habs : ab = sortR (abcC (evG G)) := sort_eq hab.1.perm (by rw [habl]; exact hab.2)
    refine sw_nil (post_then (cw_seq (cw_region ?_)))
    refine sw_x rfl rfl rfl (e_alloc rfl) (fun b12 => ?_)
    refine sw_nil (post_then (cw_seq (cw_seq (cw_region (sr rfl rfl rfl ((q_move rfl rfl)) ?_)))))
    refine sr rfl rfl rfl ((q_len rfl (.cons rfl inferInstance (.nil)) (by exact fun w hw => rd_own hw (by exact .tail _ (.head _))))) ?_
    refine sr rfl rfl rfl ((q_move rfl rfl)) (sw_nil (post_then (cw_block ?_)))
    refine cw_loop (S := Nat × SlV × List Let) (fun y => [(3, [], .pointer (some ⟨b3, 0, none⟩)), (4, [], .pointer (some ⟨b4, 0, none⟩)), (5, [], .map (some b15)), (12, [], .pointer (some ⟨b12, 0, none⟩)), (60, [], sa.v), (61, [], .int .i64 ab.length), (62, [], .int .i64 y.1)]) (fun y => Cl w [] [ownL 61 y.2.1.v y.2.2, Sx.frz (fun w => ∀ L ∈ y.2.2, LetIn L w), blk b12 [y.2.1.v] 45, ownL 21 sa.v ab, Sx.frz (fun w => ∀ x ∈ G, RdL x.2.w.v x.2.wl w), mpA b15 m, blk b4 (enc (default : Bk)) 45, blk b3 (enc o) 40, Sx.frz (fun w => ∀ kv ∈ m, RdL kv.2.v (fgX G kv.1) w)]) (fun y => y.1 ≤ ab.length ∧ (y.2.2.map fun L => (L.c, L.rl.map fun u => (u.tl, u.pl))) = (ab.take y.1).map fun c => (c.v, listC ((xsC (evG G) c).map toXL) o)) (fun y => ab.length - y.1) (0, ⟨none, 0, 0⟩, []) ⟨by simp, by simp⟩ (by exact .cons rfl (.cons rfl (.cons rfl (.cons rfl (.cons rfl (.cons rfl (.cons rfl .nil))))))) (fun w' h => Cl.addNil 61 (cl_true (fun w => by simp) h)) ?_
    rintro ⟨j, so, out⟩ ⟨hj, hout⟩
    dsimp only at hj hout ⊢
    have hol : out.length ≤ 12 := by
      have h1 := congrArg List.length hout
      simp only [List.length_map, List.length_take] at h1; omega
    refine cw_seq (cw_region (sr rfl rfl rfl ((q_lss rfl rfl rfl)) (sw_nil (post_then (cw_seq ?_)))))
    refine cw_cond rfl (fun h2 => ?_) (fun h2 => ?_)
    · skip
      have hj' : j < ab.length := by simp at h2; omega
      obtain ⟨c, hc⟩ : ∃ c, nth ab j = c := ⟨_, rfl⟩
      have hcm : fgX G c ≠ [] := by
        rw [← fg_nil]
        exact hab.1.perm.mem_iff.1 (by rw [← hc]; exact nth_mem hj')
      obtain ⟨s, hgs⟩ : ∃ s, get? m c = some s := by
        cases hg : get? m c with
        | none => exact absurd ((hmg c).1 hg) hcm
        | some s => exact ⟨s, rfl⟩
      have hgz : getZ (⟨none, 0, 0⟩ : SlV) m c = s := by unfold getZ; rw [hgs]; rfl
      have hmem : (c, s) ∈ m := (get?_mem hmn).1 hgs
      have hfl := fg_le G c
      have hfo : ∀ e ∈ fgX G c, ExOk e := fun e he => by
        obtain ⟨x, hx, rfl⟩ := fg_mem he
        exact hGo x hx
      have hrd : ∀ (H : List Asn) w1, Cl w [] H w1 → Sx.frz (fun w => ∀ kv ∈ m, RdL kv.2.v (fgX G kv.1) w) ∈ H → Stb w1 [] (RdL s.v (fgX G c)) := fun H w1 hw hm => (stb_frz hw hm).mono fun w2 h4 => h4 (c, s) hmem
      have hin2 : ∀ (H : List Asn) w1, Cl w [] H w1 → Sx.frz (fun w => ∀ x ∈ G, RdL x.2.w.v x.2.wl w) ∈ H → Stb w1 [] (fun w' => ∀ u ∈ fgX G c, ExIn u w') := fun H w1 hw hm => ⟨fun w2 k u hu => by
        obtain ⟨x, hx, rfl⟩ := fg_mem hu
        exact ⟨(stb_frz hw hm).stb w2 k x hx, (stb_arg hw hGp).stb w2 k x hx⟩⟩
      refine cw_skip (post_then (cw_seq (cw_block (cw_seq (cw_region ?_)))))
      refine sr rfl rfl rfl ((q_indexN rfl rfl rfl (by exact fun w hw => rd_own hw (by exact .tail _ (.tail _ (.tail _ (.head _))))) (by intro hc; omega))) ?_
      refine sr rfl rfl rfl ((q_loadEl rfl rfl rfl (by exact fun w hw => rd_own hw (by exact .tail _ (.tail _ (.tail _ (.head _))))) (by intro hc; omega))) ?_
      refine sr rfl rfl rfl ((q_assign rfl rfl)) (sw_nil (post_then ?_))
      rw [hc]
      refine cw_region_a (Cl w [] [blk b12 [so.v] 45, mpA b15 m, blk b3 (enc o) 40]) [12] mixed_Tryz ?_
      refine aw_take 0 (fun w h => Cl.sel (by exact .take 2 rfl (.take 4 rfl (.take 5 rfl (.nil _)))) w h) rfl (by kernel_rfl) (by kernel_rfl) (by kernel_rfl) (by kernel_rfl) (by kernel_rfl) (by kernel_rfl) rfl rfl rfl (q_fieldAddr rfl rfl) ?_
      refine aw_take 1 (fun w h => Cl.sel (by exact .take 2 rfl (.take 4 rfl (.take 5 rfl (.nil _)))) w h) rfl (by kernel_rfl) (by kernel_rfl) (by kernel_rfl) (by kernel_rfl) (by kernel_rfl) (by kernel_rfl) rfl rfl rfl (q_loadC rfl rfl (by exact .head _) rfl) ?_
      refine aw_pure 2 rfl (by kernel_rfl) (by kernel_rfl) (by kernel_rfl) (by kernel_rfl) (by kernel_rfl) rfl rfl rfl (q_move rfl rfl) ?_
      refine aw_pure 3 rfl (by kernel_rfl) (by kernel_rfl) (by kernel_rfl) (by kernel_rfl) (by kernel_rfl) rfl rfl rfl (q_move rfl rfl) ?_
      refine aw_pure 4 rfl (by kernel_rfl) (by kernel_rfl) (by kernel_rfl) (by kernel_rfl) (by kernel_rfl) rfl rfl rfl (q_move rfl rfl) ?_
      refine aw_take 6 (fun w h => Cl.sel (by exact .take 2 rfl (.take 4 rfl (.take 5 rfl (.nil _)))) w h) rfl (by kernel_rfl) (by kernel_rfl) (by kernel_rfl) (by kernel_rfl) (by kernel_rfl) (by kernel_rfl) rfl rfl rfl (q_loadA rfl rfl (by exact .tail _ (.tail _ (.head _))) rfl) ?_
      refine aw_take 5 (fun w h => Cl.sel (by exact .take 2 rfl (.take 4 rfl (.take 5 rfl (.nil _)))) w h) rfl (by kernel_rfl) (by kernel_rfl) (by kernel_rfl) (by kernel_rfl) (by kernel_rfl) (by kernel_rfl) rfl rfl rfl (q_lookup (κ := Rn) (ν := SlV) (k := c) rfl rfl rfl (by exact fun w hw => rdm_own hw (by exact .tail _ (.head _)))) ?_
      rw [hgz]
      refine aw_x 7 (by kernel_rfl) rfl rfl rfl rfl (e_call (CanCall.mk Tryz.call119) rfl (.cons rfl inferInstance (.cons rfl inferInstance (.nil))) (fun w1 hw => list119_spec s (fgX G c) o ho (by omega) hfo w1 (hrd _ w1 hw (by exact .tail _ (.tail _ (.tail _ (.tail _ (.tail _ (.tail _ (.tail _ (.tail _ (.head _)))))))))) (hin2 _ w1 hw (by exact .tail _ (.tail _ (.tail _ (.tail _ (.head _)))))))) (by intro hb; exact fun _ w h => (fun w h => Cl.sel (by exact .take 3 rfl (.take 5 rfl (.take 6 rfl (.nil _)))) w h) w h.2) (fun y73 => ?_)
      refine aw_imp fun hy => ?_
      refine aw_pure 8 rfl (by kernel_rfl) (by kernel_rfl) (by kernel_rfl) (by kernel_rfl) (by kernel_rfl) rfl rfl rfl (q_build rfl (.cons rfl inferInstance (.cons rfl inferInstance (.nil))) rfl) ?_
      refine aw_x 9 (by kernel_rfl) rfl rfl rfl rfl (e_buildL (α := Let) (l := [⟨c.v, y73.1, y73.2⟩]) rfl (.cons rfl inferInstance (.nil)) rfl rfl rfl rfl) (by intro hb; exact fun _ => (fun w h => Cl.sel (by exact .take 4 rfl (.take 6 rfl (.take 7 rfl (.nil _)))) w h)) (fun s75 => ?_)
      refine aw_x 10 (by kernel_rfl) rfl rfl rfl rfl (e_append (i := 2) rfl (.cons rfl inferInstance (.cons rfl inferInstance (.nil))) rfl rfl (by exact fun w hw => rd_own hw (by exact .head _)) (by first | omega | (simp only [List.length_set, List.length_append, List.length_cons, List.length_nil, List.length_replicate, List.length_take, List.length_drop, List.length_map]; omega)) rfl) (by intro hb; exact fun _ => (fun w h => Cl.sel (by exact .take 4 rfl (.take 6 rfl (.take 7 rfl (.nil _)))) w h)) (fun s76 => ?_)
      refine aw_take 11 (fun w h => Cl.sel (by exact .take 4 rfl (.take 6 rfl (.take 7 rfl (.nil _)))) w h) rfl (by kernel_rfl) (by kernel_rfl) (by kernel_rfl) (by kernel_rfl) (by kernel_rfl) (by kernel_rfl) rfl rfl rfl (q_fieldAddr rfl rfl) ?_
      refine aw_one0 12 (by kernel_rfl) rfl rfl rfl (e_store (i := 4) rfl rfl rfl rfl rfl rfl rfl rfl) (by intro hb; (exact absurd hb (by decide))) ?_
      refine aw_end (by kernel_rfl) ?_
      refine post_blk (post_then (cw_region ?_))
      refine sr rfl rfl rfl ((q_add rfl rfl rfl (by intro hc; omega))) ?_
      refine sr rfl rfl rfl ((q_move rfl rfl)) (sw_nil ?_)
      refine post_next (j + 1, s76, out ++ [⟨c.v, y73.1, y73.2⟩]) (by exact .cons rfl (.cons rfl (.cons rfl (.cons rfl (.cons rfl (.cons rfl (.cons rfl .nil))))))) (fun w' h => ?_) ⟨by simp only; omega, ?_⟩ (by simp only; omega)
      · have h1 : Cl w [] ([Sx.frz (fun w => RdL y73.1.v y73.2 w ∧ ∀ u ∈ y73.2, ChcIn u w), Sx.frz (fun w => ∀ L ∈ out, LetIn L w)] ++ [ownL 61 s76.v (out ++ [⟨c.v, y73.1, y73.2⟩]), blk b12 [s76.v] 45, ownL 21 sa.v ab, Sx.frz (fun w => ∀ x ∈ G, RdL x.2.w.v x.2.wl w), mpA b15 m, blk b4 (enc (default : Bk)) 45, blk b3 (enc o) 40, Sx.frz (fun w => ∀ kv ∈ m, RdL kv.2.v (fgX G kv.1) w)]) w' := (fun w h => Cl.sel (by exact .take 1 rfl (.take 2 rfl (.take 1 rfl (.take 1 rfl (.take 1 rfl (.take 1 rfl (.take 1 rfl (.take 1 rfl (.take 1 rfl (.take 1 rfl (.nil _))))))))))) w h) _ h
        have h2 := Cl.frz (R := fun w => ∀ q ∈ out ++ [⟨c.v, y73.1, y73.2⟩], LetIn q w) h1 fun w bs ⟨b1, _, _, k1, b2, _, _, k2, _⟩ q hq => by
          rcases List.mem_append.1 hq with hq | hq
          · exact frz_here k2 q hq
          · simp at hq; subst hq; exact frz_here k1
        exact (fun w h => Cl.sel (by exact .take 1 rfl (.take 0 rfl (.take 0 rfl (.take 0 rfl (.take 0 rfl (.take 0 rfl (.take 0 rfl (.take 0 rfl (.take 0 rfl (.nil _)))))))))) w h) _ h2
      · simp only
        rw [List.map_append, hout, List.take_succ_eq_append_getElem hj', List.map_append, ← nth_get hj', hc]
        congr 1
        simp only [List.map_cons, List.map_nil]
        rw [hy, listC_pl (fg_pl G c)]
    · skip
      have hj' : j = ab.length := by simp at h2; omega
      subst hj'
      rw [List.take_length] at hout
      refine cw_exit (post_then_x (post_then_x (post_blk_eq (post_then (cw_seq (cw_region ?_))))))
      refine sr rfl rfl rfl ((q_loadA rfl rfl (by exact .tail _ (.tail _ (.head _))) rfl)) ?_
      refine sw_eff0 rfl rfl (e_store (i := 6) rfl rfl rfl rfl rfl rfl rfl rfl) (sw_nil (post_then (cw_ret ?_)))
      refine post_ret1 rfl (resOk_blk (x := (⟨so, out⟩ : Bk)) rfl (by exact .tail _ (.tail _ (.tail _ (.tail _ (.tail _ (.tail _ (.head _))))))) (by rfl)) ?_
      refine fun w' h => ⟨⟨so, out⟩, rfl, ?_, ?_⟩
      · simp only
        rw [hout, habs, hG2]; rfl
      · have h1 : Cl w [] ([ownL 61 so.v out, Sx.frz (fun w => ∀ L ∈ out, LetIn L w)] ++ []) w' := (fun w h => Cl.sel (by exact .take 0 rfl (.take 0 rfl (.nil _))) w h) _ h
        exact Cl.frz h1 fun w bs ⟨b1, _, _, k1, b2, _, _, k2, _⟩ => ⟨ownL.rd k1, frz_here k2⟩
end Go.Proofs.YtkmbliojafefdaaGreatDoor

set_option autoImplicit false
set_option maxRecDepth 100000
namespace Go.Proofs.YtkmbliojafefdaaGreatDoor
open Go.Sx
open Enc (enc val)
theorem ent_ok {p : List Pr} {l : List Sp} (hsz : ∀ u ∈ l, u.word.size ≤ 1000000) (hl0 : lexE l = 0) (hp0 : prsE p = 0) {es : List Ety} (h : (es.map fun u => (u.word, u.sl)) = entC p l) : es.length ≤ 3000 ∧ ∀ u ∈ es, EtyOk u := by
  obtain ⟨z1, z2, z3, z4, z5⟩ := prsE_zero hp0
  have hl1 : l.length ≤ 3000 ∧ ∀ u ∈ l, spOk u = true := by
    unfold lexE at hl0
    split at hl0
    · cases hl0
    · split at hl0
      · rename_i h1 h2
        simp only [Bool.and_eq_true, List.all_eq_true] at h2
        exact ⟨by omega, h2.2⟩
      · cases hl0
  refine ⟨?_, fun u hu => ?_⟩
  · have h1 := ent_le p l
    rw [← h, List.length_map] at h1; omega
  · have h1 : (u.word, u.sl) ∈ entC p l := by rw [← h]; exact List.mem_map.2 ⟨u, hu, rfl⟩
    unfold entC at h1
    obtain ⟨x, hx, he⟩ := List.mem_map.1 h1
    obtain ⟨hx1, hx2⟩ := List.mem_filter.1 hx
    have e1 : x.word = u.word := congrArg Prod.fst he
    have e2 : alP p x.word x.pl = u.sl := congrArg Prod.snd he
    have hxo := hl1.2 x hx1
    have h3 : wordOk x.word = true ∧ phonesOk x.pl 120 = true := by simpa [spOk] using hxo
    have hrl : (runes x.word).length ≤ 40 := by have := h3.1; simp [wordOk] at this; omega
    have h4 : 0 ≤ leastC p (runes x.word) x.pl := by unfold alOk at hx2; simpa using hx2
    have h5 := path_ok h4
    have h6 : alP p x.word x.pl = pathC p (runes x.word) x.pl := by unfold alP; rw [if_pos hx2]
    refine ⟨by rw [← e1]; exact hsz x hx1, by rw [← e1]; exact hrl, by rw [← e1, ← e2, h6, h5.1], fun q hq => ?_⟩
    rw [← e2, h6] at hq
    obtain ⟨y, hy, rfl⟩ := h5.2 q hq
    have hy2 := z5 y hy
    unfold prOk at hy2
    simp only [Bool.and_eq_true] at hy2
    have h7 := hy2.1.1.2
    unfold phonesOk at h7
    simp only [Bool.and_eq_true, decide_eq_true_eq, List.all_eq_true] at h7
    exact ⟨by omega, h7.1⟩
def bkP (bl : List Let) : List (Int × List (List Cond × List ByteArray)) := bl.map fun L => (L.c, L.rl.map fun u => (u.tl, u.pl))
def learnP (l : List Sp) (p : List Pr) (o : Lrn) : List (Int × List (List Cond × List ByteArray)) := if optE l p o = 0 then learnC o (entC p l) else []
theorem optE_zero {l : List Sp} {p : List Pr} {o : Lrn} (h : optE l p o = 0) : lexE l = 0 ∧ prsE p = 0 ∧ LrnOk o := by
  unfold optE at h
  split at h
  · rename_i h1; exact absurd h h1
  · rename_i h1
    have h1 : worstC [lexE l, prsE p] = 0 := by simpa using h1
    split at h
    · rename_i h2
      unfold worstC at h1
      split at h1
      · cases h1
      · rw [orL2] at h1
        split at h1
        · rename_i h3; exact absurd h1 h3
        · rename_i h3; exact ⟨by simpa using h3, h1, lrnOk_of h2⟩
    · cases h
theorem learn_spec (sl sp : SlV) (l : List Sp) (p : List Pr) (o : Lrn) (hsz : ∀ u ∈ l, u.word.size ≤ 1000000) (h12 : optE l p o = 0 → (abcC ((entC p l).flatMap evOf)).length ≤ 12) (w : World) (hT : Stb w [] Tab) (hs : Stb w [] (RdL sl.v l)) (hl : Stb w [] fun w' => ∀ u ∈ l, SpIn u w') (hp0 : Stb w [] (RdL sp.v p)) (hp : Stb w [] fun w' => ∀ u ∈ p, PrIn u w') :
    Calls Tryz.prog 29 #[sl.v, sp.v, val o] w fun e w' => ∃ b : Bk, e = .returned (.tuple #[val b, .int .i64 (optE l p o)]) ∧ bkP b.bl = learnP l p o ∧ Cl w [] [Sx.frz (BkIn b)] w' := by
  refine calls_cw (vs := [_, _, _]) Tryz.func29 rfl Tryz.ntmps29 rfl (Cl.start0 w) (cw_seq (cw_region ?_))
  refine sw_x rfl rfl rfl (e_box rfl rfl rfl) (fun b5 => ?_)
  refine sw_x rfl rfl rfl (e_alloc rfl) (fun b6 => ?_)
  refine sr rfl rfl rfl ((q_assign rfl rfl)) (sw_nil (post_then (cw_seq (cw_seq (cw_region (sr rfl rfl rfl ((q_move rfl rfl)) (sr rfl rfl rfl ((q_move rfl rfl)) ?_)))))))
  refine sr rfl rfl rfl ((q_loadA rfl rfl (by exact .tail _ (.head _)) rfl)) ?_
  refine sw_step rfl rfl rfl (q_call (CanCall.mk Tryz.call69) rfl (.cons rfl inferInstance (.cons rfl inferInstance (.cons rfl inferInstance (.nil)))) (fun _ w1 hw => callq hw (options_spec _ _ l p o hsz w1 (stb_arg hw hT) (stb_arg hw hs) (stb_arg hw hl) (stb_arg hw hp0) (stb_arg hw hp)))) (sr rfl rfl rfl ((q_assign rfl rfl)) (sw_nil (post_then (cw_seq (cw_region (sr rfl rfl rfl ((q_move rfl rfl)) (sr rfl rfl rfl ((q_neq rfl rfl rfl)) (sw_nil (post_then ?_)))))))))
  refine cw_cond rfl (fun h => ?_) (fun h => ?_)
  · skip
    have h1 : optE l p o ≠ 0 := by simpa using h
    refine cw_seq (cw_region (sr rfl rfl rfl ((q_build rfl (.nil) rfl)) (sr rfl rfl rfl ((q_move rfl rfl)) (sw_eff0 rfl rfl (e_store (i := 0) rfl rfl rfl rfl rfl rfl rfl rfl) (sr rfl rfl rfl ((q_assign rfl rfl)) (sw_nil (post_then (cw_ret (post_then_r ?_)))))))))
    refine post_ret2 rfl (resOk_blk (x := (default : Bk)) rfl (by exact .head _) (by rfl)) (resOk_tmp rfl) ?_
    refine fun w' hw => ⟨default, rfl, by unfold learnP; rw [if_neg h1]; rfl, ?_⟩
    exact Cl.frz (H := []) ((fun w h => Cl.sel (by exact .nil _) w h) _ hw) fun w _ _ => ⟨rd_nil0 w, fun L hL => by cases hL⟩
  · skip
    have h1 : optE l p o = 0 := by simpa using h
    obtain ⟨z1, z2, z3⟩ := optE_zero h1
    refine cw_skip (post_then (cw_seq (cw_region_a (Cl w [] [blk b5 (enc o) 40]) [] mixed_Tryz ?_)))
    refine aw_pure 0 rfl (by kernel_rfl) (by kernel_rfl) (by kernel_rfl) (by kernel_rfl) (by kernel_rfl) rfl rfl rfl (q_move rfl rfl) ?_
    refine aw_pure 1 rfl (by kernel_rfl) (by kernel_rfl) (by kernel_rfl) (by kernel_rfl) (by kernel_rfl) rfl rfl rfl (q_move rfl rfl) ?_
    refine aw_take 3 (fun w h => Cl.sel (by exact .take 1 rfl (.nil _)) w h) rfl (by kernel_rfl) (by kernel_rfl) (by kernel_rfl) (by kernel_rfl) (by kernel_rfl) (by kernel_rfl) rfl rfl rfl (q_loadA rfl rfl (by exact .head _) rfl) ?_
    refine aw_x 2 (by kernel_rfl) rfl rfl rfl rfl (e_call (CanCall.mk Tryz.call71) rfl (.cons rfl inferInstance (.cons rfl inferInstance (.nil))) (fun w1 hw => entries_spec sl sp l p hsz z1 z2 w1 (stb_arg hw hs) (stb_arg hw hl) (stb_arg hw hp0) (stb_arg hw hp))) (by intro hb; exact fun _ w h => (fun w h => Cl.sel (by exact .take 2 rfl (.nil _)) w h) w h.2) (fun y19 => ?_)
    refine aw_imp fun hy => ?_
    obtain ⟨e1, e2⟩ := ent_ok hsz z1 z2 hy
    refine aw_x 4 (by kernel_rfl) rfl rfl rfl rfl (e_call (CanCall.mk Tryz.call70) rfl (.cons rfl inferInstance (.cons rfl inferInstance (.nil))) (fun w1 hw => learned_spec y19.1 y19.2 o z3 e1 e2 (by rw [hy]; exact h12 h1) w1 ((stb_frz (R := fun w => RdL y19.1.v y19.2 w ∧ ∀ u ∈ y19.2, EtIn u w) hw (by exact .head _)).mono fun _ h => h.1) ((stb_frz (R := fun w => RdL y19.1.v y19.2 w ∧ ∀ u ∈ y19.2, EtIn u w) hw (by exact .head _)).mono fun _ h => h.2))) (by intro hb; exact fun _ w h => (fun w h => Cl.sel (by exact .take 3 rfl (.nil _)) w h) w h.2) (fun b21 => ?_)
    refine aw_imp fun hb => ?_
    refine aw_one0 5 (by kernel_rfl) rfl rfl rfl (e_store (i := 2) rfl rfl rfl rfl rfl rfl rfl rfl) (by intro hb; exact (fun w h => Cl.sel (by exact .take 3 rfl (.nil _)) w h)) ?_
    refine aw_pure 6 rfl (by kernel_rfl) (by kernel_rfl) (by kernel_rfl) (by kernel_rfl) (by kernel_rfl) rfl rfl rfl (q_assign rfl rfl) ?_
    refine aw_end (by kernel_rfl) ?_
    refine post_then (cw_ret ?_)
    refine post_ret2 rfl (resOk_blk (x := b21) rfl (by exact .tail _ (.tail _ (.head _))) (by rfl)) (resOk_tmp rfl) ?_
    exact fun w' hw => ⟨b21, by rw [h1], by unfold bkP; rw [hb, hy]; unfold learnP; rw [if_pos h1], (fun w h => Cl.sel (by exact .take 0 rfl (.nil _)) w h) _ hw⟩
end Go.Proofs.YtkmbliojafefdaaGreatDoor

set_option autoImplicit false
set_option maxRecDepth 100000
namespace Go.Proofs.YtkmbliojafefdaaGreatDoor
open Go.Sx
open Enc (enc val)
theorem said39_spec (sv : Value) (l : List Snd) (hl : l.length ≤ 1000000) (w : World) (hs : Stb w [] (RdL sv l)) : Calls Tryz.prog 39 #[sv] w fun e w' => ∃ r : SlV, e = .returned r.v ∧ True ∧ Cl w [] [ownL 9 r.v (l.map (·.phone))] w' := by
  have hL := rd_len hs.here
  refine calls_cw (vs := [_]) Tryz.func39 rfl Tryz.ntmps39 rfl (Cl.start0 w) (cw_seq (cw_region (sr rfl rfl rfl ((q_assign rfl rfl)) (sw_nil (post_then (cw_seq (cw_region (sr rfl rfl rfl ((q_assign rfl rfl)) (sw_nil (post_then (cw_seq (cw_seq (cw_region (sr rfl rfl rfl ((q_assign rfl rfl)) (sw_nil (post_then (cw_block ?_)))))))))))))))))
  refine cw_loop (S := Nat × SlV) (fun y => [(0, [], sv), (3, [], y.2.v), (4, [], .int .i64 y.1)]) (fun y => Cl w [] [ownL 9 y.2.v ((l.take y.1).map (·.phone))]) (fun y => y.1 ≤ l.length) (fun y => l.length - y.1) (0, ⟨none, 0, 0⟩) (by simp) (by exact .cons rfl (.cons rfl (.cons rfl .nil))) (fun w' h => Cl.addNil 9 h) ?_
  rintro ⟨k, so⟩ hk
  dsimp only at hk ⊢
  have hkl : ((l.take k).map (·.phone)).length ≤ 1000000 := by rw [List.length_map, List.length_take]; omega
  refine cw_seq (cw_seq (cw_region (sr rfl rfl rfl ((q_move rfl rfl)) (sr rfl rfl rfl ((q_move rfl rfl)) ?_))))
  refine sr rfl rfl rfl ((q_len rfl (.cons rfl inferInstance (.nil)) (by exact fun w hw => Stb.cl (by assumption) hw))) ?_
  refine sr rfl rfl rfl ((q_lss rfl rfl rfl)) (sw_nil (post_then ?_))
  refine cw_cond rfl (fun h => ?_) (fun h => ?_)
  · skip
    have hk' : k < l.length := by simp at h; omega
    refine cw_skip (post_then (cw_seq (cw_block (cw_region (sr rfl rfl rfl ((q_move rfl rfl)) (sr rfl rfl rfl ((q_move rfl rfl)) (sr rfl rfl rfl ((q_move rfl rfl)) ?_)))))))
    refine sr rfl rfl rfl ((q_indexN rfl rfl rfl (by exact fun w hw => Stb.cl (by assumption) hw) (by intro hc; omega))) ?_
    refine sr rfl rfl rfl ((q_fieldEl rfl rfl (by exact fun w hw => Stb.cl (by assumption) hw) (by intro hc; omega))) ?_
    refine sr rfl rfl rfl ((q_loadF rfl rfl rfl (by exact fun w hw => Stb.cl (by assumption) hw) (by intro hc; omega) rfl)) ?_
    refine sw_x rfl rfl rfl (e_build1 (α := ByteArray) rfl rfl rfl rfl) (fun s17 => ?_)
    refine sw_x rfl rfl rfl (e_append (i := 1) rfl (.cons rfl inferInstance (.cons rfl inferInstance (.nil))) rfl rfl (by exact fun w hw => rd_own hw (by exact .head _)) (by first | omega | (simp only [List.length_set, List.length_append, List.length_cons, List.length_nil, List.length_replicate, List.length_take, List.length_drop, List.length_map]; omega)) rfl) (fun s18 => ?_)
    refine sr rfl rfl rfl ((q_assign rfl rfl)) (sw_nil (post_blk (post_then (cw_region (sr rfl rfl rfl ((q_move rfl rfl)) ?_)))))
    refine sr rfl rfl rfl ((q_add rfl rfl rfl (by intro hc; omega))) ?_
    refine sr rfl rfl rfl ((q_assign rfl rfl)) (sw_nil ?_)
    refine post_next (k + 1, s18) (by exact .cons rfl (.cons rfl (.cons rfl .nil))) (fun w' h => ?_) (by simp only; omega) (by simp only; omega)
    simp only
    rw [List.take_succ_eq_append_getElem hk', List.map_append, ← nth_get hk']
    exact (fun w h => Cl.sel (by exact .take 1 rfl (.nil _)) w h) _ h
  · skip
    have hk' : k = l.length := by simp at h; omega
    subst hk'
    rw [List.take_length]
    refine cw_exit (post_then_x (post_then_x (post_blk_eq (post_then (cw_seq (cw_region (sr rfl rfl rfl ((q_move rfl rfl)) (sr rfl rfl rfl ((q_assign rfl rfl)) (sw_nil (post_then (cw_ret (post_ret1 rfl (resOk_tmp rfl) ?_))))))))))))
    exact fun w' hw => ⟨so, rfl, trivial, hw⟩
instance : DecidableEq Cond := fun a b => decidable_of_iff (a.at_ = b.at_ ∧ a.c = b.c) ⟨fun h => by cases a; cases b; simp at h; simp [h], fun h => by rw [h]; exact ⟨rfl, rfl⟩⟩
section
variable {n : Fr} {E : Env} {C : World → Prop} {cs : List Bool} {o : Oper}
theorem neq109 (a b : Cond) (w : World) : (binOp .neq 109 (val a) (val b)).run Tryz.prog w = .ok (.bool (!decide (a = b))) w := by
  obtain ⟨a1, a2⟩ := a
  obtain ⟨b1, b2⟩ := b
  show (binOp .neq 109 (.agg #[.int .i64 a1, .int .i32 a2]) (.agg #[.int .i64 b1, .int .i32 b2])).run Tryz.prog w = _
  simp [go_sem]
  by_cases h1 : a1 = b1 <;> by_cases h2 : a2 = b2 <;> simp [h1, h2] <;> omega
theorem q_neqCond {t' : TypeId} {x y : Operand} {cx cy : List Bool} {a b : Cond} (ho : o.op = .binOp .neq 109 x y t') (hx : evl E x = some (cx, val a)) (hy : evl E y = some (cy, val b)) [sx : Sub cx cs] [sy : Sub cy cs] : OpR Tryz.prog n E C cs o (.bool (!decide (a = b))) :=
  .of_run fun ac ha hc w _ => by
    have hg : (eqGuard .neq 109 x y (val a) (val b)).run Tryz.prog w = .ok () w := by kernel_rfl
    unfold execOp; simp only [ho]; rw [ha.eval hx sx hc, ha.eval hy sy hc]
    simp [hg, neq109, Result.andThen]
end
theorem sameTests_spec (sa sb : Value) (a b : List Cond) (w : World) (ha : Stb w [] (RdL sa a)) (hb : Stb w [] (RdL sb b)) : Calls Tryz.prog 60 #[sa, sb] w fun e w' => e = .returned (.bool (decide (a = b))) ∧ Cl w [] [] w' := by
  have hLa := rd_len ha.here
  have hLb := rd_len hb.here
  refine calls_cw (vs := [_, _]) Tryz.func60 rfl Tryz.ntmps60 rfl (Cl.start0 w) (cw_seq (cw_region (sr rfl rfl rfl ((q_assign rfl rfl)) (sw_nil (post_then (cw_seq (cw_seq (cw_region (sr rfl rfl rfl ((q_move rfl rfl)) ?_)))))))))
  refine sr rfl rfl rfl ((q_len rfl (.cons rfl inferInstance (.nil)) (by exact fun w hw => Stb.cl (by assumption) hw))) ?_
  refine sr rfl rfl rfl ((q_move rfl rfl)) ?_
  refine sr rfl rfl rfl ((q_len rfl (.cons rfl inferInstance (.nil)) (by exact fun w hw => Stb.cl (by assumption) hw))) ?_
  refine sr rfl rfl rfl ((q_neq rfl rfl rfl)) (sw_nil (post_then ?_))
  refine cw_cond rfl (fun h => ?_) (fun h => ?_)
  · skip
    have h2 : ¬ a = b := fun e => by subst e; simp at h
    refine cw_seq (cw_region (sr rfl rfl rfl ((q_assign rfl rfl)) (sw_nil (post_then (cw_ret (post_then_r (post_ret1 rfl (resOk_tmp rfl) ?_)))))))
    exact fun w' hw => ⟨by rw [decide_eq_false h2], hw⟩
  · skip
    have hl : a.length = b.length := by simp at h; omega
    refine cw_skip (post_then (cw_seq (cw_seq (cw_region (sr rfl rfl rfl ((q_assign rfl rfl)) (sw_nil (post_then (cw_block ?_))))))))
    refine cw_loop (S := Nat) (fun k => [(0, [], sa), (1, [], sb), (5, [], .int .i64 k)]) (fun _ => Cl w [] []) (fun k => k ≤ a.length ∧ ∀ j, j < k → nth a j = nth b j) (fun k => a.length - k) 0 ⟨Nat.zero_le _, fun j hj => by omega⟩ (by exact .cons rfl (.cons rfl (.cons rfl .nil))) (fun _ h => h) ?_
    rintro k ⟨hk, hbe⟩
    refine cw_seq (cw_seq (cw_region (sr rfl rfl rfl ((q_move rfl rfl)) (sr rfl rfl rfl ((q_move rfl rfl)) ?_))))
    refine sr rfl rfl rfl ((q_len rfl (.cons rfl inferInstance (.nil)) (by exact fun w hw => Stb.cl (by assumption) hw))) ?_
    refine sr rfl rfl rfl ((q_lss rfl rfl rfl)) (sw_nil (post_then ?_))
    refine cw_cond rfl (fun h2 => ?_) (fun h2 => ?_)
    · skip
      have hk' : k < a.length := by simp at h2; omega
      have hkb : k < b.length := by omega
      refine cw_skip (post_then (cw_seq (cw_block (cw_seq (cw_region_a (Cl w [] []) [] mixed_Tryz ?_)))))
      refine aw_pure 0 rfl (by kernel_rfl) (by kernel_rfl) (by kernel_rfl) (by kernel_rfl) (by kernel_rfl) rfl rfl rfl (q_move rfl rfl) ?_
      refine aw_pure 1 rfl (by kernel_rfl) (by kernel_rfl) (by kernel_rfl) (by kernel_rfl) (by kernel_rfl) rfl rfl rfl (q_move rfl rfl) ?_
      refine aw_take 2 (fun w h => Cl.sel (by exact .nil _) w h) rfl (by kernel_rfl) (by kernel_rfl) (by kernel_rfl) (by kernel_rfl) (by kernel_rfl) (by kernel_rfl) rfl rfl rfl (q_indexN rfl rfl rfl (by exact fun w hw => Stb.cl (by assumption) hw) (by intro hc; omega)) ?_
      refine aw_take 3 (fun w h => Cl.sel (by exact .nil _) w h) rfl (by kernel_rfl) (by kernel_rfl) (by kernel_rfl) (by kernel_rfl) (by kernel_rfl) (by kernel_rfl) rfl rfl rfl (q_loadEl rfl rfl rfl (by exact fun w hw => Stb.cl (by assumption) hw) (by intro hc; omega)) ?_
      refine aw_pure 4 rfl (by kernel_rfl) (by kernel_rfl) (by kernel_rfl) (by kernel_rfl) (by kernel_rfl) rfl rfl rfl (q_move rfl rfl) ?_
      refine aw_pure 5 rfl (by kernel_rfl) (by kernel_rfl) (by kernel_rfl) (by kernel_rfl) (by kernel_rfl) rfl rfl rfl (q_move rfl rfl) ?_
      refine aw_take 6 (fun w h => Cl.sel (by exact .nil _) w h) rfl (by kernel_rfl) (by kernel_rfl) (by kernel_rfl) (by kernel_rfl) (by kernel_rfl) (by kernel_rfl) rfl rfl rfl (q_indexN rfl rfl rfl (by exact fun w hw => Stb.cl (by assumption) hw) (by intro hc; omega)) ?_
      refine aw_take 7 (fun w h => Cl.sel (by exact .nil _) w h) rfl (by kernel_rfl) (by kernel_rfl) (by kernel_rfl) (by kernel_rfl) (by kernel_rfl) (by kernel_rfl) rfl rfl rfl (q_loadEl rfl rfl rfl (by exact fun w hw => Stb.cl (by assumption) hw) (by intro hc; omega)) ?_
      refine aw_take 8 (fun w h => Cl.sel (by exact .nil _) w h) rfl (by kernel_rfl) (by kernel_rfl) (by kernel_rfl) (by kernel_rfl) (by kernel_rfl) (by kernel_rfl) rfl rfl rfl (q_neqCond (a := nth a k) (b := nth b k) rfl rfl rfl) ?_
      refine aw_end (by kernel_rfl) ?_
      refine post_then ?_
      refine cw_cond rfl (fun h3 => ?_) (fun h3 => ?_)
      · skip
        have h4 : ¬ a = b := fun e => by subst e; simp at h3
        refine cw_seq (cw_region (sr rfl rfl rfl ((q_assign rfl rfl)) (sw_nil (post_then (cw_ret (post_blk_r (post_then_r (post_then_r (post_blk_r (post_then_r (post_ret1 rfl (resOk_tmp rfl) ?_)))))))))))
        exact fun w' hw => ⟨by rw [decide_eq_false h4], hw⟩
      · skip
        have h4 : nth a k = nth b k := by simpa using h3
        refine cw_skip (post_blk (post_then (cw_region (sr rfl rfl rfl ((q_move rfl rfl)) ?_))))
        refine sr rfl rfl rfl ((q_add rfl rfl rfl (by intro hc; omega))) ?_
        refine sr rfl rfl rfl ((q_assign rfl rfl)) (sw_nil ?_)
        exact post_next (k + 1) (by exact .cons rfl (.cons rfl (.cons rfl .nil))) (fun _ h => h) ⟨by omega, fun j hj => by
          rcases Nat.lt_or_ge j k with h5 | h5
          · exact hbe j h5
          · have : j = k := by omega
            subst this; exact h4⟩ (by omega)
    · skip
      have hk' : k = a.length := by simp at h2; omega
      have h4 : a = b := List.ext_getElem hl fun i h5 h6 => by
        have := hbe i (by omega)
        rwa [nth_get h5, nth_get h6] at this
      refine cw_exit (post_then_x (post_then_x (post_blk_eq (post_then (cw_seq (cw_region (sr rfl rfl rfl ((q_assign rfl rfl)) (sw_nil (post_then (cw_ret (post_ret1 rfl (resOk_tmp rfl) ?_)))))))))))
      exact fun w' hw => ⟨by rw [decide_eq_true h4], hw⟩
def exL (s1 s2 s3 : SlV) : List Sp := [⟨⟨#[97, 99, 101]⟩, s1, [⟨#[101, 105]⟩, ⟨#[115]⟩]⟩, ⟨⟨#[97, 116, 101]⟩, s2, [⟨#[101, 105]⟩, ⟨#[116]⟩]⟩, ⟨⟨#[99, 97, 116]⟩, s3, [⟨#[107]⟩, ⟨#[97]⟩, ⟨#[116]⟩]⟩]
def exP (s1 s2 s3 s4 s5 s6 : SlV) : List Pr := [⟨97, s1, 0, [⟨#[97]⟩]⟩, ⟨97, s2, 1, [⟨#[101, 105]⟩]⟩, ⟨99, s3, 0, [⟨#[107]⟩]⟩, ⟨99, s4, 1, [⟨#[115]⟩]⟩, ⟨101, ⟨none, 0, 0⟩, 0, []⟩, ⟨101, s5, 1, [⟨#[101]⟩]⟩, ⟨116, s6, 0, [⟨#[116]⟩]⟩]
def ExR (a b s1 s2 s3 t1 t2 t3 t4 t5 t6 : SlV) (w : World) : Prop := (RdL a.v (exL s1 s2 s3) w ∧ ∀ u ∈ exL s1 s2 s3, SpIn u w) ∧ (RdL b.v (exP t1 t2 t3 t4 t5 t6) w ∧ ∀ u ∈ exP t1 t2 t3 t4 t5 t6, PrIn u w)
structure ExS where
  a : SlV
  b : SlV
  s1 : SlV
  s2 : SlV
  s3 : SlV
  t1 : SlV
  t2 : SlV
  t3 : SlV
  t4 : SlV
  t5 : SlV
  t6 : SlV
theorem example_spec (w : World) : Calls Tryz.prog 59 #[] w fun e w' => ∃ y : ExS, e = .returned (.tuple #[y.a.v, y.b.v]) ∧ True ∧ Cl w [] [Sx.frz (ExR y.a y.b y.s1 y.s2 y.s3 y.t1 y.t2 y.t3 y.t4 y.t5 y.t6)] w' := by
  refine calls_cw (vs := []) Tryz.func59 rfl Tryz.ntmps59 rfl (Cl.start0 w) (cw_seq (cw_region (sr rfl rfl rfl ((q_assign rfl rfl)) (sr rfl rfl rfl ((q_assign rfl rfl)) (sw_nil (post_then (cw_seq (cw_region ?_))))))))
  refine sw_x rfl rfl rfl (e_buildL (α := ByteArray) (l := [⟨#[101, 105]⟩, ⟨#[115]⟩]) rfl (.cons rfl inferInstance (.cons rfl inferInstance (.nil))) rfl rfl rfl rfl) (fun s4 => ?_)
  refine sr rfl rfl rfl ((q_build rfl (.cons rfl inferInstance (.cons rfl inferInstance (.nil))) rfl)) ?_
  refine sw_x rfl rfl rfl (e_buildL (α := ByteArray) (l := [⟨#[101, 105]⟩, ⟨#[116]⟩]) rfl (.cons rfl inferInstance (.cons rfl inferInstance (.nil))) rfl rfl rfl rfl) (fun s6 => ?_)
  refine sr rfl rfl rfl ((q_build rfl (.cons rfl inferInstance (.cons rfl inferInstance (.nil))) rfl)) ?_
  refine sw_x rfl rfl rfl (e_buildL (α := ByteArray) (l := [⟨#[107]⟩, ⟨#[97]⟩, ⟨#[116]⟩]) rfl (.cons rfl inferInstance (.cons rfl inferInstance (.cons rfl inferInstance (.nil)))) rfl rfl rfl rfl) (fun s8 => ?_)
  refine sr rfl rfl rfl ((q_build rfl (.cons rfl inferInstance (.cons rfl inferInstance (.nil))) rfl)) ?_
  refine sw_x rfl rfl rfl (e_buildL (α := Sp) (l := exL s4 s6 s8) rfl (.cons rfl inferInstance (.cons rfl inferInstance (.cons rfl inferInstance (.nil)))) rfl rfl rfl rfl) (fun s10 => ?_)
  refine sr rfl rfl rfl ((q_assign rfl rfl)) (sw_nil (post_then (cw_seq (cw_region ?_))))
  refine sw_x rfl rfl rfl (e_build1 (α := ByteArray) rfl rfl rfl rfl) (fun s11 => ?_)
  refine sr rfl rfl rfl ((q_build rfl (.cons rfl inferInstance (.cons rfl inferInstance (.nil))) rfl)) ?_
  refine sw_x rfl rfl rfl (e_build1 (α := ByteArray) rfl rfl rfl rfl) (fun s13 => ?_)
  refine sr rfl rfl rfl ((q_build rfl (.cons rfl inferInstance (.cons rfl inferInstance (.cons rfl inferInstance (.nil)))) rfl)) ?_
  refine sw_x rfl rfl rfl (e_build1 (α := ByteArray) rfl rfl rfl rfl) (fun s15 => ?_)
  refine sr rfl rfl rfl ((q_build rfl (.cons rfl inferInstance (.cons rfl inferInstance (.nil))) rfl)) ?_
  refine sw_x rfl rfl rfl (e_build1 (α := ByteArray) rfl rfl rfl rfl) (fun s17 => ?_)
  refine sr rfl rfl rfl ((q_build rfl (.cons rfl inferInstance (.cons rfl inferInstance (.cons rfl inferInstance (.nil)))) rfl)) (sr rfl rfl rfl ((q_build rfl (.cons rfl inferInstance (.nil)) rfl)) ?_)
  refine sw_x rfl rfl rfl (e_build1 (α := ByteArray) rfl rfl rfl rfl) (fun s20 => ?_)
  refine sr rfl rfl rfl ((q_build rfl (.cons rfl inferInstance (.cons rfl inferInstance (.cons rfl inferInstance (.nil)))) rfl)) ?_
  refine sw_x rfl rfl rfl (e_build1 (α := ByteArray) rfl rfl rfl rfl) (fun s22 => ?_)
  refine sr rfl rfl rfl ((q_build rfl (.cons rfl inferInstance (.cons rfl inferInstance (.nil))) rfl)) ?_
  refine sw_x rfl rfl rfl (e_buildL (α := Pr) (l := exP s11 s13 s15 s17 s20 s22) rfl (.cons rfl inferInstance (.cons rfl inferInstance (.cons rfl inferInstance (.cons rfl inferInstance (.cons rfl inferInstance (.cons rfl inferInstance (.cons rfl inferInstance (.nil)))))))) rfl rfl rfl rfl) (fun s24 => ?_)
  refine sr rfl rfl rfl ((q_assign rfl rfl)) (sw_nil (post_then (cw_seq (cw_region (sr rfl rfl rfl ((q_move rfl rfl)) (sr rfl rfl rfl ((q_move rfl rfl)) (sr rfl rfl rfl ((q_assign rfl rfl)) (sr rfl rfl rfl ((q_assign rfl rfl)) (sw_nil (post_then (cw_ret (post_ret2 rfl (resOk_tmp rfl) (resOk_tmp rfl) ?_))))))))))))
  refine fun w' hw => ⟨⟨s10, s24, s4, s6, s8, s11, s13, s15, s17, s20, s22⟩, rfl, trivial, ?_⟩
  have h1 : Cl w [] ([ownL 68 s24.v (exP s11 s13 s15 s17 s20 s22), ownL 9 s22.v ([⟨#[116]⟩] : List ByteArray), ownL 9 s20.v ([⟨#[101]⟩] : List ByteArray), ownL 9 s17.v ([⟨#[115]⟩] : List ByteArray), ownL 9 s15.v ([⟨#[107]⟩] : List ByteArray), ownL 9 s13.v ([⟨#[101, 105]⟩] : List ByteArray), ownL 9 s11.v ([⟨#[97]⟩] : List ByteArray), ownL 56 s10.v (exL s4 s6 s8), ownL 9 s8.v ([⟨#[107]⟩, ⟨#[97]⟩, ⟨#[116]⟩] : List ByteArray), ownL 9 s6.v ([⟨#[101, 105]⟩, ⟨#[116]⟩] : List ByteArray), ownL 9 s4.v ([⟨#[101, 105]⟩, ⟨#[115]⟩] : List ByteArray)] ++ []) w' := (fun w h => Cl.sel (by exact .take 0 rfl (.take 0 rfl (.take 0 rfl (.take 0 rfl (.take 0 rfl (.take 0 rfl (.take 0 rfl (.take 0 rfl (.take 0 rfl (.take 0 rfl (.take 0 rfl (.nil _)))))))))))) w h) _ hw
  refine Cl.frz h1 fun w bs ⟨_, _, _, k24, _, _, _, k22, _, _, _, k20, _, _, _, k17, _, _, _, k15, _, _, _, k13, _, _, _, k11, _, _, _, k10, _, _, _, k8, _, _, _, k6, _, _, _, k4, _⟩ => ?_
  refine ⟨⟨ownL.rd k10, fun u hu => ?_⟩, ownL.rd k24, fun u hu => ?_⟩
  · simp only [exL, List.mem_cons, List.not_mem_nil, or_false] at hu
    rcases hu with rfl | rfl | rfl
    · exact ownL.rd k4
    · exact ownL.rd k6
    · exact ownL.rd k8
  · simp only [exP, List.mem_cons, List.not_mem_nil, or_false] at hu
    rcases hu with rfl | rfl | rfl | rfl | rfl | rfl | rfl
    · exact ownL.rd k11
    · exact ownL.rd k13
    · exact ownL.rd k15
    · exact ownL.rd k17
    · exact rd_nil0 w
    · exact ownL.rd k20
    · exact ownL.rd k22
end Go.Proofs.YtkmbliojafefdaaGreatDoor

set_option autoImplicit false
set_option maxRecDepth 100000
namespace Go.Proofs.YtkmbliojafefdaaGreatDoor
open Go.Sx
variable (s1 s2 s3 t1 t2 t3 t4 t5 t6 : SlV)
theorem ex_alignN : alignN (exP t1 t2 t3 t4 t5 t6) ⟨#[97, 116, 101]⟩ ([⟨#[101, 105]⟩, ⟨#[116]⟩] : List ByteArray) = 1 := by kernel_rfl
theorem ex_alignE : alignE (exP t1 t2 t3 t4 t5 t6) ⟨#[97, 116, 101]⟩ ([⟨#[101, 105]⟩, ⟨#[116]⟩] : List ByteArray) = 0 := by kernel_rfl
theorem ex_alignP : alignP (exP t1 t2 t3 t4 t5 t6) ⟨#[97, 116, 101]⟩ ([⟨#[101, 105]⟩, ⟨#[116]⟩] : List ByteArray) = [([⟨#[101, 105]⟩] : List ByteArray), ([⟨#[116]⟩] : List ByteArray), ([] : List ByteArray)] := by kernel_rfl
theorem ex_optE : optE (exL s1 s2 s3) (exP t1 t2 t3 t4 t5 t6) (⟨2, 1, 10⟩ : Lrn) = 0 := by kernel_rfl
theorem ex_abc : (abcC ((entC (exP t1 t2 t3 t4 t5 t6) (exL s1 s2 s3)).flatMap evOf)).length = 4 := by kernel_rfl
def exBk : List (Int × List (List Cond × List ByteArray)) := [(97, [([⟨-1, 0⟩], ([⟨#[101, 105]⟩] : List ByteArray)), ([], ([⟨#[97]⟩] : List ByteArray))]), (99, [([⟨-1, 0⟩], ([⟨#[107]⟩] : List ByteArray)), ([], ([⟨#[115]⟩] : List ByteArray))]), (101, [([], [])]), (116, [([], ([⟨#[116]⟩] : List ByteArray))])]
theorem ex_learn : learnP (exL s1 s2 s3) (exP t1 t2 t3 t4 t5 t6) (⟨2, 1, 10⟩ : Lrn) = exBk := by kernel_rfl
theorem two_rules {rl : List Chc} {a1 a2 : List Cond} {l1 l2 : List ByteArray} (h : (rl.map fun u => (u.tl, u.pl)) = [(a1, l1), (a2, l2)]) : ∃ u v : Chc, rl = [⟨u.t, u.p, a1, l1⟩, ⟨v.t, v.p, a2, l2⟩] := by
  match rl, h with
  | [u, v], h =>
    simp only [List.map_cons, List.map_nil, List.cons.injEq, Prod.mk.injEq, and_true] at h
    obtain ⟨⟨rfl, rfl⟩, rfl, rfl⟩ := h
    exact ⟨u, v, rfl⟩
theorem one_rule {rl : List Chc} {a1 : List Cond} {l1 : List ByteArray} (h : (rl.map fun u => (u.tl, u.pl)) = [(a1, l1)]) : ∃ u : Chc, rl = [⟨u.t, u.p, a1, l1⟩] := by
  match rl, h with
  | [u], h =>
    simp only [List.map_cons, List.map_nil, List.cons.injEq, Prod.mk.injEq, and_true] at h
    obtain ⟨rfl, rfl⟩ := h
    exact ⟨u, rfl⟩
structure BkS where
  r1 : SlV
  r2 : SlV
  r3 : SlV
  r4 : SlV
  u1 : Chc
  u2 : Chc
  u3 : Chc
  u4 : Chc
  u5 : Chc
  u6 : Chc
def exBl (b : BkS) : List Let := [⟨97, b.r1, [⟨b.u1.t, b.u1.p, [⟨-1, 0⟩], ([⟨#[101, 105]⟩] : List ByteArray)⟩, ⟨b.u2.t, b.u2.p, [], ([⟨#[97]⟩] : List ByteArray)⟩]⟩, ⟨99, b.r2, [⟨b.u3.t, b.u3.p, [⟨-1, 0⟩], ([⟨#[107]⟩] : List ByteArray)⟩, ⟨b.u4.t, b.u4.p, [], ([⟨#[115]⟩] : List ByteArray)⟩]⟩, ⟨101, b.r3, [⟨b.u5.t, b.u5.p, [], []⟩]⟩, ⟨116, b.r4, [⟨b.u6.t, b.u6.p, [], ([⟨#[116]⟩] : List ByteArray)⟩]⟩]
theorem ex_shape {bl : List Let} (h : bkP bl = exBk) : ∃ b, bl = exBl b := by
  have hl : bl.length = 4 := by have := congrArg List.length h; simpa [bkP, exBk] using this
  obtain ⟨L1, L2, L3, L4, rfl⟩ : ∃ L1 L2 L3 L4, bl = [L1, L2, L3, L4] := by
    match bl, hl with
    | [a, b, c, d], _ => exact ⟨a, b, c, d, rfl⟩
  simp only [bkP, exBk, List.map_cons, List.map_nil, List.cons.injEq, Prod.mk.injEq, and_true] at h
  obtain ⟨⟨c1, h1⟩, ⟨c2, h2⟩, ⟨c3, h3⟩, c4, h4⟩ := h
  obtain ⟨u1, u2, e1⟩ := two_rules h1
  obtain ⟨u3, u4, e2⟩ := two_rules h2
  obtain ⟨u5, e3⟩ := one_rule h3
  obtain ⟨u6, e4⟩ := one_rule h4
  refine ⟨⟨L1.r, L2.r, L3.r, L4.r, u1, u2, u3, u4, u5, u6⟩, ?_⟩
  obtain ⟨c1', r1, l1⟩ := L1
  obtain ⟨c2', r2, l2⟩ := L2
  obtain ⟨c3', r3, l3⟩ := L3
  obtain ⟨c4', r4, l4⟩ := L4
  simp only at c1 c2 c3 c4 e1 e2 e3 e4
  subst c1 c2 c3 c4 e1 e2 e3 e4
  rfl
variable (b : BkS)
theorem ex_sayE : sayE (exBl b) ⟨#[99, 97, 116]⟩ = 0 := by kernel_rfl
theorem ex_sayR : (sayR (exBl b) ⟨#[99, 97, 116]⟩).map (·.phone) = ([⟨#[107]⟩, ⟨#[97]⟩, ⟨#[116]⟩] : List ByteArray) := by kernel_rfl
theorem ex_sayL : (sayR (exBl b) ⟨#[99, 97, 116]⟩).length = 3 := by kernel_rfl
theorem ex_joinE : joinE [(⟨⟨none, 0, 0⟩, s1, s2, s3, [], ([⟨#[97]⟩] : List ByteArray), ([⟨#[122]⟩] : List ByteArray), ([⟨#[97]⟩] : List ByteArray)⟩ : Jnt)] [([⟨#[108]⟩, ⟨#[101]⟩] : List ByteArray), ([⟨#[97]⟩, ⟨#[109]⟩, ⟨#[105]⟩] : List ByteArray)] = 0 := by kernel_rfl
theorem ex_joinR : joinR [(⟨⟨none, 0, 0⟩, s1, s2, s3, [], ([⟨#[97]⟩] : List ByteArray), ([⟨#[122]⟩] : List ByteArray), ([⟨#[97]⟩] : List ByteArray)⟩ : Jnt)] [([⟨#[108]⟩, ⟨#[101]⟩] : List ByteArray), ([⟨#[97]⟩, ⟨#[109]⟩, ⟨#[105]⟩] : List ByteArray)] = [([⟨#[108]⟩, ⟨#[101]⟩, ⟨#[122]⟩] : List ByteArray), ([⟨#[97]⟩, ⟨#[109]⟩, ⟨#[105]⟩] : List ByteArray)] := by kernel_rfl
theorem ex_accE : accentE [(⟨⟨#[114]⟩, s1, [([⟨#[82]⟩] : List ByteArray), ([⟨#[82]⟩, ⟨#[120]⟩] : List ByteArray)]⟩ : Fgn)] ([⟨#[114]⟩, ⟨#[97]⟩, ⟨#[114]⟩] : List ByteArray) 5 = 0 := by kernel_rfl
theorem ex_accR : accentR [(⟨⟨#[114]⟩, s1, [([⟨#[82]⟩] : List ByteArray), ([⟨#[82]⟩, ⟨#[120]⟩] : List ByteArray)]⟩ : Fgn)] ([⟨#[114]⟩, ⟨#[97]⟩, ⟨#[114]⟩] : List ByteArray) 5 = ([⟨#[82]⟩, ⟨#[120]⟩, ⟨#[97]⟩, ⟨#[82]⟩, ⟨#[120]⟩] : List ByteArray) := by kernel_rfl
end Go.Proofs.YtkmbliojafefdaaGreatDoor

set_option autoImplicit false
set_option maxRecDepth 100000
namespace Go.Proofs.YtkmbliojafefdaaGreatDoor
open Go.Sx
open Enc (enc val)
theorem rdrr_two {H : List Asn} {w0 w : World} {fp : List Nat} {s a b : SlV} {l m : List ByteArray} {e e' : TypeId} (h : Cl w0 fp H w) (hs : ownL e s.v [a, b] ∈ H) (ha : ownL e' a.v l ∈ H) (hb : ownL e' b.v m ∈ H) : Stb w [] (RdRR s.v [l, m]) :=
  ⟨fun w' k => ⟨[a, b], (stb_own h hs).stb w' k, rfl, fun i hi => by
    match i, hi with
    | 0, _ => exact (stb_own h ha).stb w' k
    | 1, _ => exact (stb_own h hb).stb w' k⟩⟩
theorem ex_size (s1 s2 s3 : SlV) : ∀ u ∈ exL s1 s2 s3, u.word.size ≤ 1000000 := fun u hu => by
  simp only [exL, List.mem_cons, List.not_mem_nil, or_false] at hu
  rcases hu with rfl | rfl | rfl <;> exact Nat.le_of_ble_eq_true rfl
theorem jnt_one {H : List Asn} {w0 w : World} {fp : List Nat} {s t v : SlV} {a b c : List ByteArray} {e : TypeId} (h : Cl w0 fp H w) (hs : ownL e s.v a ∈ H) (ht : ownL e t.v b ∈ H) (hv : ownL e v.v c ∈ H) : Stb w [] fun w' => ∀ u ∈ [(⟨⟨none, 0, 0⟩, s, t, v, [], a, b, c⟩ : Jnt)], JntIn u w' :=
  ⟨fun w' k u hu => by
    simp only [List.mem_cons, List.not_mem_nil, or_false] at hu
    subst hu
    exact ⟨rd_nil0 w', (stb_own h hs).stb w' k, (stb_own h ht).stb w' k, (stb_own h hv).stb w' k⟩⟩
theorem fgn_one {H : List Asn} {w0 w : World} {fp : List Nat} {ph : ByteArray} {s a b : SlV} {l m : List ByteArray} {e e' : TypeId} (h : Cl w0 fp H w) (hs : ownL e s.v [a, b] ∈ H) (ha : ownL e' a.v l ∈ H) (hb : ownL e' b.v m ∈ H) : Stb w [] fun w' => ∀ u ∈ [(⟨ph, s, [l, m]⟩ : Fgn)], FgnIn u w' :=
  ⟨fun w' k u hu => by
    simp only [List.mem_cons, List.not_mem_nil, or_false] at hu
    subst hu
    exact (rdrr_two h hs ha hb).stb w' k⟩
theorem rdr_two {H : List Asn} {w0 w : World} {fp : List Nat} {a b : SlV} {l m : List ByteArray} {e' : TypeId} (h : Cl w0 fp H w) (ha : ownL e' a.v l ∈ H) (hb : ownL e' b.v m ∈ H) : Stb w [] (RdR [a, b] [l, m]) :=
  ⟨fun w' k => ⟨rfl, fun i hi => by
    match i, hi with
    | 0, _ => exact (stb_own h ha).stb w' k
    | 1, _ => exact (stb_own h hb).stb w' k⟩⟩
theorem rdr_three {H : List Asn} {w0 w : World} {fp : List Nat} {a b : SlV} {l m : List ByteArray} {e' : TypeId} (h : Cl w0 fp H w) (ha : ownL e' a.v l ∈ H) (hb : ownL e' b.v m ∈ H) : Stb w [] (RdR [a, b, ⟨none, 0, 0⟩] [l, m, []]) :=
  ⟨fun w' k => ⟨rfl, fun i hi => by
    match i, hi with
    | 0, _ => exact (stb_own h ha).stb w' k
    | 1, _ => exact (stb_own h hb).stb w' k
    | 2, _ => exact rd_nil0 w'⟩⟩
theorem ord_self : ∀ l : List ByteArray, ordL l l = 0
  | [] => rfl
  | x :: l => by simp [ordL, ord_self l]
theorem known_spec (w : World) (hT : Stb w [] Tab) : Calls Tryz.prog 19 #[] w fun e w' => e = .returned (.bool true) ∧ Cl w [] [] w' := by
  refine calls_cw (vs := []) Tryz.func19 rfl Tryz.ntmps19 rfl (Cl.start0 w) (cw_seq (cw_region (sr rfl rfl rfl ((q_assign rfl rfl)) (sw_nil (post_then (cw_seq (cw_region ?_)))))))
  refine sw_x rfl rfl rfl (e_call (CanCall.mk Tryz.call59) rfl (.nil) (fun w1 hw => example_spec w1)) (fun y15 => ?_)
  refine sw_imp fun _ => (sr rfl rfl rfl ((q_move rfl rfl)) ?_)
  first | refine sr rfl rfl rfl ((q_extract rfl rfl rfl)) ?_ | refine sr rfl rfl rfl ((q_extract rfl rfl (nextV_0 _))) ?_ | refine sr rfl rfl rfl ((q_extract rfl rfl (nextSV_0 _ _))) ?_ | refine sr rfl rfl rfl ((q_extract rfl rfl (nextSV_1 (by assumption)))) ?_ | refine sr rfl rfl rfl ((q_extract rfl rfl (nextSV_2 (by assumption)))) ?_
  first | refine sr rfl rfl rfl ((q_extract rfl rfl rfl)) ?_ | refine sr rfl rfl rfl ((q_extract rfl rfl (nextV_0 _))) ?_ | refine sr rfl rfl rfl ((q_extract rfl rfl (nextSV_0 _ _))) ?_ | refine sr rfl rfl rfl ((q_extract rfl rfl (nextSV_1 (by assumption)))) ?_ | refine sr rfl rfl rfl ((q_extract rfl rfl (nextSV_2 (by assumption)))) ?_
  refine sr rfl rfl rfl ((q_assign rfl rfl)) (sr rfl rfl rfl ((q_assign rfl rfl)) (sw_nil (post_then (cw_seq (cw_region (sr rfl rfl rfl ((q_move rfl rfl)) ?_))))))
  refine sw_x rfl rfl rfl (e_buildL (α := ByteArray) (l := [⟨#[101, 105]⟩, ⟨#[116]⟩]) rfl (.cons rfl inferInstance (.cons rfl inferInstance (.nil))) rfl rfl rfl rfl) (fun s20 => ?_)
  refine sw_x rfl rfl rfl (e_call (CanCall.mk Tryz.call20) rfl (.cons rfl inferInstance (.cons rfl inferInstance (.cons rfl inferInstance (.nil)))) (fun w1 hw => align_spec y15.b s20 (exP y15.t1 y15.t2 y15.t3 y15.t4 y15.t5 y15.t6) ⟨#[97, 116, 101]⟩ [⟨#[101, 105]⟩, ⟨#[116]⟩] (by decide) w1 (stb_arg hw hT) ((stb_frz (R := ExR y15.a y15.b y15.s1 y15.s2 y15.s3 y15.t1 y15.t2 y15.t3 y15.t4 y15.t5 y15.t6) hw (by first | assumption | (repeat first | exact .head _ | apply List.Mem.tail))).mono fun _ h => h.2.1) ((stb_frz (R := ExR y15.a y15.b y15.s1 y15.s2 y15.s3 y15.t1 y15.t2 y15.t3 y15.t4 y15.t5 y15.t6) hw (by first | assumption | (repeat first | exact .head _ | apply List.Mem.tail))).mono fun _ h => h.2.2) (stb_own hw (by first | assumption | (repeat first | exact .head _ | apply List.Mem.tail))))) (fun x21 => ?_)
  refine sw_imp fun _ => ?_
  rw [ex_alignN, ex_alignE, ex_alignP]
  refine sr rfl rfl rfl ((q_move rfl rfl)) ?_
  first | refine sr rfl rfl rfl ((q_extract rfl rfl rfl)) ?_ | refine sr rfl rfl rfl ((q_extract rfl rfl (nextV_0 _))) ?_ | refine sr rfl rfl rfl ((q_extract rfl rfl (nextSV_0 _ _))) ?_ | refine sr rfl rfl rfl ((q_extract rfl rfl (nextSV_1 (by assumption)))) ?_ | refine sr rfl rfl rfl ((q_extract rfl rfl (nextSV_2 (by assumption)))) ?_
  first | refine sr rfl rfl rfl ((q_extract rfl rfl rfl)) ?_ | refine sr rfl rfl rfl ((q_extract rfl rfl (nextV_0 _))) ?_ | refine sr rfl rfl rfl ((q_extract rfl rfl (nextSV_0 _ _))) ?_ | refine sr rfl rfl rfl ((q_extract rfl rfl (nextSV_1 (by assumption)))) ?_ | refine sr rfl rfl rfl ((q_extract rfl rfl (nextSV_2 (by assumption)))) ?_
  first | refine sr rfl rfl rfl ((q_extract rfl rfl rfl)) ?_ | refine sr rfl rfl rfl ((q_extract rfl rfl (nextV_0 _))) ?_ | refine sr rfl rfl rfl ((q_extract rfl rfl (nextSV_0 _ _))) ?_ | refine sr rfl rfl rfl ((q_extract rfl rfl (nextSV_1 (by assumption)))) ?_ | refine sr rfl rfl rfl ((q_extract rfl rfl (nextSV_2 (by assumption)))) ?_
  refine sr rfl rfl rfl ((q_assign rfl rfl)) (sr rfl rfl rfl ((q_assign rfl rfl)) (sr rfl rfl rfl ((q_assign rfl rfl)) (sw_nil (post_then (cw_seq (cw_region (sr rfl rfl rfl ((q_move rfl rfl)) (sr rfl rfl rfl ((q_move rfl rfl)) (sr rfl rfl rfl ((q_build rfl (.cons rfl inferInstance (.cons rfl inferInstance (.cons rfl inferInstance (.nil)))) rfl)) ?_)))))))))
  refine sw_x rfl rfl rfl (e_call (CanCall.mk Tryz.call29) rfl (.cons rfl inferInstance (.cons rfl inferInstance (.cons rfl inferInstance (.nil)))) (fun w1 hw => learn_spec y15.a y15.b (exL y15.s1 y15.s2 y15.s3) (exP y15.t1 y15.t2 y15.t3 y15.t4 y15.t5 y15.t6) ⟨2, 1, 10⟩ (ex_size _ _ _) (fun _ => by rw [ex_abc]; decide) w1 (stb_arg hw hT) ((stb_frz (R := ExR y15.a y15.b y15.s1 y15.s2 y15.s3 y15.t1 y15.t2 y15.t3 y15.t4 y15.t5 y15.t6) hw (by first | assumption | (repeat first | exact .head _ | apply List.Mem.tail))).mono fun _ h => h.1.1) ((stb_frz (R := ExR y15.a y15.b y15.s1 y15.s2 y15.s3 y15.t1 y15.t2 y15.t3 y15.t4 y15.t5 y15.t6) hw (by first | assumption | (repeat first | exact .head _ | apply List.Mem.tail))).mono fun _ h => h.1.2) ((stb_frz (R := ExR y15.a y15.b y15.s1 y15.s2 y15.s3 y15.t1 y15.t2 y15.t3 y15.t4 y15.t5 y15.t6) hw (by first | assumption | (repeat first | exact .head _ | apply List.Mem.tail))).mono fun _ h => h.2.1) ((stb_frz (R := ExR y15.a y15.b y15.s1 y15.s2 y15.s3 y15.t1 y15.t2 y15.t3 y15.t4 y15.t5 y15.t6) hw (by first | assumption | (repeat first | exact .head _ | apply List.Mem.tail))).mono fun _ h => h.2.2))) (fun b29 => ?_)
  refine sw_imp fun hb => ?_
  rw [ex_optE]
  rw [ex_learn] at hb
  obtain ⟨bsl, bl⟩ := b29
  obtain ⟨bk, hbk⟩ := ex_shape hb
  simp only at hbk
  subst hbk
  refine sr rfl rfl rfl ((q_move rfl rfl)) ?_
  first | refine sr rfl rfl rfl ((q_extract rfl rfl rfl)) ?_ | refine sr rfl rfl rfl ((q_extract rfl rfl (nextV_0 _))) ?_ | refine sr rfl rfl rfl ((q_extract rfl rfl (nextSV_0 _ _))) ?_ | refine sr rfl rfl rfl ((q_extract rfl rfl (nextSV_1 (by assumption)))) ?_ | refine sr rfl rfl rfl ((q_extract rfl rfl (nextSV_2 (by assumption)))) ?_
  first | refine sr rfl rfl rfl ((q_extract rfl rfl rfl)) ?_ | refine sr rfl rfl rfl ((q_extract rfl rfl (nextV_0 _))) ?_ | refine sr rfl rfl rfl ((q_extract rfl rfl (nextSV_0 _ _))) ?_ | refine sr rfl rfl rfl ((q_extract rfl rfl (nextSV_1 (by assumption)))) ?_ | refine sr rfl rfl rfl ((q_extract rfl rfl (nextSV_2 (by assumption)))) ?_
  refine sw_x rfl rfl rfl (e_alloc rfl) (fun b6 => ?_)
  first | refine sw_eff0 rfl rfl (e_store (i := 0) rfl rfl rfl rfl rfl rfl rfl rfl) ?_ | refine sw_eff0 rfl rfl (e_store (i := 1) rfl rfl rfl rfl rfl rfl rfl rfl) ?_ | refine sw_eff0 rfl rfl (e_store (i := 2) rfl rfl rfl rfl rfl rfl rfl rfl) ?_ | refine sw_eff0 rfl rfl (e_store (i := 3) rfl rfl rfl rfl rfl rfl rfl rfl) ?_ | refine sw_eff0 rfl rfl (e_store (i := 4) rfl rfl rfl rfl rfl rfl rfl rfl) ?_ | refine sw_eff0 rfl rfl (e_store (i := 5) rfl rfl rfl rfl rfl rfl rfl rfl) ?_ | refine sw_eff0 rfl rfl (e_store (i := 6) rfl rfl rfl rfl rfl rfl rfl rfl) ?_ | refine sw_eff0 rfl rfl (e_store (i := 7) rfl rfl rfl rfl rfl rfl rfl rfl) ?_ | refine sw_eff0 rfl rfl (e_store (i := 8) rfl rfl rfl rfl rfl rfl rfl rfl) ?_ | refine sw_eff0 rfl rfl (e_store (i := 9) rfl rfl rfl rfl rfl rfl rfl rfl) ?_ | refine sw_eff0 rfl rfl (e_store (i := 10) rfl rfl rfl rfl rfl rfl rfl rfl) ?_ | refine sw_eff0 rfl rfl (e_store (i := 11) rfl rfl rfl rfl rfl rfl rfl rfl) ?_ | refine sw_eff0 rfl rfl (e_store (i := 12) rfl rfl rfl rfl rfl rfl rfl rfl) ?_ | refine sw_eff0 rfl rfl (e_store (i := 13) rfl rfl rfl rfl rfl rfl rfl rfl) ?_ | refine sw_eff0 rfl rfl (e_store (i := 14) rfl rfl rfl rfl rfl rfl rfl rfl) ?_ | refine sw_eff0 rfl rfl (e_store (i := 15) rfl rfl rfl rfl rfl rfl rfl rfl) ?_ | refine sw_eff0 rfl rfl (e_storeEl1 (i := 0) rfl rfl rfl rfl rfl (by first | omega | (simp only [List.length_set, List.length_append, List.length_cons, List.length_nil, List.length_replicate, List.length_take, List.length_drop, List.length_map]; omega))) ?_ | refine sw_eff0 rfl rfl (e_storeEl1 (i := 1) rfl rfl rfl rfl rfl (by first | omega | (simp only [List.length_set, List.length_append, List.length_cons, List.length_nil, List.length_replicate, List.length_take, List.length_drop, List.length_map]; omega))) ?_ | refine sw_eff0 rfl rfl (e_storeEl1 (i := 2) rfl rfl rfl rfl rfl (by first | omega | (simp only [List.length_set, List.length_append, List.length_cons, List.length_nil, List.length_replicate, List.length_take, List.length_drop, List.length_map]; omega))) ?_ | refine sw_eff0 rfl rfl (e_storeEl1 (i := 3) rfl rfl rfl rfl rfl (by first | omega | (simp only [List.length_set, List.length_append, List.length_cons, List.length_nil, List.length_replicate, List.length_take, List.length_drop, List.length_map]; omega))) ?_ | refine sw_eff0 rfl rfl (e_storeEl1 (i := 4) rfl rfl rfl rfl rfl (by first | omega | (simp only [List.length_set, List.length_append, List.length_cons, List.length_nil, List.length_replicate, List.length_take, List.length_drop, List.length_map]; omega))) ?_ | refine sw_eff0 rfl rfl (e_storeEl1 (i := 5) rfl rfl rfl rfl rfl (by first | omega | (simp only [List.length_set, List.length_append, List.length_cons, List.length_nil, List.length_replicate, List.length_take, List.length_drop, List.length_map]; omega))) ?_ | refine sw_eff0 rfl rfl (e_storeEl1 (i := 6) rfl rfl rfl rfl rfl (by first | omega | (simp only [List.length_set, List.length_append, List.length_cons, List.length_nil, List.length_replicate, List.length_take, List.length_drop, List.length_map]; omega))) ?_ | refine sw_eff0 rfl rfl (e_storeEl1 (i := 7) rfl rfl rfl rfl rfl (by first | omega | (simp only [List.length_set, List.length_append, List.length_cons, List.length_nil, List.length_replicate, List.length_take, List.length_drop, List.length_map]; omega))) ?_ | refine sw_eff0 rfl rfl (e_storeEl1 (i := 8) rfl rfl rfl rfl rfl (by first | omega | (simp only [List.length_set, List.length_append, List.length_cons, List.length_nil, List.length_replicate, List.length_take, List.length_drop, List.length_map]; omega))) ?_ | refine sw_eff0 rfl rfl (e_storeEl1 (i := 9) rfl rfl rfl rfl rfl (by first | omega | (simp only [List.length_set, List.length_append, List.length_cons, List.length_nil, List.length_replicate, List.length_take, List.length_drop, List.length_map]; omega))) ?_ | refine sw_eff0 rfl rfl (e_storeEl1 (i := 10) rfl rfl rfl rfl rfl (by first | omega | (simp only [List.length_set, List.length_append, List.length_cons, List.length_nil, List.length_replicate, List.length_take, List.length_drop, List.length_map]; omega))) ?_ | refine sw_eff0 rfl rfl (e_storeEl1 (i := 11) rfl rfl rfl rfl rfl (by first | omega | (simp only [List.length_set, List.length_append, List.length_cons, List.length_nil, List.length_replicate, List.length_take, List.length_drop, List.length_map]; omega))) ?_ | refine sw_eff0 rfl rfl (e_storeEl1 (i := 12) rfl rfl rfl rfl rfl (by first | omega | (simp only [List.length_set, List.length_append, List.length_cons, List.length_nil, List.length_replicate, List.length_take, List.length_drop, List.length_map]; omega))) ?_ | refine sw_eff0 rfl rfl (e_storeEl1 (i := 13) rfl rfl rfl rfl rfl (by first | omega | (simp only [List.length_set, List.length_append, List.length_cons, List.length_nil, List.length_replicate, List.length_take, List.length_drop, List.length_map]; omega))) ?_ | refine sw_eff0 rfl rfl (e_storeEl1 (i := 14) rfl rfl rfl rfl rfl (by first | omega | (simp only [List.length_set, List.length_append, List.length_cons, List.length_nil, List.length_replicate, List.length_take, List.length_drop, List.length_map]; omega))) ?_ | refine sw_eff0 rfl rfl (e_storeEl1 (i := 15) rfl rfl rfl rfl rfl (by first | omega | (simp only [List.length_set, List.length_append, List.length_cons, List.length_nil, List.length_replicate, List.length_take, List.length_drop, List.length_map]; omega))) ?_
  refine sr rfl rfl rfl ((q_assign rfl rfl)) (sw_nil (post_then (cw_seq (cw_region ?_))))
  first | refine sr rfl rfl rfl ((q_loadC rfl rfl (by first | assumption | (repeat first | exact .head _ | apply List.Mem.tail)) rfl)) ?_ | refine sr rfl rfl rfl ((q_loadA rfl rfl (by first | assumption | (repeat first | exact .head _ | apply List.Mem.tail)) rfl)) ?_ | refine sr rfl rfl rfl ((q_loadEl rfl rfl rfl (by first | exact fun w hw => Stb.cl (by assumption) hw | exact fun w hw => rd_own hw (by first | assumption | (repeat first | exact .head _ | apply List.Mem.tail)) | assumption) (by intro hc; first | omega | (simp only [List.length_set, List.length_append, List.length_cons, List.length_nil, List.length_replicate, List.length_take, List.length_drop, List.length_map]; omega) | (simp only [AllT.iff, List.all_cons, List.all_nil, id, Bool.and_eq_true, Bool.not_eq_true', decide_eq_true_eq, decide_eq_false_iff_not, and_true] at hc; first | omega | (simp only [List.length_set, List.length_append, List.length_cons, List.length_nil, List.length_replicate, List.length_take, List.length_drop, List.length_map]; omega)) | (exfalso; simp_all [AllT]; done)))) ?_ | refine sr rfl rfl rfl ((q_loadF rfl rfl rfl (by first | exact fun w hw => Stb.cl (by assumption) hw | exact fun w hw => rd_own hw (by first | assumption | (repeat first | exact .head _ | apply List.Mem.tail)) | assumption) (by intro hc; first | omega | (simp only [List.length_set, List.length_append, List.length_cons, List.length_nil, List.length_replicate, List.length_take, List.length_drop, List.length_map]; omega) | (simp only [AllT.iff, List.all_cons, List.all_nil, id, Bool.and_eq_true, Bool.not_eq_true', decide_eq_true_eq, decide_eq_false_iff_not, and_true] at hc; first | omega | (simp only [List.length_set, List.length_append, List.length_cons, List.length_nil, List.length_replicate, List.length_take, List.length_drop, List.length_map]; omega)) | (exfalso; simp_all [AllT]; done)) rfl)) ?_ | refine sr rfl rfl rfl ((q_loadS rfl rfl (fun w hw => Stb.cl (by assumption) hw) rfl)) ?_
  refine sw_x rfl rfl rfl (e_call (CanCall.mk Tryz.call37) rfl (.cons rfl inferInstance (.cons rfl inferInstance (.nil))) (fun w1 hw => say_spec ⟨bsl, exBl bk⟩ ⟨#[99, 97, 116]⟩ (by decide) w1 (stb_arg hw hT) (stb_frz (R := BkIn ⟨bsl, exBl bk⟩) hw (by first | assumption | (repeat first | exact .head _ | apply List.Mem.tail))))) (fun s33 => ?_)
  refine sw_imp fun _ => ?_
  dsimp only
  rw [ex_sayE]
  obtain ⟨sq3, hsr⟩ : ∃ sq3, sayR (exBl bk) ⟨#[99, 97, 116]⟩ = sq3 := ⟨_, rfl⟩
  have hsr1 : sq3.map (·.phone) = [⟨#[107]⟩, ⟨#[97]⟩, ⟨#[116]⟩] := by rw [← hsr]; exact ex_sayR bk
  have hsr2 : sq3.length = 3 := by rw [← hsr]; exact ex_sayL bk
  rw [hsr]
  refine sr rfl rfl rfl ((q_move rfl rfl)) ?_
  first | refine sr rfl rfl rfl ((q_extract rfl rfl rfl)) ?_ | refine sr rfl rfl rfl ((q_extract rfl rfl (nextV_0 _))) ?_ | refine sr rfl rfl rfl ((q_extract rfl rfl (nextSV_0 _ _))) ?_ | refine sr rfl rfl rfl ((q_extract rfl rfl (nextSV_1 (by assumption)))) ?_ | refine sr rfl rfl rfl ((q_extract rfl rfl (nextSV_2 (by assumption)))) ?_
  first | refine sr rfl rfl rfl ((q_extract rfl rfl rfl)) ?_ | refine sr rfl rfl rfl ((q_extract rfl rfl (nextV_0 _))) ?_ | refine sr rfl rfl rfl ((q_extract rfl rfl (nextSV_0 _ _))) ?_ | refine sr rfl rfl rfl ((q_extract rfl rfl (nextSV_1 (by assumption)))) ?_ | refine sr rfl rfl rfl ((q_extract rfl rfl (nextSV_2 (by assumption)))) ?_
  refine sr rfl rfl rfl ((q_assign rfl rfl)) (sr rfl rfl rfl ((q_assign rfl rfl)) (sw_nil (post_then (cw_seq (cw_region ?_)))))
  refine sw_x rfl rfl rfl (e_build1 (α := ByteArray) rfl rfl rfl rfl) (fun s38 => ?_)
  refine sw_x rfl rfl rfl (e_build1 (α := ByteArray) rfl rfl rfl rfl) (fun s39 => ?_)
  refine sw_x rfl rfl rfl (e_build1 (α := ByteArray) rfl rfl rfl rfl) (fun s40 => ?_)
  refine sr rfl rfl rfl ((q_build rfl (.cons rfl inferInstance (.cons rfl inferInstance (.cons rfl inferInstance (.nil)))) rfl)) ?_
  refine sw_x rfl rfl rfl (e_buildL (α := Jnt) (l := [⟨⟨none, 0, 0⟩, s38, s39, s40, [], [⟨#[97]⟩], [⟨#[122]⟩], [⟨#[97]⟩]⟩]) rfl (.cons rfl inferInstance (.nil)) rfl rfl rfl rfl) (fun s42 => ?_)
  refine sw_x rfl rfl rfl (e_buildL (α := ByteArray) (l := [⟨#[108]⟩, ⟨#[101]⟩]) rfl (.cons rfl inferInstance (.cons rfl inferInstance (.nil))) rfl rfl rfl rfl) (fun s43 => ?_)
  refine sw_x rfl rfl rfl (e_buildL (α := ByteArray) (l := [⟨#[97]⟩, ⟨#[109]⟩, ⟨#[105]⟩]) rfl (.cons rfl inferInstance (.cons rfl inferInstance (.cons rfl inferInstance (.nil)))) rfl rfl rfl rfl) (fun s44 => ?_)
  refine sw_x rfl rfl rfl (e_buildL (α := SlV) (l := [s43, s44]) rfl (.cons rfl inferInstance (.cons rfl inferInstance (.nil))) rfl rfl rfl rfl) (fun s45 => ?_)
  refine sw_x rfl rfl rfl (e_call (CanCall.mk Tryz.call46) rfl (.cons rfl inferInstance (.cons rfl inferInstance (.nil))) (fun w1 hw => join_spec s42 s45 [⟨⟨none, 0, 0⟩, s38, s39, s40, [], [⟨#[97]⟩], [⟨#[122]⟩], [⟨#[97]⟩]⟩] [[⟨#[108]⟩, ⟨#[101]⟩], [⟨#[97]⟩, ⟨#[109]⟩, ⟨#[105]⟩]] w1 (stb_own hw (by first | assumption | (repeat first | exact .head _ | apply List.Mem.tail))) (jnt_one hw (by first | assumption | (repeat first | exact .head _ | apply List.Mem.tail)) (by first | assumption | (repeat first | exact .head _ | apply List.Mem.tail)) (by first | assumption | (repeat first | exact .head _ | apply List.Mem.tail))) (rdrr_two hw (by first | assumption | (repeat first | exact .head _ | apply List.Mem.tail)) (by first | assumption | (repeat first | exact .head _ | apply List.Mem.tail)) (by first | assumption | (repeat first | exact .head _ | apply List.Mem.tail))))) (fun x46 => ?_)
  refine sw_imp fun _ => ?_
  rw [ex_joinE, ex_joinR]
  refine sr rfl rfl rfl ((q_move rfl rfl)) ?_
  first | refine sr rfl rfl rfl ((q_extract rfl rfl rfl)) ?_ | refine sr rfl rfl rfl ((q_extract rfl rfl (nextV_0 _))) ?_ | refine sr rfl rfl rfl ((q_extract rfl rfl (nextSV_0 _ _))) ?_ | refine sr rfl rfl rfl ((q_extract rfl rfl (nextSV_1 (by assumption)))) ?_ | refine sr rfl rfl rfl ((q_extract rfl rfl (nextSV_2 (by assumption)))) ?_
  first | refine sr rfl rfl rfl ((q_extract rfl rfl rfl)) ?_ | refine sr rfl rfl rfl ((q_extract rfl rfl (nextV_0 _))) ?_ | refine sr rfl rfl rfl ((q_extract rfl rfl (nextSV_0 _ _))) ?_ | refine sr rfl rfl rfl ((q_extract rfl rfl (nextSV_1 (by assumption)))) ?_ | refine sr rfl rfl rfl ((q_extract rfl rfl (nextSV_2 (by assumption)))) ?_
  refine sr rfl rfl rfl ((q_assign rfl rfl)) (sr rfl rfl rfl ((q_assign rfl rfl)) (sw_nil (post_then (cw_seq (cw_region ?_)))))
  refine sw_x rfl rfl rfl (e_build1 (α := ByteArray) rfl rfl rfl rfl) (fun s50 => ?_)
  refine sw_x rfl rfl rfl (e_buildL (α := ByteArray) (l := [⟨#[82]⟩, ⟨#[120]⟩]) rfl (.cons rfl inferInstance (.cons rfl inferInstance (.nil))) rfl rfl rfl rfl) (fun s51 => ?_)
  refine sw_x rfl rfl rfl (e_buildL (α := SlV) (l := [s50, s51]) rfl (.cons rfl inferInstance (.cons rfl inferInstance (.nil))) rfl rfl rfl rfl) (fun s52 => ?_)
  refine sr rfl rfl rfl ((q_build rfl (.cons rfl inferInstance (.cons rfl inferInstance (.nil))) rfl)) ?_
  refine sw_x rfl rfl rfl (e_buildL (α := Fgn) (l := [⟨⟨#[114]⟩, s52, [[⟨#[82]⟩], [⟨#[82]⟩, ⟨#[120]⟩]]⟩]) rfl (.cons rfl inferInstance (.nil)) rfl rfl rfl rfl) (fun s54 => ?_)
  refine sw_x rfl rfl rfl (e_buildL (α := ByteArray) (l := [⟨#[114]⟩, ⟨#[97]⟩, ⟨#[114]⟩]) rfl (.cons rfl inferInstance (.cons rfl inferInstance (.cons rfl inferInstance (.nil)))) rfl rfl rfl rfl) (fun s55 => ?_)
  refine sw_x rfl rfl rfl (e_call (CanCall.mk Tryz.call47) rfl (.cons rfl inferInstance (.cons rfl inferInstance (.cons rfl inferInstance (.nil)))) (fun w1 hw => accent_spec s54 s55 [⟨⟨#[114]⟩, s52, [[⟨#[82]⟩], [⟨#[82]⟩, ⟨#[120]⟩]]⟩] [⟨#[114]⟩, ⟨#[97]⟩, ⟨#[114]⟩] 5 w1 (stb_own hw (by first | assumption | (repeat first | exact .head _ | apply List.Mem.tail))) (fgn_one hw (by first | assumption | (repeat first | exact .head _ | apply List.Mem.tail)) (by first | assumption | (repeat first | exact .head _ | apply List.Mem.tail)) (by first | assumption | (repeat first | exact .head _ | apply List.Mem.tail))) (stb_own hw (by first | assumption | (repeat first | exact .head _ | apply List.Mem.tail))))) (fun s56 => ?_)
  refine sw_imp fun _ => ?_
  rw [ex_accE, ex_accR]
  refine sr rfl rfl rfl ((q_move rfl rfl)) ?_
  first | refine sr rfl rfl rfl ((q_extract rfl rfl rfl)) ?_ | refine sr rfl rfl rfl ((q_extract rfl rfl (nextV_0 _))) ?_ | refine sr rfl rfl rfl ((q_extract rfl rfl (nextSV_0 _ _))) ?_ | refine sr rfl rfl rfl ((q_extract rfl rfl (nextSV_1 (by assumption)))) ?_ | refine sr rfl rfl rfl ((q_extract rfl rfl (nextSV_2 (by assumption)))) ?_
  first | refine sr rfl rfl rfl ((q_extract rfl rfl rfl)) ?_ | refine sr rfl rfl rfl ((q_extract rfl rfl (nextV_0 _))) ?_ | refine sr rfl rfl rfl ((q_extract rfl rfl (nextSV_0 _ _))) ?_ | refine sr rfl rfl rfl ((q_extract rfl rfl (nextSV_1 (by assumption)))) ?_ | refine sr rfl rfl rfl ((q_extract rfl rfl (nextSV_2 (by assumption)))) ?_
  refine sr rfl rfl rfl ((q_assign rfl rfl)) (sr rfl rfl rfl ((q_assign rfl rfl)) (sw_nil (post_then (cw_seq (cw_seq (cw_region (sw_reb0 (w0 := w) (fp := []) (F := [blk b6 [bsl.v] 45, Sx.frz (BkIn ⟨bsl, exBl bk⟩), Sx.frz (RdRR x21.v ([[⟨#[101, 105]⟩], [⟨#[116]⟩], []] : List (List ByteArray))), ownL 136 s33.v sq3, Sx.frz (RdRR x46.v ([[⟨#[108]⟩, ⟨#[101]⟩, ⟨#[122]⟩], [⟨#[97]⟩, ⟨#[109]⟩, ⟨#[105]⟩]] : List (List ByteArray))), ownL 9 s56.v ([⟨#[82]⟩, ⟨#[120]⟩, ⟨#[97]⟩, ⟨#[82]⟩, ⟨#[120]⟩] : List ByteArray)]) (fun w h => Cl.sel (.take 15 rfl (.take 15 rfl (.take 15 rfl (.take 14 rfl (.take 6 rfl (.take 0 rfl (.nil _))))))) w h) fun w1 hr => ?_)))))))
  have h6 := hr.blk (b := b6) (cells := [bsl.v]) (t := 45) (by first | assumption | (repeat first | exact .head _ | apply List.Mem.tail))
  have hB := (hr.frz (R := BkIn ⟨bsl, exBl bk⟩) (by first | assumption | (repeat first | exact .head _ | apply List.Mem.tail))).here
  have hB1 := rd_stb hB.1
  have hB2 := hB.2 _ (List.Mem.head _)
  have hB3 := rd_stb hB2.1
  have hB4 := rd_stb (hB2.2 _ (List.Mem.head _)).1
  obtain ⟨v1, g1, g2⟩ := (hr.frz (R := RdRR x21.v ([[⟨#[101, 105]⟩], [⟨#[116]⟩], []] : List (List ByteArray))) (by first | assumption | (repeat first | exact .head _ | apply List.Mem.tail))).here
  have g1 := rd_stb g1
  have g2 := rdR_stb g2
  have hS := hr.own (e := 136) (sv := s33.v) (l := sq3) (by first | assumption | (repeat first | exact .head _ | apply List.Mem.tail))
  obtain ⟨v2, k1, k2⟩ := (hr.frz (R := RdRR x46.v ([[⟨#[108]⟩, ⟨#[101]⟩, ⟨#[122]⟩], [⟨#[97]⟩, ⟨#[109]⟩, ⟨#[105]⟩]] : List (List ByteArray))) (by first | assumption | (repeat first | exact .head _ | apply List.Mem.tail))).here
  have k1 := rd_stb k1
  have k2 := rdR_stb k2
  have hlb : (exBl bk).length = 4 := rfl
  have hA := hr.own (e := 9) (sv := s56.v) (l := ([⟨#[82]⟩, ⟨#[120]⟩, ⟨#[97]⟩, ⟨#[82]⟩, ⟨#[120]⟩] : List ByteArray)) (by first | assumption | (repeat first | exact .head _ | apply List.Mem.tail))
  refine sr rfl rfl rfl ((q_move rfl rfl)) (sr rfl rfl rfl ((q_neq rfl rfl rfl)) (sr rfl rfl rfl ((q_move rfl rfl)) (sr rfl rfl rfl ((q_move rfl rfl)) (sr rfl rfl rfl ((q_neq rfl rfl rfl)) (sr rfl rfl rfl ((q_or2 rfl rfl rfl)) (sr rfl rfl rfl ((q_move rfl rfl)) (sr rfl rfl rfl ((q_move rfl rfl)) (sr rfl rfl rfl ((q_neq rfl rfl rfl)) (sr rfl rfl rfl ((q_or2 rfl rfl rfl)) (sr rfl rfl rfl ((q_move rfl rfl)) (sr rfl rfl rfl ((q_move rfl rfl)) (sr rfl rfl rfl ((q_neq rfl rfl rfl)) (sr rfl rfl rfl ((q_or2 rfl rfl rfl)) (sr rfl rfl rfl ((q_move rfl rfl)) (sr rfl rfl rfl ((q_move rfl rfl)) (sr rfl rfl rfl ((q_neq rfl rfl rfl)) (sr rfl rfl rfl ((q_or2 rfl rfl rfl)) (sr rfl rfl rfl ((q_move rfl rfl)) ?_))))))))))))))))))
  first | refine sr rfl rfl rfl ((q_fieldAddr rfl rfl)) ?_ | refine sr rfl rfl rfl ((q_fieldEl rfl rfl (by first | exact fun w hw => Stb.cl (by assumption) hw | exact fun w hw => rd_own hw (by first | assumption | (repeat first | exact .head _ | apply List.Mem.tail)) | assumption) (by intro hc; first | omega | (simp only [List.length_set, List.length_append, List.length_cons, List.length_nil, List.length_replicate, List.length_take, List.length_drop, List.length_map]; omega) | (simp only [AllT.iff, List.all_cons, List.all_nil, id, Bool.and_eq_true, Bool.not_eq_true', decide_eq_true_eq, decide_eq_false_iff_not, and_true] at hc; first | omega | (simp only [List.length_set, List.length_append, List.length_cons, List.length_nil, List.length_replicate, List.length_take, List.length_drop, List.length_map]; omega)) | (exfalso; simp_all [AllT]; done)))) ?_
  first | refine sr rfl rfl rfl ((q_loadC rfl rfl (by first | assumption | (repeat first | exact .head _ | apply List.Mem.tail)) rfl)) ?_ | refine sr rfl rfl rfl ((q_loadA rfl rfl (by first | assumption | (repeat first | exact .head _ | apply List.Mem.tail)) rfl)) ?_ | refine sr rfl rfl rfl ((q_loadEl rfl rfl rfl (by first | exact fun w hw => Stb.cl (by assumption) hw | exact fun w hw => rd_own hw (by first | assumption | (repeat first | exact .head _ | apply List.Mem.tail)) | assumption) (by intro hc; first | omega | (simp only [List.length_set, List.length_append, List.length_cons, List.length_nil, List.length_replicate, List.length_take, List.length_drop, List.length_map]; omega) | (simp only [AllT.iff, List.all_cons, List.all_nil, id, Bool.and_eq_true, Bool.not_eq_true', decide_eq_true_eq, decide_eq_false_iff_not, and_true] at hc; first | omega | (simp only [List.length_set, List.length_append, List.length_cons, List.length_nil, List.length_replicate, List.length_take, List.length_drop, List.length_map]; omega)) | (exfalso; simp_all [AllT]; done)))) ?_ | refine sr rfl rfl rfl ((q_loadF rfl rfl rfl (by first | exact fun w hw => Stb.cl (by assumption) hw | exact fun w hw => rd_own hw (by first | assumption | (repeat first | exact .head _ | apply List.Mem.tail)) | assumption) (by intro hc; first | omega | (simp only [List.length_set, List.length_append, List.length_cons, List.length_nil, List.length_replicate, List.length_take, List.length_drop, List.length_map]; omega) | (simp only [AllT.iff, List.all_cons, List.all_nil, id, Bool.and_eq_true, Bool.not_eq_true', decide_eq_true_eq, decide_eq_false_iff_not, and_true] at hc; first | omega | (simp only [List.length_set, List.length_append, List.length_cons, List.length_nil, List.length_replicate, List.length_take, List.length_drop, List.length_map]; omega)) | (exfalso; simp_all [AllT]; done)) rfl)) ?_ | refine sr rfl rfl rfl ((q_loadS rfl rfl (fun w hw => Stb.cl (by assumption) hw) rfl)) ?_
  first | refine sr rfl rfl rfl ((q_len rfl (.cons rfl inferInstance (.nil)) (by first | exact fun w hw => Stb.cl (by assumption) hw | exact fun w hw => rd_own hw (by first | assumption | (repeat first | exact .head _ | apply List.Mem.tail)) | assumption))) ?_ | refine sr rfl rfl rfl ((q_lenV rfl (.cons rfl inferInstance (.nil)))) ?_
  refine sr rfl rfl rfl ((q_neq rfl rfl rfl)) (sr rfl rfl rfl ((q_or2 rfl rfl rfl)) (sr rfl rfl rfl ((q_move rfl rfl)) ?_))
  first | refine sr rfl rfl rfl ((q_fieldAddr rfl rfl)) ?_ | refine sr rfl rfl rfl ((q_fieldEl rfl rfl (by first | exact fun w hw => Stb.cl (by assumption) hw | exact fun w hw => rd_own hw (by first | assumption | (repeat first | exact .head _ | apply List.Mem.tail)) | assumption) (by intro hc; first | omega | (simp only [List.length_set, List.length_append, List.length_cons, List.length_nil, List.length_replicate, List.length_take, List.length_drop, List.length_map]; omega) | (simp only [AllT.iff, List.all_cons, List.all_nil, id, Bool.and_eq_true, Bool.not_eq_true', decide_eq_true_eq, decide_eq_false_iff_not, and_true] at hc; first | omega | (simp only [List.length_set, List.length_append, List.length_cons, List.length_nil, List.length_replicate, List.length_take, List.length_drop, List.length_map]; omega)) | (exfalso; simp_all [AllT]; done)))) ?_
  first | refine sr rfl rfl rfl ((q_loadC rfl rfl (by first | assumption | (repeat first | exact .head _ | apply List.Mem.tail)) rfl)) ?_ | refine sr rfl rfl rfl ((q_loadA rfl rfl (by first | assumption | (repeat first | exact .head _ | apply List.Mem.tail)) rfl)) ?_ | refine sr rfl rfl rfl ((q_loadEl rfl rfl rfl (by first | exact fun w hw => Stb.cl (by assumption) hw | exact fun w hw => rd_own hw (by first | assumption | (repeat first | exact .head _ | apply List.Mem.tail)) | assumption) (by intro hc; first | omega | (simp only [List.length_set, List.length_append, List.length_cons, List.length_nil, List.length_replicate, List.length_take, List.length_drop, List.length_map]; omega) | (simp only [AllT.iff, List.all_cons, List.all_nil, id, Bool.and_eq_true, Bool.not_eq_true', decide_eq_true_eq, decide_eq_false_iff_not, and_true] at hc; first | omega | (simp only [List.length_set, List.length_append, List.length_cons, List.length_nil, List.length_replicate, List.length_take, List.length_drop, List.length_map]; omega)) | (exfalso; simp_all [AllT]; done)))) ?_ | refine sr rfl rfl rfl ((q_loadF rfl rfl rfl (by first | exact fun w hw => Stb.cl (by assumption) hw | exact fun w hw => rd_own hw (by first | assumption | (repeat first | exact .head _ | apply List.Mem.tail)) | assumption) (by intro hc; first | omega | (simp only [List.length_set, List.length_append, List.length_cons, List.length_nil, List.length_replicate, List.length_take, List.length_drop, List.length_map]; omega) | (simp only [AllT.iff, List.all_cons, List.all_nil, id, Bool.and_eq_true, Bool.not_eq_true', decide_eq_true_eq, decide_eq_false_iff_not, and_true] at hc; first | omega | (simp only [List.length_set, List.length_append, List.length_cons, List.length_nil, List.length_replicate, List.length_take, List.length_drop, List.length_map]; omega)) | (exfalso; simp_all [AllT]; done)) rfl)) ?_ | refine sr rfl rfl rfl ((q_loadS rfl rfl (fun w hw => Stb.cl (by assumption) hw) rfl)) ?_
  first | refine sr rfl rfl rfl ((q_indexN rfl rfl rfl (by first | exact fun w hw => Stb.cl (by assumption) hw | exact fun w hw => rd_own hw (by first | assumption | (repeat first | exact .head _ | apply List.Mem.tail)) | assumption) (by intro hc; first | omega | (simp only [List.length_set, List.length_append, List.length_cons, List.length_nil, List.length_replicate, List.length_take, List.length_drop, List.length_map]; omega) | (simp only [AllT.iff, List.all_cons, List.all_nil, id, Bool.and_eq_true, Bool.not_eq_true', decide_eq_true_eq, decide_eq_false_iff_not, and_true] at hc; first | omega | (simp only [List.length_set, List.length_append, List.length_cons, List.length_nil, List.length_replicate, List.length_take, List.length_drop, List.length_map]; omega)) | (exfalso; simp_all [AllT]; done)))) ?_ | refine sr rfl rfl rfl ((q_index rfl rfl rfl (by first | exact fun w hw => Stb.cl (by assumption) hw | exact fun w hw => rd_own hw (by first | assumption | (repeat first | exact .head _ | apply List.Mem.tail)) | assumption) (by intro hc; first | omega | (simp only [List.length_set, List.length_append, List.length_cons, List.length_nil, List.length_replicate, List.length_take, List.length_drop, List.length_map]; omega) | (simp only [AllT.iff, List.all_cons, List.all_nil, id, Bool.and_eq_true, Bool.not_eq_true', decide_eq_true_eq, decide_eq_false_iff_not, and_true] at hc; first | omega | (simp only [List.length_set, List.length_append, List.length_cons, List.length_nil, List.length_replicate, List.length_take, List.length_drop, List.length_map]; omega)) | (exfalso; simp_all [AllT]; done)))) ?_
  first | refine sr rfl rfl rfl ((q_fieldAddr rfl rfl)) ?_ | refine sr rfl rfl rfl ((q_fieldEl rfl rfl (by first | exact fun w hw => Stb.cl (by assumption) hw | exact fun w hw => rd_own hw (by first | assumption | (repeat first | exact .head _ | apply List.Mem.tail)) | assumption) (by intro hc; first | omega | (simp only [List.length_set, List.length_append, List.length_cons, List.length_nil, List.length_replicate, List.length_take, List.length_drop, List.length_map]; omega) | (simp only [AllT.iff, List.all_cons, List.all_nil, id, Bool.and_eq_true, Bool.not_eq_true', decide_eq_true_eq, decide_eq_false_iff_not, and_true] at hc; first | omega | (simp only [List.length_set, List.length_append, List.length_cons, List.length_nil, List.length_replicate, List.length_take, List.length_drop, List.length_map]; omega)) | (exfalso; simp_all [AllT]; done)))) ?_
  first | refine sr rfl rfl rfl ((q_loadC rfl rfl (by first | assumption | (repeat first | exact .head _ | apply List.Mem.tail)) rfl)) ?_ | refine sr rfl rfl rfl ((q_loadA rfl rfl (by first | assumption | (repeat first | exact .head _ | apply List.Mem.tail)) rfl)) ?_ | refine sr rfl rfl rfl ((q_loadEl rfl rfl rfl (by first | exact fun w hw => Stb.cl (by assumption) hw | exact fun w hw => rd_own hw (by first | assumption | (repeat first | exact .head _ | apply List.Mem.tail)) | assumption) (by intro hc; first | omega | (simp only [List.length_set, List.length_append, List.length_cons, List.length_nil, List.length_replicate, List.length_take, List.length_drop, List.length_map]; omega) | (simp only [AllT.iff, List.all_cons, List.all_nil, id, Bool.and_eq_true, Bool.not_eq_true', decide_eq_true_eq, decide_eq_false_iff_not, and_true] at hc; first | omega | (simp only [List.length_set, List.length_append, List.length_cons, List.length_nil, List.length_replicate, List.length_take, List.length_drop, List.length_map]; omega)) | (exfalso; simp_all [AllT]; done)))) ?_ | refine sr rfl rfl rfl ((q_loadF rfl rfl rfl (by first | exact fun w hw => Stb.cl (by assumption) hw | exact fun w hw => rd_own hw (by first | assumption | (repeat first | exact .head _ | apply List.Mem.tail)) | assumption) (by intro hc; first | omega | (simp only [List.length_set, List.length_append, List.length_cons, List.length_nil, List.length_replicate, List.length_take, List.length_drop, List.length_map]; omega) | (simp only [AllT.iff, List.all_cons, List.all_nil, id, Bool.and_eq_true, Bool.not_eq_true', decide_eq_true_eq, decide_eq_false_iff_not, and_true] at hc; first | omega | (simp only [List.length_set, List.length_append, List.length_cons, List.length_nil, List.length_replicate, List.length_take, List.length_drop, List.length_map]; omega)) | (exfalso; simp_all [AllT]; done)) rfl)) ?_ | refine sr rfl rfl rfl ((q_loadS rfl rfl (fun w hw => Stb.cl (by assumption) hw) rfl)) ?_
  first | refine sr rfl rfl rfl ((q_len rfl (.cons rfl inferInstance (.nil)) (by first | exact fun w hw => Stb.cl (by assumption) hw | exact fun w hw => rd_own hw (by first | assumption | (repeat first | exact .head _ | apply List.Mem.tail)) | assumption))) ?_ | refine sr rfl rfl rfl ((q_lenV rfl (.cons rfl inferInstance (.nil)))) ?_
  refine sr rfl rfl rfl ((q_neq rfl rfl rfl)) (sr rfl rfl rfl ((q_or2 rfl rfl rfl)) (sw_nil (post_then ?_)))
  refine cw_cond rfl (fun hc => ?_) (fun hc => ?_)
  · skip
    exfalso
    simp [exBl] at hc
  · skip
    refine cw_skip (post_then (cw_seq (cw_region (sr rfl rfl rfl ((q_move rfl rfl)) (sr rfl rfl rfl ((q_eql rfl rfl rfl)) (sr rfl rfl rfl ((q_move rfl rfl)) (sr rfl rfl rfl ((q_move rfl rfl)) ?_)))))))
    refine sw_xc rfl (by first | (simp [AllT]; done) | simp [AllT, *]) rfl rfl ((fun _ => e_buildL (α := ByteArray) (l := [⟨#[101, 105]⟩]) rfl (.cons rfl inferInstance (.nil)) rfl rfl rfl rfl)) (fun s96 => ?_)
    refine sw_xc rfl (by first | (simp [AllT]; done) | simp [AllT, *]) rfl rfl ((fun _ => e_buildL (α := ByteArray) (l := [⟨#[116]⟩]) rfl (.cons rfl inferInstance (.nil)) rfl rfl rfl rfl)) (fun s97 => ?_)
    refine sw_xc rfl (by first | (simp [AllT]; done) | simp [AllT, *]) rfl rfl ((fun _ => e_buildL (α := SlV) (l := [s96, s97, ⟨none, 0, 0⟩]) rfl (.cons rfl inferInstance (.cons rfl inferInstance (.cons rfl inferInstance (.nil)))) rfl rfl rfl rfl)) (fun s98 => ?_)
    refine sw_step rfl rfl rfl (q_call (CanCall.mk Tryz.call25) rfl (.cons rfl inferInstance (.cons rfl inferInstance (.nil))) (fun _ w2 hw => callq hw (samePieces_spec _ _ v1 [s96, s97, ⟨none, 0, 0⟩] ([[⟨#[101, 105]⟩], [⟨#[116]⟩], []] : List (List ByteArray)) ([[⟨#[101, 105]⟩], [⟨#[116]⟩], []] : List (List ByteArray)) w2 (stb_arg hw g1) (stb_own hw (by first | assumption | (repeat first | exact .head _ | apply List.Mem.tail))) (stb_arg hw g2) (rdr_three hw (by first | assumption | (repeat first | exact .head _ | apply List.Mem.tail)) (by first | assumption | (repeat first | exact .head _ | apply List.Mem.tail)))))) ?_
    refine sr rfl rfl rfl ((q_and2 rfl rfl rfl)) (sr rfl rfl rfl ((q_move rfl rfl)) ?_)
    first | refine sr rfl rfl rfl ((q_fieldAddr rfl rfl)) ?_ | refine sr rfl rfl rfl ((q_fieldEl rfl rfl (by first | exact fun w hw => Stb.cl (by assumption) hw | exact fun w hw => rd_own hw (by first | assumption | (repeat first | exact .head _ | apply List.Mem.tail)) | assumption) (by intro hc; first | omega | (simp only [List.length_set, List.length_append, List.length_cons, List.length_nil, List.length_replicate, List.length_take, List.length_drop, List.length_map]; omega) | (simp only [AllT.iff, List.all_cons, List.all_nil, id, Bool.and_eq_true, Bool.not_eq_true', decide_eq_true_eq, decide_eq_false_iff_not, and_true] at hc; first | omega | (simp only [List.length_set, List.length_append, List.length_cons, List.length_nil, List.length_replicate, List.length_take, List.length_drop, List.length_map]; omega)) | (exfalso; simp_all [AllT]; done)))) ?_
    first | refine sr rfl rfl rfl ((q_loadC rfl rfl (by first | assumption | (repeat first | exact .head _ | apply List.Mem.tail)) rfl)) ?_ | refine sr rfl rfl rfl ((q_loadA rfl rfl (by first | assumption | (repeat first | exact .head _ | apply List.Mem.tail)) rfl)) ?_ | refine sr rfl rfl rfl ((q_loadEl rfl rfl rfl (by first | exact fun w hw => Stb.cl (by assumption) hw | exact fun w hw => rd_own hw (by first | assumption | (repeat first | exact .head _ | apply List.Mem.tail)) | assumption) (by intro hc; first | omega | (simp only [List.length_set, List.length_append, List.length_cons, List.length_nil, List.length_replicate, List.length_take, List.length_drop, List.length_map]; omega) | (simp only [AllT.iff, List.all_cons, List.all_nil, id, Bool.and_eq_true, Bool.not_eq_true', decide_eq_true_eq, decide_eq_false_iff_not, and_true] at hc; first | omega | (simp only [List.length_set, List.length_append, List.length_cons, List.length_nil, List.length_replicate, List.length_take, List.length_drop, List.length_map]; omega)) | (exfalso; simp_all [AllT]; done)))) ?_ | refine sr rfl rfl rfl ((q_loadF rfl rfl rfl (by first | exact fun w hw => Stb.cl (by assumption) hw | exact fun w hw => rd_own hw (by first | assumption | (repeat first | exact .head _ | apply List.Mem.tail)) | assumption) (by intro hc; first | omega | (simp only [List.length_set, List.length_append, List.length_cons, List.length_nil, List.length_replicate, List.length_take, List.length_drop, List.length_map]; omega) | (simp only [AllT.iff, List.all_cons, List.all_nil, id, Bool.and_eq_true, Bool.not_eq_true', decide_eq_true_eq, decide_eq_false_iff_not, and_true] at hc; first | omega | (simp only [List.length_set, List.length_append, List.length_cons, List.length_nil, List.length_replicate, List.length_take, List.length_drop, List.length_map]; omega)) | (exfalso; simp_all [AllT]; done)) rfl)) ?_ | refine sr rfl rfl rfl ((q_loadS rfl rfl (fun w hw => Stb.cl (by assumption) hw) rfl)) ?_
    first | refine sr rfl rfl rfl ((q_indexN rfl rfl rfl (by first | exact fun w hw => Stb.cl (by assumption) hw | exact fun w hw => rd_own hw (by first | assumption | (repeat first | exact .head _ | apply List.Mem.tail)) | assumption) (by intro hc; first | omega | (simp only [List.length_set, List.length_append, List.length_cons, List.length_nil, List.length_replicate, List.length_take, List.length_drop, List.length_map]; omega) | (simp only [AllT.iff, List.all_cons, List.all_nil, id, Bool.and_eq_true, Bool.not_eq_true', decide_eq_true_eq, decide_eq_false_iff_not, and_true] at hc; first | omega | (simp only [List.length_set, List.length_append, List.length_cons, List.length_nil, List.length_replicate, List.length_take, List.length_drop, List.length_map]; omega)) | (exfalso; simp_all [AllT]; done)))) ?_ | refine sr rfl rfl rfl ((q_index rfl rfl rfl (by first | exact fun w hw => Stb.cl (by assumption) hw | exact fun w hw => rd_own hw (by first | assumption | (repeat first | exact .head _ | apply List.Mem.tail)) | assumption) (by intro hc; first | omega | (simp only [List.length_set, List.length_append, List.length_cons, List.length_nil, List.length_replicate, List.length_take, List.length_drop, List.length_map]; omega) | (simp only [AllT.iff, List.all_cons, List.all_nil, id, Bool.and_eq_true, Bool.not_eq_true', decide_eq_true_eq, decide_eq_false_iff_not, and_true] at hc; first | omega | (simp only [List.length_set, List.length_append, List.length_cons, List.length_nil, List.length_replicate, List.length_take, List.length_drop, List.length_map]; omega)) | (exfalso; simp_all [AllT]; done)))) ?_
    first | refine sr rfl rfl rfl ((q_fieldAddr rfl rfl)) ?_ | refine sr rfl rfl rfl ((q_fieldEl rfl rfl (by first | exact fun w hw => Stb.cl (by assumption) hw | exact fun w hw => rd_own hw (by first | assumption | (repeat first | exact .head _ | apply List.Mem.tail)) | assumption) (by intro hc; first | omega | (simp only [List.length_set, List.length_append, List.length_cons, List.length_nil, List.length_replicate, List.length_take, List.length_drop, List.length_map]; omega) | (simp only [AllT.iff, List.all_cons, List.all_nil, id, Bool.and_eq_true, Bool.not_eq_true', decide_eq_true_eq, decide_eq_false_iff_not, and_true] at hc; first | omega | (simp only [List.length_set, List.length_append, List.length_cons, List.length_nil, List.length_replicate, List.length_take, List.length_drop, List.length_map]; omega)) | (exfalso; simp_all [AllT]; done)))) ?_
    first | refine sr rfl rfl rfl ((q_loadC rfl rfl (by first | assumption | (repeat first | exact .head _ | apply List.Mem.tail)) rfl)) ?_ | refine sr rfl rfl rfl ((q_loadA rfl rfl (by first | assumption | (repeat first | exact .head _ | apply List.Mem.tail)) rfl)) ?_ | refine sr rfl rfl rfl ((q_loadEl rfl rfl rfl (by first | exact fun w hw => Stb.cl (by assumption) hw | exact fun w hw => rd_own hw (by first | assumption | (repeat first | exact .head _ | apply List.Mem.tail)) | assumption) (by intro hc; first | omega | (simp only [List.length_set, List.length_append, List.length_cons, List.length_nil, List.length_replicate, List.length_take, List.length_drop, List.length_map]; omega) | (simp only [AllT.iff, List.all_cons, List.all_nil, id, Bool.and_eq_true, Bool.not_eq_true', decide_eq_true_eq, decide_eq_false_iff_not, and_true] at hc; first | omega | (simp only [List.length_set, List.length_append, List.length_cons, List.length_nil, List.length_replicate, List.length_take, List.length_drop, List.length_map]; omega)) | (exfalso; simp_all [AllT]; done)))) ?_ | refine sr rfl rfl rfl ((q_loadF rfl rfl rfl (by first | exact fun w hw => Stb.cl (by assumption) hw | exact fun w hw => rd_own hw (by first | assumption | (repeat first | exact .head _ | apply List.Mem.tail)) | assumption) (by intro hc; first | omega | (simp only [List.length_set, List.length_append, List.length_cons, List.length_nil, List.length_replicate, List.length_take, List.length_drop, List.length_map]; omega) | (simp only [AllT.iff, List.all_cons, List.all_nil, id, Bool.and_eq_true, Bool.not_eq_true', decide_eq_true_eq, decide_eq_false_iff_not, and_true] at hc; first | omega | (simp only [List.length_set, List.length_append, List.length_cons, List.length_nil, List.length_replicate, List.length_take, List.length_drop, List.length_map]; omega)) | (exfalso; simp_all [AllT]; done)) rfl)) ?_ | refine sr rfl rfl rfl ((q_loadS rfl rfl (fun w hw => Stb.cl (by assumption) hw) rfl)) ?_
    first | refine sr rfl rfl rfl ((q_indexN rfl rfl rfl (by first | exact fun w hw => Stb.cl (by assumption) hw | exact fun w hw => rd_own hw (by first | assumption | (repeat first | exact .head _ | apply List.Mem.tail)) | assumption) (by intro hc; first | omega | (simp only [List.length_set, List.length_append, List.length_cons, List.length_nil, List.length_replicate, List.length_take, List.length_drop, List.length_map]; omega) | (simp only [AllT.iff, List.all_cons, List.all_nil, id, Bool.and_eq_true, Bool.not_eq_true', decide_eq_true_eq, decide_eq_false_iff_not, and_true] at hc; first | omega | (simp only [List.length_set, List.length_append, List.length_cons, List.length_nil, List.length_replicate, List.length_take, List.length_drop, List.length_map]; omega)) | (exfalso; simp_all [AllT]; done)))) ?_ | refine sr rfl rfl rfl ((q_index rfl rfl rfl (by first | exact fun w hw => Stb.cl (by assumption) hw | exact fun w hw => rd_own hw (by first | assumption | (repeat first | exact .head _ | apply List.Mem.tail)) | assumption) (by intro hc; first | omega | (simp only [List.length_set, List.length_append, List.length_cons, List.length_nil, List.length_replicate, List.length_take, List.length_drop, List.length_map]; omega) | (simp only [AllT.iff, List.all_cons, List.all_nil, id, Bool.and_eq_true, Bool.not_eq_true', decide_eq_true_eq, decide_eq_false_iff_not, and_true] at hc; first | omega | (simp only [List.length_set, List.length_append, List.length_cons, List.length_nil, List.length_replicate, List.length_take, List.length_drop, List.length_map]; omega)) | (exfalso; simp_all [AllT]; done)))) ?_
    first | refine sr rfl rfl rfl ((q_fieldAddr rfl rfl)) ?_ | refine sr rfl rfl rfl ((q_fieldEl rfl rfl (by first | exact fun w hw => Stb.cl (by assumption) hw | exact fun w hw => rd_own hw (by first | assumption | (repeat first | exact .head _ | apply List.Mem.tail)) | assumption) (by intro hc; first | omega | (simp only [List.length_set, List.length_append, List.length_cons, List.length_nil, List.length_replicate, List.length_take, List.length_drop, List.length_map]; omega) | (simp only [AllT.iff, List.all_cons, List.all_nil, id, Bool.and_eq_true, Bool.not_eq_true', decide_eq_true_eq, decide_eq_false_iff_not, and_true] at hc; first | omega | (simp only [List.length_set, List.length_append, List.length_cons, List.length_nil, List.length_replicate, List.length_take, List.length_drop, List.length_map]; omega)) | (exfalso; simp_all [AllT]; done)))) ?_
    first | refine sr rfl rfl rfl ((q_loadC rfl rfl (by first | assumption | (repeat first | exact .head _ | apply List.Mem.tail)) rfl)) ?_ | refine sr rfl rfl rfl ((q_loadA rfl rfl (by first | assumption | (repeat first | exact .head _ | apply List.Mem.tail)) rfl)) ?_ | refine sr rfl rfl rfl ((q_loadEl rfl rfl rfl (by first | exact fun w hw => Stb.cl (by assumption) hw | exact fun w hw => rd_own hw (by first | assumption | (repeat first | exact .head _ | apply List.Mem.tail)) | assumption) (by intro hc; first | omega | (simp only [List.length_set, List.length_append, List.length_cons, List.length_nil, List.length_replicate, List.length_take, List.length_drop, List.length_map]; omega) | (simp only [AllT.iff, List.all_cons, List.all_nil, id, Bool.and_eq_true, Bool.not_eq_true', decide_eq_true_eq, decide_eq_false_iff_not, and_true] at hc; first | omega | (simp only [List.length_set, List.length_append, List.length_cons, List.length_nil, List.length_replicate, List.length_take, List.length_drop, List.length_map]; omega)) | (exfalso; simp_all [AllT]; done)))) ?_ | refine sr rfl rfl rfl ((q_loadF rfl rfl rfl (by first | exact fun w hw => Stb.cl (by assumption) hw | exact fun w hw => rd_own hw (by first | assumption | (repeat first | exact .head _ | apply List.Mem.tail)) | assumption) (by intro hc; first | omega | (simp only [List.length_set, List.length_append, List.length_cons, List.length_nil, List.length_replicate, List.length_take, List.length_drop, List.length_map]; omega) | (simp only [AllT.iff, List.all_cons, List.all_nil, id, Bool.and_eq_true, Bool.not_eq_true', decide_eq_true_eq, decide_eq_false_iff_not, and_true] at hc; first | omega | (simp only [List.length_set, List.length_append, List.length_cons, List.length_nil, List.length_replicate, List.length_take, List.length_drop, List.length_map]; omega)) | (exfalso; simp_all [AllT]; done)) rfl)) ?_ | refine sr rfl rfl rfl ((q_loadS rfl rfl (fun w hw => Stb.cl (by assumption) hw) rfl)) ?_
    refine sr rfl rfl rfl ((q_build rfl (.cons rfl inferInstance (.nil)) rfl)) ?_
    refine sw_ung (by first | (simp [AllT]; done) | simp [AllT, *]) ?_
    refine sw_xc rfl (by first | (simp [AllT]; done) | simp [AllT, *]) rfl rfl ((fun _ => e_buildL (α := Cond) (l := [⟨-1, 0⟩]) rfl (.cons rfl inferInstance (.nil)) rfl rfl rfl rfl)) (fun s111 => ?_)
    refine sw_step rfl rfl rfl (q_call (CanCall.mk Tryz.call60) rfl (.cons rfl inferInstance (.cons rfl inferInstance (.nil))) (fun _ w2 hw => callq hw (sameTests_spec _ _ [⟨-1, 0⟩] [⟨-1, 0⟩] w2 (stb_arg hw hB4) (stb_own hw (by first | assumption | (repeat first | exact .head _ | apply List.Mem.tail)))))) ?_
    refine sr rfl rfl rfl ((q_and2 rfl rfl rfl)) (sr rfl rfl rfl ((q_move rfl rfl)) (sr rfl rfl rfl ((q_move rfl rfl)) ?_))
    refine sw_xc rfl (by first | (simp [AllT]; done) | simp [AllT, *]) rfl rfl (e_callc (CanCall.mk Tryz.call39) rfl (.cons rfl inferInstance (.nil)) (fun w2 hw => said39_spec _ sq3 (by omega) w2 (stb_arg hw hS))) (fun s116 => ?_)
    refine sw_imp fun _ => ?_
    rw [hsr1]
    refine sw_xc rfl (by first | (simp [AllT]; done) | simp [AllT, *]) rfl rfl ((fun _ => e_buildL (α := ByteArray) (l := [⟨#[107]⟩, ⟨#[97]⟩, ⟨#[116]⟩]) rfl (.cons rfl inferInstance (.cons rfl inferInstance (.cons rfl inferInstance (.nil)))) rfl rfl rfl rfl)) (fun s117 => ?_)
    refine sw_step rfl rfl rfl (q_call (CanCall.mk Tryz.call38) rfl (.cons rfl inferInstance (.cons rfl inferInstance (.nil))) (fun _ w2 hw => callq hw (order_spec _ _ [⟨#[107]⟩, ⟨#[97]⟩, ⟨#[116]⟩] [⟨#[107]⟩, ⟨#[97]⟩, ⟨#[116]⟩] w2 (stb_own hw (by first | assumption | (repeat first | exact .head _ | apply List.Mem.tail))) (stb_own hw (by first | assumption | (repeat first | exact .head _ | apply List.Mem.tail)))))) ?_
    rw [ord_self]
    refine sr rfl rfl rfl ((q_eql rfl rfl rfl)) (sr rfl rfl rfl ((q_and2 rfl rfl rfl)) (sr rfl rfl rfl ((q_move rfl rfl)) (sr rfl rfl rfl ((q_move rfl rfl)) ?_)))
    refine sw_xc rfl (by first | (simp [AllT]; done) | simp [AllT, *]) rfl rfl ((fun _ => e_buildL (α := ByteArray) (l := [⟨#[108]⟩, ⟨#[101]⟩, ⟨#[122]⟩]) rfl (.cons rfl inferInstance (.cons rfl inferInstance (.cons rfl inferInstance (.nil)))) rfl rfl rfl rfl)) (fun s123 => ?_)
    refine sw_xc rfl (by first | (simp [AllT]; done) | simp [AllT, *]) rfl rfl ((fun _ => e_buildL (α := ByteArray) (l := [⟨#[97]⟩, ⟨#[109]⟩, ⟨#[105]⟩]) rfl (.cons rfl inferInstance (.cons rfl inferInstance (.cons rfl inferInstance (.nil)))) rfl rfl rfl rfl)) (fun s124 => ?_)
    refine sw_xc rfl (by first | (simp [AllT]; done) | simp [AllT, *]) rfl rfl ((fun _ => e_buildL (α := SlV) (l := [s123, s124]) rfl (.cons rfl inferInstance (.cons rfl inferInstance (.nil))) rfl rfl rfl rfl)) (fun s125 => ?_)
    refine sw_step rfl rfl rfl (q_call (CanCall.mk Tryz.call25) rfl (.cons rfl inferInstance (.cons rfl inferInstance (.nil))) (fun _ w2 hw => callq hw (samePieces_spec _ _ v2 [s123, s124] ([[⟨#[108]⟩, ⟨#[101]⟩, ⟨#[122]⟩], [⟨#[97]⟩, ⟨#[109]⟩, ⟨#[105]⟩]] : List (List ByteArray)) ([[⟨#[108]⟩, ⟨#[101]⟩, ⟨#[122]⟩], [⟨#[97]⟩, ⟨#[109]⟩, ⟨#[105]⟩]] : List (List ByteArray)) w2 (stb_arg hw k1) (stb_own hw (by first | assumption | (repeat first | exact .head _ | apply List.Mem.tail))) (stb_arg hw k2) (rdr_two hw (by first | assumption | (repeat first | exact .head _ | apply List.Mem.tail)) (by first | assumption | (repeat first | exact .head _ | apply List.Mem.tail)))))) ?_
    refine sr rfl rfl rfl ((q_and2 rfl rfl rfl)) (sr rfl rfl rfl ((q_move rfl rfl)) (sr rfl rfl rfl ((q_move rfl rfl)) ?_))
    refine sw_xc rfl (by first | (simp [AllT]; done) | simp [AllT, *]) rfl rfl ((fun _ => e_buildL (α := ByteArray) (l := [⟨#[82]⟩, ⟨#[120]⟩, ⟨#[97]⟩, ⟨#[82]⟩, ⟨#[120]⟩]) rfl (.cons rfl inferInstance (.cons rfl inferInstance (.cons rfl inferInstance (.cons rfl inferInstance (.cons rfl inferInstance (.nil)))))) rfl rfl rfl rfl)) (fun s130 => ?_)
    refine sw_step rfl rfl rfl (q_call (CanCall.mk Tryz.call38) rfl (.cons rfl inferInstance (.cons rfl inferInstance (.nil))) (fun _ w2 hw => callq hw (order_spec _ _ [⟨#[82]⟩, ⟨#[120]⟩, ⟨#[97]⟩, ⟨#[82]⟩, ⟨#[120]⟩] [⟨#[82]⟩, ⟨#[120]⟩, ⟨#[97]⟩, ⟨#[82]⟩, ⟨#[120]⟩] w2 (stb_arg hw hA) (stb_own hw (by first | assumption | (repeat first | exact .head _ | apply List.Mem.tail)))))) ?_
    rw [ord_self]
    refine sr rfl rfl rfl ((q_eql rfl rfl rfl)) (sr rfl rfl rfl ((q_and2 rfl rfl rfl)) (sr rfl rfl rfl ((q_assign rfl rfl)) (sw_nil (post_then (cw_ret (post_ret1 rfl (resOk_tmp rfl) ?_))))))
    exact fun w' hw => ⟨by simp, Cl.sel (.nil _) _ (hr.cl hw)⟩
end Go.Proofs.YtkmbliojafefdaaGreatDoor

set_option autoImplicit false
set_option maxRecDepth 100000
namespace Go.Proofs.YtkmbliojafefdaaGreatDoor
open Go.Sx
open Enc (enc val)
theorem says_spec (b : Bk) (s : ByteArray) (hs : s.size ≤ 9223372036854775807) (w : World) (hT : Stb w [] Tab) (hb : Stb w [] (BkIn b)) :
    Calls Tryz.prog 8 #[val b, .string s] w fun e w' => e = .returned (.bool true) ∧ Cl w [] [] w' := by
  refine calls_cw (vs := [_, _]) Tryz.func8 rfl Tryz.ntmps8 rfl (Cl.start0 w) (cw_seq (cw_region ?_))
  refine sw_x rfl rfl rfl (e_box rfl rfl rfl) (fun b2 => ?_)
  refine sr rfl rfl rfl ((q_assign rfl rfl)) (sw_nil (post_then (cw_seq (cw_seq (cw_region ?_)))))
  refine sr rfl rfl rfl ((q_loadA rfl rfl (by exact .head _) rfl)) ?_
  refine sw_step rfl rfl rfl (q_call (CanCall.mk Tryz.call40) rfl (.cons rfl inferInstance (.nil)) (fun _ w hw => callq hw (lawBook_spec b w (stb_arg hw hb)))) (sr rfl rfl rfl ((q_not rfl rfl)) (sr rfl rfl rfl ((q_move rfl rfl)) (sr rfl rfl rfl ((q_move rfl rfl)) (sr rfl rfl rfl ((q_lenS rfl (.cons rfl inferInstance (.nil)) Tryz.underlying9)) (sr rfl rfl rfl ((q_gtr rfl rfl rfl)) (sr rfl rfl rfl ((q_or2 rfl rfl rfl)) (sw_nil (post_then ?_))))))))
  refine cw_cond rfl (fun h => ?_) (fun h => ?_)
  · skip
    refine cw_seq (cw_region ?_)
    refine sw_step rfl rfl rfl (q_call (CanCall.mk Tryz.call19) rfl (.nil) (fun _ w hw => callq hw (known_spec w (stb_arg hw (by assumption))))) ?_
    refine sr rfl rfl rfl ((q_assign rfl rfl)) (sw_nil (post_then (cw_ret (post_then_r (post_ret1 rfl (resOk_tmp rfl) ?_)))))
    exact fun w' hw => ⟨rfl, (fun w h => Cl.sel (by exact .nil _) w h) _ hw⟩
  · skip
    have h1 : lawBk b.bl = true ∧ s.size ≤ 200 := by
      simp at h; exact ⟨h.1, by omega⟩
    obtain ⟨hlb, hs2⟩ := h1
    have hz : ∀ L ∈ b.bl, ∀ r ∈ L.rl, ∀ p ∈ r.pl, p.size ≤ 9223372036854775807 := fun L hL r hr p hp => by have := lawBk_small hlb L hL r hr p hp; omega
    refine cw_skip (post_then (cw_seq (cw_region ?_)))
    refine sr rfl rfl rfl ((q_loadA rfl rfl (by exact .head _) rfl)) ?_
    refine sr rfl rfl rfl ((q_move rfl rfl)) ?_
    refine sw_x rfl rfl rfl (e_call (CanCall.mk Tryz.call37) rfl (.cons rfl inferInstance (.cons rfl inferInstance (.nil))) (fun w1 hw => say_spec b s (by omega) w1 (stb_arg hw hT) (stb_arg hw hb))) (fun s21 => ?_)
    refine sw_imp fun _ => (sr rfl rfl rfl ((q_move rfl rfl)) (sr rfl rfl rfl ((q_extract rfl rfl rfl)) (sr rfl rfl rfl ((q_extract rfl rfl rfl)) (sr rfl rfl rfl ((q_assign rfl rfl)) (sr rfl rfl rfl ((q_assign rfl rfl)) (sw_nil (post_then (cw_seq (cw_region (sr rfl rfl rfl ((q_move rfl rfl)) ?_))))))))))
    refine sw_x rfl rfl rfl (e_call (CanCall.mk Tryz.call21) rfl (.cons rfl inferInstance (.nil)) (fun w1 hw => refLetters_spec s w1 (by omega) (stb_arg hw hT))) (fun s26 => ?_)
    refine sw_imp fun _ => (sr rfl rfl rfl ((q_move rfl rfl)) (sr rfl rfl rfl ((q_extract rfl rfl rfl)) (sr rfl rfl rfl ((q_extract rfl rfl rfl)) (sr rfl rfl rfl ((q_assign rfl rfl)) (sr rfl rfl rfl ((q_assign rfl rfl)) (sw_nil (post_then (cw_seq (cw_seq (cw_region ?_))))))))))
    refine sr rfl rfl rfl ((q_loadA rfl rfl (by exact .tail _ (.tail _ (.head _))) rfl)) ?_
    refine sw_step rfl rfl rfl (q_call (CanCall.mk Tryz.call41) rfl (.cons rfl inferInstance (.nil)) (fun _ w hw => callq hw (refBook_spec b hz w (stb_arg hw hb)))) (sr rfl rfl rfl ((q_not rfl rfl)) (sr rfl rfl rfl ((q_move rfl rfl)) (sr rfl rfl rfl ((q_move rfl rfl)) (sr rfl rfl rfl ((q_not rfl rfl)) (sr rfl rfl rfl ((q_or2 rfl rfl rfl)) (sw_nil (post_then ?_)))))))
    refine cw_cond rfl (fun h2 => ?_) (fun h2 => ?_)
    · skip
      have h3 : (bookOk b.bl && wordOk s) = false := by
        cases h4 : bookOk b.bl <;> cases h5 : wordOk s <;> simp [h4, h5] at h2 ⊢
      have e1 : sayE b.bl s = 2 := by unfold sayE; rw [h3]; rfl
      have e2 : sayR b.bl s = [] := by unfold sayR; rw [h3]; rfl
      rw [e1, e2]
      refine cw_seq (cw_region (sr rfl rfl rfl ((q_move rfl rfl)) (sr rfl rfl rfl ((q_eql rfl rfl rfl)) (sr rfl rfl rfl ((q_move rfl rfl)) (sr rfl rfl rfl ((q_move rfl rfl)) ?_)))))
      refine sr rfl rfl rfl ((q_len rfl (.cons rfl inferInstance (.nil)) (by exact fun w hw => rd_own hw (by exact .tail _ (.head _))))) ?_
      refine sr rfl rfl rfl ((q_eql rfl rfl rfl)) (sr rfl rfl rfl ((q_and2 rfl rfl rfl)) (sr rfl rfl rfl ((q_move rfl rfl)) ?_))
      refine sw_step rfl rfl rfl (q_call (CanCall.mk Tryz.call19) rfl (.nil) (fun _ w hw => callq hw (known_spec w (stb_arg hw (by assumption))))) ?_
      refine sr rfl rfl rfl ((q_and2 rfl rfl rfl)) (sr rfl rfl rfl ((q_assign rfl rfl)) (sw_nil (post_then (cw_ret (post_then_r (post_ret1 rfl (resOk_tmp rfl) ?_))))))
      exact fun w' hw => ⟨rfl, (fun w h => Cl.sel (by exact .nil _) w h) _ hw⟩
    · skip
      have h3 : bookOk b.bl = true ∧ wordOk s = true := by
        cases h4 : bookOk b.bl <;> cases h5 : wordOk s <;> simp [h4, h5] at h2 ⊢
      have e1 : sayE b.bl s = 0 := by unfold sayE; rw [h3.1, h3.2]; rfl
      have e2 : sayR b.bl s = sayC b.bl (runes s) := by unfold sayR; rw [h3.1, h3.2]; rfl
      have e3 := lettersR_ok h3.2
      have hg := good_of h3.1
      have hrl : (runes s).length ≤ 40 := by have := h3.2; simp [wordOk] at this; omega
      rw [e1, e2, e3]
      refine cw_skip (post_then (cw_seq (cw_region (sr rfl rfl rfl ((q_move rfl rfl)) (sr rfl rfl rfl ((q_eql rfl rfl rfl)) (sr rfl rfl rfl ((q_move rfl rfl)) (sr rfl rfl rfl ((q_move rfl rfl)) ?_)))))))
      refine sr rfl rfl rfl ((q_loadA rfl rfl (by exact .tail _ (.tail _ (.head _))) rfl)) ?_
      refine sr rfl rfl rfl ((q_move rfl rfl)) ?_
      refine sw_xc rfl (by first | (simp [AllT]; done) | simp [AllT, *]) rfl rfl (e_callc (CanCall.mk Tryz.call43) rfl (.cons rfl inferInstance (.cons rfl inferInstance (.nil))) (fun w1 hw => refSay_spec b _ (runes s) (by omega) hg w1 (stb_arg hw hb) (by exact stb_own hw (by exact .head _)))) (fun s52 => ?_)
      refine sw_imp fun _ => ?_
      refine sw_step rfl rfl rfl (q_call (CanCall.mk Tryz.call42) rfl (.cons rfl inferInstance (.cons rfl inferInstance (.nil))) (fun _ w1 hw => callq hw (sameSounds_spec _ _ _ _ w1 (by exact stb_own hw (by exact .tail _ (.tail _ (.head _)))) (by exact stb_own hw (by exact .head _))))) ?_
      refine sr rfl rfl rfl ((q_and2 rfl rfl rfl)) (sr rfl rfl rfl ((q_move rfl rfl)) ?_)
      refine sw_step rfl rfl rfl (q_call (CanCall.mk Tryz.call19) rfl (.nil) (fun _ w hw => callq hw (known_spec w (stb_arg hw (by assumption))))) ?_
      refine sr rfl rfl rfl ((q_and2 rfl rfl rfl)) (sr rfl rfl rfl ((q_assign rfl rfl)) (sw_nil (post_then (cw_ret (post_ret1 rfl (resOk_tmp rfl) ?_)))))
      exact fun w' hw => ⟨by simp, (fun w h => Cl.sel (by exact .nil _) w h) _ hw⟩
end Go.Proofs.YtkmbliojafefdaaGreatDoor

/-
  What came in, opened by its type: cells and what they read as, whatever the shape. General lemmas, no program text.
-/
set_option autoImplicit false
set_option linter.unusedSectionVars false
namespace Go.Sx
open Go.ChangeShapes Go.WideShapes Go.ChangeAt Go.RowKit Go.WideElems
/-- A value of type t that came in: its cells are those of some x; it reads as some y. -/
class Deep (P : Program) (t : TypeId) (α β : outParam Type) [Enc α] where
  rd : α → β → World → Prop
  keep : ∀ {a : α} {b : β} {w w' : World}, rd a b w → Chg [] w w' → rd a b w'
  opens : ∀ {H : Type} {enc : TypeId × Value → H} {w : World} {sp : Nat → Bool} {fuel : Nat} {cs : List Value} {x : DataW H × List MemPlace}, DataW.trod enc P w 0 sp true fuel t cs = some x → ∃ a b, cs = Enc.enc a ∧ rd a b w
  vals : ∀ {w : World} {r : Reach} {b0 : Nat} {v : Value} {a : α}, Value.okWide P w r b0 t v → v.cells = (Enc.enc a).toArray → v = Enc.val a
theorem open_deep {P : Program} {t : TypeId} {α β : Type} [Enc α] [hD : Deep P t α β] {H : Type} {enc : TypeId × Value → H} {W : World} {r : Reach} {b0 : Nat} {v : Value} {d : DataW H} {ps : List MemPlace}
    (hval : Value.okWide P W r b0 t v) (hd : DataW.Trod enc P W 0 (fun _ => true) true t v d ps) : ∃ (a : α) (b : β), v = Enc.val a ∧ Stb W [] (hD.rd a b) := by
  obtain ⟨fuel, hf⟩ := hd
  obtain ⟨a, b, hc, hr⟩ := hD.opens hf
  exact ⟨a, b, hD.vals hval (by rw [← hc]), ⟨fun w' k => hD.keep hr k⟩⟩
/-- int -/
@[reducible] def deepInt {P : Program} {t : TypeId} (ht : P.underlying t = some (.int .i64)) : Deep P t Int Int where
  rd a b _ := a = b ∧ -9223372036854775808 ≤ b ∧ b ≤ 9223372036854775807
  keep h _ := h
  opens h := by
    obtain ⟨n, h1, _, hw⟩ := DataW.trod_int ht h
    refine ⟨n, n, h1, rfl, ?_⟩
    have e1 : IntKind.i64.min = -9223372036854775808 := by decide
    have e2 : IntKind.i64.max = 9223372036854775807 := by decide
    simp [Lit.wf, e1, e2] at hw
    omega
  vals hv hc := by
    obtain ⟨n, rfl⟩ := okWide_int ht hv
    simpa [Value.cells, Enc.enc, Enc.val] using hc
@[reducible] def deepBool {P : Program} {t : TypeId} (ht : P.underlying t = some .bool) : Deep P t Bool Bool where
  rd a b _ := a = b
  keep h _ := h
  opens h := by
    obtain ⟨n, h1, _⟩ := DataW.trod_bool ht h
    exact ⟨n, n, h1, rfl⟩
  vals hv hc := by
    obtain ⟨n, rfl⟩ := okWide_bool ht hv
    simpa [Value.cells, Enc.enc, Enc.val] using hc
@[reducible] def deepString {P : Program} {t : TypeId} (ht : P.underlying t = some .string) : Deep P t ByteArray ByteArray where
  rd a b _ := a = b ∧ b.size ≤ maxLen
  keep h _ := h
  opens h := by
    obtain ⟨n, h1, _, hw⟩ := DataW.trod_string ht h
    exact ⟨n, n, h1, rfl, hw⟩
  vals hv hc := by
    obtain ⟨n, rfl⟩ := okWide_string ht hv
    simpa [Value.cells, Enc.enc, Enc.val] using hc
/-- Slices. -/
def rdSl {α β : Type} [Enc α] (rd : α → β → World → Prop) (s : SlV) (l : List β) (w : World) : Prop :=
  ∃ ls : List α, RdL s.v ls w ∧ ls.length = l.length ∧ ∀ (i : Nat) (a : α) (b : β), ls[i]? = some a → l[i]? = some b → rd a b w
theorem rdSl_flat {α : Type} [Enc α] {rd : α → α → World → Prop} (hf : ∀ a b w, rd a b w → a = b) {s : SlV} {l : List α} {w : World} (h : rdSl rd s l w) : RdL s.v l w := by
  obtain ⟨ls, h1, h2, h3⟩ := h
  have : ls = l := by
    refine List.ext_getElem h2 fun i hi hj => ?_
    exact hf _ _ _ (h3 i _ _ (List.getElem?_eq_getElem hi) (List.getElem?_eq_getElem hj))
  rw [← this]; exact h1
theorem stb_flat {α : Type} [Enc α] {rd : α → α → World → Prop} (hf : ∀ a b w, rd a b w → a = b) {s : SlV} {l : List α} {w : World} {fp : List Nat} (h : Stb w fp (rdSl rd s l)) : Stb w fp (RdL s.v l) := ⟨fun w' k => rdSl_flat hf (h.stb w' k)⟩
theorem rdSl_mem {α β : Type} [Enc α] {rd : α → β → World → Prop} {p : β → Prop} (hf : ∀ a b w, rd a b w → p b) {s : SlV} {l : List β} {w : World} (h : rdSl rd s l w) : ∀ b ∈ l, p b := by
  obtain ⟨ls, h1, h2, h3⟩ := h
  intro b hb
  obtain ⟨i, hi, rfl⟩ := List.getElem_of_mem hb
  exact hf _ _ _ (h3 i _ _ (List.getElem?_eq_getElem (by omega)) (List.getElem?_eq_getElem hi))
theorem pick {α : Type} {n : Nat} {p : Nat → α → Prop} (h : ∀ i, i < n → ∃ a, p i a) : ∃ l : List α, l.length = n ∧ ∀ i a, l[i]? = some a → p i a := by
  induction n with
  | zero => exact ⟨[], rfl, fun i a h => by simp at h⟩
  | succ n ih =>
    obtain ⟨l, hl, hp⟩ := ih fun i hi => h i (by omega)
    obtain ⟨a, ha⟩ := h n (by omega)
    refine ⟨l ++ [a], by simp [hl], fun i b hb => ?_⟩
    by_cases hi : i < n
    · rw [List.getElem?_append_left (by omega)] at hb; exact hp i b hb
    · by_cases hi' : i = n
      · subst hi'
        rw [List.getElem?_append_right (by omega), hl] at hb
        simp at hb; subst hb; exact ha
      · rw [List.getElem?_eq_none (by simp; omega)] at hb; cases hb
/-- A row of cells as the memory holds it. -/
theorem cells_at {w : World} {base : Nat} {a : Addr} {n : Nat} {cs : List Value} (h : w.cells? base a n = some cs) : cs.length = n ∧ ∀ j v, cs[j]? = some v → w.cell? (a.add j) = some v := by
  unfold World.cells? at h
  split at h
  · have hl := mapM_some_length h
    rw [List.length_range] at hl
    refine ⟨hl, fun j v hj => ?_⟩
    have hlt := (List.getElem?_eq_some_iff.1 hj).1
    have := mapM_some_get h j j (List.getElem?_range (by omega))
    rw [this, hj]
  · cases h
@[reducible] def deepSlice {P : Program} {t e : TypeId} {α β : Type} [Enc α] (ht : P.underlying t = some (.slice e)) (hc : P.cellsOf e = Enc.sz α) [hD : Deep P e α β] : Deep P t SlV (List β) where
  rd := rdSl hD.rd
  keep := fun ⟨ls, h1, h2, h3⟩ k => ⟨ls, (rd_stb h1).stb _ k, h2, fun i a b ha hb => hD.keep (h3 i a b ha hb) k⟩
  opens {H enc w sp fuel cs x} h := by
    rcases DataW.trod_slice ht h with ⟨rfl, _⟩ | ⟨a, len, cap, elems, rest, n, _, rfl, _, _, hl, hm, hlen, hel, _, _⟩
    · exact ⟨⟨none, 0, 0⟩, [], rfl, [], ⟨none, 0, 0, rfl, rfl, Nat.le_refl _, by simp [maxLen], fun i x j v hx => by simp at hx⟩, rfl, fun i a b h => by simp at h⟩
    · have key : ∀ i, i < len → ∃ y : α × β, (∀ j v, (Enc.enc y.1)[j]? = some v → w.cell? ((a.add (i * Enc.sz α)).add j) = some v) ∧ hD.rd y.1 y.2 w := by
        intro i hi
        have h1 := hel i hi
        rw [hc] at h1
        have h2 : ∃ z, elems[i]? = some z := ⟨_, List.getElem?_eq_getElem (by omega)⟩
        obtain ⟨z, hz⟩ := h2
        rw [hz, Option.bind_eq_some_iff] at h1
        obtain ⟨cs', hcs, hy⟩ := h1
        obtain ⟨x, y, hx, hr⟩ := hD.opens hy
        refine ⟨(x, y), fun j v hj => ?_, hr⟩
        rw [← hx] at hj
        exact (cells_at hcs).2 j v hj
      obtain ⟨l, hl2, hp⟩ := pick key
      refine ⟨⟨some a, len, cap⟩, l.map (·.2), rfl, l.map (·.1), ⟨some a, len, cap, rfl, by simpa using hl2, hl, hm, fun i x j v hx hv => ⟨a, rfl, ?_⟩⟩, by simp, fun i x y hx hy => ?_⟩
      · rw [List.getElem?_map, Option.map_eq_some_iff] at hx
        obtain ⟨z, hz, rfl⟩ := hx
        have := (hp i z hz).1 j v hv
        rw [addr_add_assoc] at this
        exact this
      · rw [List.getElem?_map, Option.map_eq_some_iff] at hx hy
        obtain ⟨z, hz, rfl⟩ := hx
        obtain ⟨z', hz', rfl⟩ := hy
        rw [hz] at hz'; cases hz'
        exact (hp i z hz).2
  vals hv hc' := by
    obtain ⟨a0, len, cap, rfl⟩ := okWide_slice ht hv
    rename_i a
    simpa [Value.cells, Enc.enc, Enc.val] using hc'
/-- A field of a struct. -/
theorem trod_fld {P : Program} {t : TypeId} {fs : Array Field} {H : Type} {enc : TypeId × Value → H} {w : World} {sp : Nat → Bool} {fuel : Nat} {cs : List Value} {x : DataW H × List MemPlace} (ht : P.underlying t = some (.struct fs))
    (h : DataW.trod enc P w 0 sp true fuel t cs = some x) (i : Nat) {f : Field} (hf : fs[i]? = some f) {ty off c : Nat} (e1 : f.type = ty) (e2 : f.offset = off) (e3 : P.cellsOf ty = c) : ∃ n y, DataW.trod enc P w 0 sp true n ty ((cs.drop off).take c) = some y := by
  subst e1 e2 e3
  obtain ⟨xs, n, _, _, _, hl, hx⟩ := DataW.trod_struct ht h
  have := hx i f hf
  have hi := (Array.getElem?_eq_some_iff.1 hf).1
  rw [List.getElem?_eq_getElem (by omega)] at this
  exact ⟨n, _, this⟩
theorem trod_len {P : Program} {t : TypeId} {fs : Array Field} {H : Type} {enc : TypeId × Value → H} {w : World} {sp : Nat → Bool} {fuel : Nat} {cs : List Value} {x : DataW H × List MemPlace} (ht : P.underlying t = some (.struct fs))
    (h : DataW.trod enc P w 0 sp true fuel t cs = some x) : cs.length = P.cellsOf t := by
  obtain ⟨xs, n, _, _, h1, _⟩ := DataW.trod_struct ht h
  exact h1
theorem vals_struct {P : Program} {t : TypeId} {fs : Array Field} {α : Type} [Enc α] (ht : P.underlying t = some (.struct fs)) (hv : ∀ a : α, Enc.val a = .agg (Enc.enc a).toArray) {w : World} {r : Reach} {b0 : Nat} {v : Value} {a : α} (hok : Value.okWide P w r b0 t v) (hc : v.cells = (Enc.enc a).toArray) : v = Enc.val a := by
  obtain ⟨cs, rfl, _⟩ := okWide_struct ht hok
  rw [hv]
  simp [Value.cells] at hc
  rw [hc]
end Go.Sx

set_option autoImplicit false
set_option maxRecDepth 100000
namespace Go.Proofs.YtkmbliojafefdaaGreatDoor
open Go.Sx Go.ChangeShapes Go.WideShapes Go.ChangeAt Go.RowKit Go.WideElems
instance : Deep Tryz.prog 3 Int Int := deepInt Tryz.underlying3
instance : Deep Tryz.prog 9 ByteArray ByteArray := deepString Tryz.underlying9
theorem cells9 : Tryz.prog.cellsOf 9 = 1 := by kernel_rfl
theorem cells27 : Tryz.prog.cellsOf 27 = 1 := by kernel_rfl
instance dL : Deep Tryz.prog 23 SlV (List ByteArray) := deepSlice Tryz.underlying23 (by kernel_rfl)
instance dLL : Deep Tryz.prog 27 SlV (List (List ByteArray)) := deepSlice Tryz.underlying27 (by kernel_rfl)
theorem rdSl_all {α β : Type} [Enc α] {rd : α → β → World → Prop} {p : β → World → Prop} (hf : ∀ a b w, rd a b w → p b w) {s : SlV} {l : List β} {w : World} (h : rdSl rd s l w) : ∀ b ∈ l, p b w := by
  obtain ⟨ls, h1, h2, h3⟩ := h
  intro b hb
  obtain ⟨i, hi, rfl⟩ := List.getElem_of_mem hb
  exact hf _ _ _ (h3 i _ _ (List.getElem?_eq_getElem (by omega)) (List.getElem?_eq_getElem hi))
theorem rdSl_rr {s : SlV} {l : List (List ByteArray)} {w : World} {rd : ByteArray → ByteArray → World → Prop} (hf : ∀ a b w, rd a b w → a = b) (h : rdSl (rdSl rd) s l w) : RdRR s.v l w := by
  obtain ⟨vs, h1, h2, h3⟩ := h
  exact ⟨vs, h1, h2, fun i hi => rdSl_flat hf (h3 i _ _ (nth_some (by omega)) (nth_some hi))⟩
structure FgIn' (u : Fgn) (w : World) : Prop where
  size : u.phone.size ≤ maxLen
  s : FgnIn u w
instance dFgn : Deep Tryz.prog 87 Fgn Fgn where
  rd a b w := a = b ∧ FgIn' b w
  keep := fun ⟨h1, h2⟩ k => ⟨h1, h2.size, (rdrr_stb h2.s).stb _ k⟩
  opens {H enc w sp fuel cs x} h := by
    have hl := trod_len Tryz.underlying87 h
    obtain ⟨_, _, h0⟩ := trod_fld Tryz.underlying87 h 0 rfl rfl rfl cells9
    obtain ⟨_, _, h1⟩ := trod_fld Tryz.underlying87 h 1 rfl rfl rfl cells27
    obtain ⟨x0, _, e0, rfl, z0⟩ := (deepString Tryz.underlying9).opens h0
    obtain ⟨x1, l1, e1, r1⟩ := dLL.opens h1
    rw [show Tryz.prog.cellsOf 87 = 2 by kernel_rfl] at hl
    match cs, hl with
    | [c0, c1], _ =>
    simp [Enc.enc] at e0 e1
    subst e0 e1
    exact ⟨⟨x0, x1, l1⟩, _, rfl, rfl, z0, rdSl_rr (fun a b w h => h.1) r1⟩
  vals := vals_struct Tryz.underlying87 fun _ => rfl
instance : Deep Tryz.prog 85 SlV (List Fgn) := deepSlice Tryz.underlying85 (by kernel_rfl)
theorem fgn_all {W : World} {fp : List Nat} {s : SlV} {l : List Fgn} (h : Stb W fp (rdSl (fun a b w => a = b ∧ FgIn' b w) s l)) : Stb W fp fun w' => ∀ u ∈ l, FgnIn u w' := ⟨fun w' k => rdSl_all (fun _ _ _ h => h.2.s) (h.stb w' k)⟩
theorem cells3 : Tryz.prog.cellsOf 3 = 1 := by kernel_rfl
theorem cells21 : Tryz.prog.cellsOf 21 = 1 := by kernel_rfl
theorem cells23 : Tryz.prog.cellsOf 23 = 1 := by kernel_rfl
theorem cells43 : Tryz.prog.cellsOf 43 = 1 := by kernel_rfl
theorem cells59 : Tryz.prog.cellsOf 59 = 1 := by kernel_rfl
theorem cells62 : Tryz.prog.cellsOf 62 = 1 := by kernel_rfl
/-- Letters: int32. -/
@[reducible] def deepRn {t : TypeId} (ht : Tryz.prog.underlying t = some (.int .i32)) : Deep Tryz.prog t Rn Rn where
  rd a b _ := a = b ∧ -2147483648 ≤ b.v ∧ b.v ≤ 2147483647
  keep h _ := h
  opens h := by
    obtain ⟨n, h1, _, hw⟩ := DataW.trod_int ht h
    refine ⟨⟨n⟩, ⟨n⟩, h1, rfl, ?_⟩
    have e1 : IntKind.i32.min = -2147483648 := by decide
    have e2 : IntKind.i32.max = 2147483647 := by decide
    simp [Lit.wf, e1, e2] at hw
    show -2147483648 ≤ n ∧ n ≤ 2147483647
    omega
  vals hv hc := by
    obtain ⟨n, rfl⟩ := okWide_int ht hv
    simpa [Value.cells, Enc.enc, Enc.val] using hc
instance : Deep Tryz.prog 21 Rn Rn := deepRn Tryz.underlying21
instance dCond : Deep Tryz.prog 109 Cond Cond where
  rd a b _ := a = b
  keep h _ := h
  opens {H enc w sp fuel cs x} h := by
    have hl := trod_len Tryz.underlying109 h
    obtain ⟨_, _, h0⟩ := trod_fld Tryz.underlying109 h 0 rfl rfl rfl cells3
    obtain ⟨_, _, h1⟩ := trod_fld Tryz.underlying109 h 1 rfl rfl rfl cells21
    obtain ⟨x0, _, e0, _⟩ := (deepInt Tryz.underlying3).opens h0
    obtain ⟨x1, _, e1, _⟩ := (deepRn Tryz.underlying21).opens h1
    rw [show Tryz.prog.cellsOf 109 = 2 by kernel_rfl] at hl
    match cs, hl with
    | [c0, c1], _ =>
    simp [Enc.enc] at e0 e1
    subst e0 e1
    exact ⟨⟨x0, x1.v⟩, _, rfl, rfl⟩
  vals := vals_struct Tryz.underlying109 fun _ => rfl
instance dConds : Deep Tryz.prog 62 SlV (List Cond) := deepSlice Tryz.underlying62 (by kernel_rfl)
instance dChc : Deep Tryz.prog 64 Chc Chc where
  rd a b w := a = b ∧ ChcIn b w
  keep := fun ⟨h1, h2⟩ k => ⟨h1, (chcIn_stb h2).stb _ k⟩
  opens {H enc w sp fuel cs x} h := by
    have hl := trod_len Tryz.underlying64 h
    obtain ⟨_, _, h0⟩ := trod_fld Tryz.underlying64 h 0 rfl rfl rfl cells62
    obtain ⟨_, _, h1⟩ := trod_fld Tryz.underlying64 h 1 rfl rfl rfl cells23
    obtain ⟨x0, l0, e0, r0⟩ := dConds.opens h0
    obtain ⟨x1, l1, e1, r1⟩ := dL.opens h1
    rw [show Tryz.prog.cellsOf 64 = 2 by kernel_rfl] at hl
    match cs, hl with
    | [c0, c1], _ =>
    simp [Enc.enc] at e0 e1
    subst e0 e1
    exact ⟨⟨x0, x1, l0, l1⟩, _, rfl, rfl, rdSl_flat (fun a b w h => h) r0, rdSl_flat (fun a b w h => h.1) r1⟩
  vals := vals_struct Tryz.underlying64 fun _ => rfl
instance dChcs : Deep Tryz.prog 59 SlV (List Chc) := deepSlice Tryz.underlying59 (by kernel_rfl)
instance dLet : Deep Tryz.prog 61 Let Let where
  rd a b w := a = b ∧ LetIn b w
  keep := fun ⟨h1, h2⟩ k => ⟨h1, (letIn_stb h2).stb _ k⟩
  opens {H enc w sp fuel cs x} h := by
    have hl := trod_len Tryz.underlying61 h
    obtain ⟨_, _, h0⟩ := trod_fld Tryz.underlying61 h 0 rfl rfl rfl cells21
    obtain ⟨_, _, h1⟩ := trod_fld Tryz.underlying61 h 1 rfl rfl rfl cells59
    obtain ⟨x0, _, e0, _⟩ := (deepRn Tryz.underlying21).opens h0
    obtain ⟨x1, l1, e1, r1⟩ := dChcs.opens h1
    rw [show Tryz.prog.cellsOf 61 = 2 by kernel_rfl] at hl
    match cs, hl with
    | [c0, c1], _ =>
    simp [Enc.enc] at e0 e1
    subst e0 e1
    exact ⟨⟨x0.v, x1, l1⟩, _, rfl, rfl, rdSl_flat (fun a b w h => h.1) r1, rdSl_all (p := ChcIn) (fun a b w h => h.2) r1⟩
  vals := vals_struct Tryz.underlying61 fun _ => rfl
instance dLets : Deep Tryz.prog 43 SlV (List Let) := deepSlice Tryz.underlying43 (by kernel_rfl)
instance dBk : Deep Tryz.prog 45 Bk Bk where
  rd a b w := a = b ∧ BkIn b w
  keep := fun ⟨h1, h2⟩ k => ⟨h1, (bkIn_stb h2).stb _ k⟩
  opens {H enc w sp fuel cs x} h := by
    have hl := trod_len Tryz.underlying45 h
    obtain ⟨_, _, h0⟩ := trod_fld Tryz.underlying45 h 0 rfl rfl rfl cells43
    obtain ⟨x0, l0, e0, r0⟩ := dLets.opens h0
    rw [show Tryz.prog.cellsOf 45 = 1 by kernel_rfl] at hl
    match cs, hl with
    | [c0], _ =>
    simp [Enc.enc] at e0
    subst e0
    exact ⟨⟨x0, l0⟩, _, rfl, rfl, rdSl_flat (fun a b w h => h.1) r0, rdSl_all (p := LetIn) (fun a b w h => h.2) r0⟩
  vals := vals_struct Tryz.underlying45 fun _ => rfl
/-- The tables, out of what the row lists. -/
theorem tab_of {W : World} {laid : List (String × DataW Unit)} (hL : laidMetH Tryz.prog laid W) : True := trivial
end Go.Proofs.YtkmbliojafefdaaGreatDoor

set_option autoImplicit false
namespace Go.Proofs.YtkmbliojafefdaaGreatDoor.letterSays
open Go.ChangeShapes Go.WideShapes Go.ChangeAt Go.RowKit Go.Sx
theorem own : ownKnob Tryz.prog.godebug = none := by kernel_rfl
theorem laid : laidOutB Tryz.prog = true := by kernel_rfl
theorem rowed : ∀ t ∈ Tryz.f8.params.toList, Tryz.prog.readableRec t = true ∧ t < Tryz.prog.types.size := by
  rw [Tryz.params8]
  intro t ht
  change t ∈ [45, 9] at ht
  simp only [List.mem_cons, List.not_mem_nil, or_false] at ht
  rcases ht with rfl | rfl <;> exact ⟨by kernel_rfl, of_decide_eq_true (by kernel_rfl)⟩
set_option maxHeartbeats 1000000 in
set_option maxRecDepth 100000 in
theorem lifted (os : Os) (started : os.Started) (H : Type) (enc : TypeId × Value → H) :
    ReturnsInHanded {} Tryz.checked os 8 .any (fun w args => (Rows.letterSaysSpec.pre enc Tryz.prog Tryz.f8 Rows.letterSaysRow.domain false w args ∧ laidMetH Tryz.prog Rows.letterSaysRow.laid w) ∧ sizedMet enc Tryz.prog Tryz.f8 (OpenSpec.ofChange Rows.letterSaysSpec) false w args)
      (Rows.letterSaysSpec.post enc Tryz.prog Tryz.f8 false true false false) := by
  refine returnsInHanded_of_change_and (C := Tryz.checked) (X := fun w _ => laidMetH Tryz.prog Rows.letterSaysRow.laid w) (fun _ _ _ hh h => h.of_heap hh) own started (by kernel_rfl) Tryz.func8
    (ChangeSpec.witness_shaped (enc := enc) (C := Tryz.checked) (os := os) (X := fun w _ => laidMetH Tryz.prog Rows.letterSaysRow.laid w) false (World.laidAll Tryz.prog os Rows.letterSaysRow.laid) #[.agg #[.slice none 0 0], .string ByteArray.empty] 8 (World.laidAll_os _ _ _)
      (World.shaped_of_ZipB (by kernel_rfl) (by kernel_rfl)) (by kernel_rfl) (by kernel_rfl) (by kernel_rfl)
      (by rw [MakeChecks.laidMetH_plain _ _ _ (by kernel_rfl)]; exact laidMet_laidAll _ (by kernel_rfl) (by kernel_rfl))) ?_
  intro W base args ds gs before hval0 hW hcnd _ hL _
  have hval : ∀ (j : Nat) t v, Tryz.f8.params[j]? = some t → args[j]? = some v → Value.okWide Tryz.prog W .any base t v := hval0
  have hW' := hW
  have hlt := hW.lt
  obtain ⟨p, q, hA0, hV, rfl, hfz, hnd⟩ := hW
  have hA : DataW.TrodAll enc Tryz.prog W 0 (fun _ => true) true Tryz.f8.params.toList args.toList ds p := hA0
  have hkeep := fun (W' : World) (hb : Below W.heap.size W W') (sp : Nat → Bool) (hsp : ∀ x ∈ p, sp x.block = true) => trodAll_keep laid hb sp rowed hA (fun x hx => hlt x (by simp [hx])) hsp
  rw [Tryz.params8] at hA hval
  obtain ⟨v0, vs0, d0, ds0, p0, q0, hargs, rfl, rfl, h0, r0⟩ := trodAll_cons hA
  obtain ⟨v1, vs1, d1, ds1, p1, q1, rfl, rfl, rfl, h1, r1⟩ := trodAll_cons r0
  obtain ⟨rfl, rfl, rfl⟩ := trodAll_nil r1
  obtain rfl : args = #[v0, v1] := by cases args; simp_all
  obtain ⟨rfl, rfl⟩ := trodVars_none hV
  obtain ⟨a0, b0, rfl, k0⟩ := open_deep (hval 0 45 v0 rfl rfl) h0
  obtain ⟨a1, b1, rfl, k1⟩ := open_deep (hval 1 9 v1 rfl rfl) h1
  obtain ⟨rfl, w1⟩ := k1.here
  clear hA0 hval0
  rw [MakeChecks.laidMetH_plain _ _ _ (by kernel_rfl)] at hL
  have hT : Stb W [] Tab := tab_stb (utf8Tabs_of_readsT (U8Types.of196 Tryz.lays196) ⟨by kernel_rfl, by kernel_rfl, by kernel_rfl, by kernel_rfl, by kernel_rfl, by kernel_rfl, by kernel_rfl⟩ (Pinned.utf8First_eq ▸ Lib.laidMet.reads hL (.tail _ (.head _))) (Lib.laidMet.reads hL (.head _)))
  obtain rfl := k0.here.1
  refine (says_spec a0 a1 (by have := w1; unfold maxLen at this; omega) W hT (stb_map k0 fun _ h => h.2)).mono fun e W' ⟨he, hc⟩ => ?_
  subst he
  have hb := below_of hc
  exact ⟨_, rfl, _, _, _, [], _, [], hW', trodAll_cons_mk (shut_bool Tryz.underlying4 _) trodAll_mk0, hkeep W' hb _ (fun x hx => by simpa using hlt x (by simpa using hx)), rfl, hb.frame _, fun h => by cases h⟩
end Go.Proofs.YtkmbliojafefdaaGreatDoor.letterSays

set_option autoImplicit false
namespace Go.Proofs.YtkmbliojafefdaaGreatDoor.letterSays
open Go.Sx
theorem named : Tryz.prog.funcNamed "declaim/declaimlaw03.LetterSays" = some 8 := by kernel_rfl
theorem inst : Tryz.f8.isInstance Tryz.prog Rows.letterSaysRow.origin Rows.letterSaysRow.targs := of_decide_eq_true (by kernel_rfl)
theorem wrap : Tryz.f8.isWrapper Tryz.prog Rows.letterSaysRow.wrapper Rows.letterSaysRow.mainSum := by unfold Func.isWrapper; first | (rw [if_pos (by decide +kernel)]; kernel_rfl) | (rw [if_neg (by decide +kernel)]; exact ⟨rfl, rfl⟩)
theorem over : Rows.letterSaysRow.holds Tryz.pinned (OpenSpec.ofChange Rows.letterSaysSpec) :=
  OpenClaim.holds_of_wide 8 Tryz.f8 rfl rfl rfl rfl rfl rfl rfl ⟨rfl, rfl, rfl, rfl, rfl⟩ rfl rfl rfl rfl rfl named Tryz.func8 closed inst wrap
    (fun os started H enc _ => lifted os started H enc)
end Go.Proofs.YtkmbliojafefdaaGreatDoor.letterSays

set_option autoImplicit false
namespace Go.Proofs.YtkmbliojafefdaaGreatDoor.letterSays
theorem wft : Rows.letterSaysRow.wfByText (OpenSpec.ofChange Rows.letterSaysSpec) = true := by kernel_rfl
theorem main_is : Tryz.prog.mainIs = some (true, ("d8be659bf8d5b02a094a7902d1429b48723caac21f6c6de879e48704ff2af7b1" : String).toList) := by kernel_rfl
theorem looks_no : false = Tryz.prog.looks [] := by kernel_rfl
theorem goes_by : false = Rows.letterSaysRow.goesBy Tryz.prog := by kernel_rfl
theorem stand_no : ([45, 9].all fun u => !Tryz.prog.wantsStandIn u) = true := by kernel_rfl
end Go.Proofs.YtkmbliojafefdaaGreatDoor.letterSays
