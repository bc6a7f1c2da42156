import Derived.Test.YtomjbfeafodfbaaGreatWBest4

set_option autoImplicit false
set_option linter.unusedSimpArgs false
set_option linter.unusedVariables false
set_option maxRecDepth 100000
namespace Go.Proofs.YtomjbfeafodfbaaGreat
open Go.Sx
open Enc (enc val)
structure EX where
  su : SlV
  st : SlV
  a : SlV
  b : SlV
  c : SlV
  d : SlV
  e : SlV
  f : SlV
def EX.U (y : EX) : List Un := exU y.a y.b y.c y.d y.e y.f
def EX.H (y : EX) : List Asn := [ownL 51 y.st.v exT, ownL 49 y.su.v y.U, ownL 3 y.f.v [(5 : Int)], ownL 3 y.e.v [(0 : Int)], ownL 3 y.d.v [(0 : Int)], ownL 3 y.c.v [(5 : Int)], ownL 3 y.b.v [(4 : Int)], ownL 3 y.a.v [(0 : Int)]]
theorem example_spec (w : World) : Calls Tryz.prog 63 #[] w fun e w' => ∃ y : EX, e = .returned (.tuple #[y.su.v, y.st.v, val exW]) ∧ True ∧ Cl w [] y.H w' := by
  refine calls_cw (vs := []) Tryz.func63 rfl Tryz.ntmps63 rfl (Cl.start0 w) (cw_seq (cw_region (sr rfl rfl rfl ((q_assign rfl rfl)) (sr rfl rfl rfl ((q_assign rfl rfl)) ?_))))
  refine sw_x rfl rfl rfl (e_alloc rfl) (fun b2 => ?_)
  refine sw_nil (post_then (cw_seq (cw_region ?_)))
  refine sw_x rfl rfl rfl (e_build1 (α := Int) rfl rfl rfl rfl) (fun s4 => ?_)
  refine sw_x rfl rfl rfl (e_build1 (α := Int) rfl rfl rfl rfl) (fun s5 => ?_)
  refine sr rfl rfl rfl ((q_build rfl (.cons rfl inferInstance (.cons rfl inferInstance (.cons rfl inferInstance (.cons rfl inferInstance (.cons rfl inferInstance (.cons rfl inferInstance (.nil))))))) rfl)) ?_
  refine sw_x rfl rfl rfl (e_build1 (α := Int) rfl rfl rfl rfl) (fun s7 => ?_)
  refine sw_x rfl rfl rfl (e_build1 (α := Int) rfl rfl rfl rfl) (fun s8 => ?_)
  refine sr rfl rfl rfl ((q_build rfl (.cons rfl inferInstance (.cons rfl inferInstance (.cons rfl inferInstance (.cons rfl inferInstance (.cons rfl inferInstance (.cons rfl inferInstance (.cons rfl inferInstance (.nil)))))))) rfl)) ?_
  refine sw_x rfl rfl rfl (e_build1 (α := Int) rfl rfl rfl rfl) (fun s10 => ?_)
  refine sw_x rfl rfl rfl (e_build1 (α := Int) rfl rfl rfl rfl) (fun s11 => ?_)
  refine sr rfl rfl rfl ((q_build rfl (.cons rfl inferInstance (.cons rfl inferInstance (.cons rfl inferInstance (.cons rfl inferInstance (.cons rfl inferInstance (.cons rfl inferInstance (.cons rfl inferInstance (.nil)))))))) rfl)) ?_
  refine sw_x rfl rfl rfl (e_buildL (α := Un) (l := exU s4 s5 s7 s8 s10 s11) rfl (.cons rfl inferInstance (.cons rfl inferInstance (.cons rfl inferInstance (.nil)))) rfl rfl rfl rfl) (fun s13 => ?_)
  refine sr rfl rfl rfl ((q_assign rfl rfl)) (sw_nil (post_then (cw_seq (cw_region (sr rfl rfl rfl ((q_move rfl rfl)) ?_)))))
  refine sr rfl rfl rfl ((q_build (cells := [.string exA, .string ByteArray.empty, .string ByteArray.empty, .int .i64 100, .int .i64 10]) rfl (.cons rfl inferInstance (.cons rfl inferInstance (.cons rfl inferInstance (.nil)))) (by rfl))) ?_
  refine sr rfl rfl rfl ((q_build (cells := [.string exB, .string ByteArray.empty, .string ByteArray.empty, .int .i64 100, .int .i64 10]) rfl (.cons rfl inferInstance (.cons rfl inferInstance (.cons rfl inferInstance (.nil)))) (by rfl))) ?_
  refine sw_x rfl rfl rfl (e_buildL (α := Wan) (l := exT) rfl (.cons rfl inferInstance (.cons rfl inferInstance (.nil))) rfl rfl rfl rfl) (fun s17 => ?_)
  refine sr rfl rfl rfl ((q_build (cells := enc exW) rfl (.cons rfl inferInstance (.cons rfl inferInstance (.cons rfl inferInstance (.cons rfl inferInstance (.nil))))) (by rfl))) ?_
  refine sr rfl rfl rfl ((q_assign rfl rfl)) (sr rfl rfl rfl ((q_assign rfl rfl)) (sw_eff0 rfl rfl (e_store (i := 8) rfl rfl rfl rfl rfl rfl rfl rfl) (sw_nil (post_then (cw_ret ?_)))))
  refine post_ret3 rfl (resOk_tmp rfl) (resOk_tmp rfl) (resOk_blk (x := exW) rfl (by exact .tail _ (.tail _ (.tail _ (.tail _ (.tail _ (.tail _ (.tail _ (.tail _ (.head _))))))))) (by rfl)) ?_
  exact fun w' hw => ⟨⟨s13, s17, s4, s5, s7, s8, s10, s11⟩, rfl, trivial, (fun w h => Cl.sel (by exact .take 0 rfl (.take 0 rfl (.take 0 rfl (.take 0 rfl (.take 0 rfl (.take 0 rfl (.take 0 rfl (.take 0 rfl (.nil _))))))))) w h) _ hw⟩
theorem ex_un {w : World} {H : List Asn} {w0 : World} (y : EX) (hw : Cl w0 [] H w) (hm : ∀ A ∈ y.H, A ∈ H) : VoRd w y.su y.U ∧ Stb w [] (RdL y.st.v exT) := by
  have h1 := stb_own (e := 49) hw (hm _ (.tail _ (.head _)))
  have h2 := stb_own (e := 51) hw (hm _ (.head _))
  have hf := stb_own (e := 3) hw (hm _ (.tail _ (.tail _ (.head _))))
  have he := stb_own (e := 3) hw (hm _ (.tail _ (.tail _ (.tail _ (.head _)))))
  have hd := stb_own (e := 3) hw (hm _ (.tail _ (.tail _ (.tail _ (.tail _ (.head _))))))
  have hc := stb_own (e := 3) hw (hm _ (.tail _ (.tail _ (.tail _ (.tail _ (.tail _ (.head _)))))))
  have hb := stb_own (e := 3) hw (hm _ (.tail _ (.tail _ (.tail _ (.tail _ (.tail _ (.tail _ (.head _))))))))
  have ha := stb_own (e := 3) hw (hm _ (.tail _ (.tail _ (.tail _ (.tail _ (.tail _ (.tail _ (.tail _ (.head _)))))))))
  refine ⟨⟨h1, fun u hu => ?_⟩, h2⟩
  simp only [EX.U, exU, List.mem_cons, List.not_mem_nil, or_false] at hu
  have sA : exA.size ≤ 140737488355328 := by decide
  have sB : exB.size ≤ 140737488355328 := by decide
  have sE : ByteArray.empty.size ≤ 140737488355328 := by decide
  rcases hu with rfl | rfl | rfl
  · exact ⟨sA, sE, sE, ha, hb⟩
  · exact ⟨sB, sE, sE, hc, hd⟩
  · exact ⟨sA, sE, sE, he, hf⟩
theorem ex_wa : ∀ t ∈ exT, WaRd t := by
  intro t ht
  simp only [exT, List.mem_cons, List.not_mem_nil, or_false] at ht
  rcases ht with rfl | rfl <;> exact ⟨by decide, by decide, by decide⟩
theorem mt_own {w0 w : World} {fp : List Nat} {H : List Asn} (hw : Cl w0 fp H w) {s : SlV} {vs : List SlV} {ls : List (List Int)} {e : TypeId} (hl : ownL e s.v vs ∈ H) (hn : vs.length = ls.length) (hr : ∀ i, i < ls.length → ∃ e2, ownL e2 (nth vs i).v (nth ls i) ∈ H) : Stb w [] (fun w' => Mt w' s.v vs ls) := by
  have h1 := stb_own hw hl
  have h2 : ∀ i, i < ls.length → Stb w [] (RdL (nth vs i).v (nth ls i)) := fun i hi => by
    obtain ⟨e2, h⟩ := hr i hi
    exact stb_own hw h
  exact ⟨fun w' k => ⟨h1.stb w' k, hn, fun i hi => (h2 i hi).stb w' k⟩⟩
theorem ex_rows {w : World} {so sc : SlV} (h1 : Stb w [] (RdL so.v (rowsTo sc 3 2 2))) (h2 : Stb w [] (RdL sc.v [(0 : Int), 0, 20, 0, 0, 0])) : Stb w [] (fun w' => Mt w' so.v (rowsTo sc 3 2 2) [[0, 0, 20], [0, 0, 0]]) := by
  have r0 : Stb w [] (RdL (sc.row 1 0 3).v [(0 : Int), 0, 20]) := stb_row (α := Int) h2 (by decide) (by decide)
  have r1 : Stb w [] (RdL (sc.row 1 3 6).v [(0 : Int), 0, 0]) := stb_row (α := Int) h2 (by decide) (by decide)
  refine ⟨fun w' k => ⟨h1.stb w' k, rowsTo_len _ _ _ _, fun i hi => ?_⟩⟩
  match i, hi with
  | 0, _ => rw [rowsTo_nth _ _ _ _ _ (by decide)]; exact r0.stb w' k
  | 1, _ => rw [rowsTo_nth _ _ _ _ _ (by decide)]; exact r1.stb w' k
def exP : CutP := ⟨[[1], [1], [9]], [[1], [8]], 1⟩
theorem exP_D : (exP.D exP.m 0).getD 0 = 1 := by decide +kernel
theorem exP_pth : exP.pth exP.m 0 = [2, 1] := by decide +kernel
theorem exP_E : cutE exP.fl exP.pl exP.L = 0 := by decide +kernel
theorem exP_ok : exP.Ok where
  fv f hf := by
    have hf' : f < 3 := hf
    match f, hf' with
    | 0, _ => decide
    | 1, _ => decide
    | 2, _ => decide
  pv p hp := by
    have hp' : p < 2 := hp
    match p, hp' with
    | 0, _ => decide
    | 1, _ => decide
  eq f p hf hp := by
    have hf' : f < 3 := hf
    have hp' : p < 2 := hp
    match f, hf', p, hp' with
    | 0, _, 0, _ => rfl
    | 1, _, 0, _ => rfl
    | 2, _, 0, _ => rfl
    | 0, _, 1, _ => rfl
    | 1, _, 1, _ => rfl
    | 2, _, 1, _ => rfl
  n2 := by decide
  m2 := by decide
  l1 := by decide
theorem same_true (sa sb : Value) (a b : List Int) (h : a = b) (w : World) (ha : Stb w [] (RdL sa a)) (hb : Stb w [] (RdL sb b)) : Calls Tryz.prog 23 #[sa, sb] w fun e w' => e = .returned (.bool true) ∧ Cl w [] [] w' := by
  have := same_spec sa sb a b w ha hb
  rwa [decide_eq_true h] at this
theorem sameL_true (sa sb : Value) (va vb : List SlV) (a b : List (List Int)) (h : a = b) (w : World) (ha : Stb w [] (fun w' => Mt w' sa va a)) (hb : Stb w [] (fun w' => Mt w' sb vb b)) : Calls Tryz.prog 24 #[sa, sb] w fun e w' => e = .returned (.bool true) ∧ Cl w [] [] w' := by
  have := sameLists_spec sa sb va vb a b w ha hb
  rwa [decide_eq_true h] at this
theorem known_spec (w : World) : Calls Tryz.prog 18 #[] w fun e w' => e = .returned (.bool true) ∧ Cl w [] [] w' := by
  refine calls_cw (vs := []) Tryz.func18 rfl Tryz.ntmps18 rfl (Cl.start0 w) (cw_seq (cw_region (sr rfl rfl rfl ((q_assign rfl rfl)) (sw_nil (post_then (cw_seq (cw_region ?_)))))))
  refine sw_x rfl rfl rfl (e_call (CanCall.mk Tryz.call63) rfl (.nil) (fun w hw => example_spec w)) (fun y => ?_)
  refine sw_imp fun _ => ?_
  rw [List.append_nil]
  refine sr rfl rfl rfl ((q_move rfl rfl)) (sr rfl rfl rfl ((q_extract rfl rfl rfl)) (sr rfl rfl rfl ((q_extract rfl rfl rfl)) (sr rfl rfl rfl ((q_extract rfl rfl rfl)) ?_)))
  refine sw_x rfl rfl rfl (e_alloc rfl) (fun b3 => ?_)
  refine sr rfl rfl rfl ((q_assign rfl rfl)) (sr rfl rfl rfl ((q_assign rfl rfl)) (sw_eff0 rfl rfl (e_store (i := 0) rfl rfl rfl rfl rfl rfl rfl rfl) (sw_nil (post_then (cw_seq (cw_region (sr rfl rfl rfl ((q_move rfl rfl)) (sr rfl rfl rfl ((q_move rfl rfl)) ?_))))))))
  refine sr rfl rfl rfl ((q_loadA rfl rfl (by exact .head _) rfl)) ?_
  refine sw_x rfl rfl rfl (e_call (CanCall.mk Tryz.call19) rfl (.cons rfl inferInstance (.cons rfl inferInstance (.cons rfl inferInstance (.nil)))) (fun w1 hw => choose_yes y.su y.st y.U exT exW w1 (ex_un y hw (fun A hA => .tail _ hA)).1 (ex_un y hw (fun A hA => .tail _ hA)).2 ex_wa (ex_begin _ _ _ _ _ _) (ex_poss _ _ _ _ _ _) (show (3 + 1) ^ 2 ≤ 500000000 by decide))) (fun z => ?_)
  refine sw_imp fun hz => ?_
  obtain ⟨⟨so, sc⟩, ⟨cells, ⟨qs, qc, ql⟩⟩⟩ := z
  obtain ⟨h1, h2⟩ := hz
  dsimp only at h1 h2
  obtain rfl := ex_cells _ _ _ _ _ _ h1
  obtain ⟨rfl, rfl⟩ := ex_best _ _ _ _ _ _ h2
  clear h1 h2
  dsimp only
  refine sr rfl rfl rfl ((q_move rfl rfl)) (sr rfl rfl rfl ((q_extract rfl rfl rfl)) (sr rfl rfl rfl ((q_extract rfl rfl rfl)) (sr rfl rfl rfl ((q_extract rfl rfl rfl)) ?_)))
  refine sw_x rfl rfl rfl (e_alloc rfl) (fun b4 => ?_)
  refine sw_eff0 rfl rfl (e_store (i := 0) rfl rfl rfl rfl rfl rfl rfl rfl) (sr rfl rfl rfl ((q_assign rfl rfl)) (sr rfl rfl rfl ((q_assign rfl rfl)) (sw_nil (post_then (cw_seq (cw_region (sr rfl rfl rfl ((q_move rfl rfl)) (sr rfl rfl rfl ((q_move rfl rfl)) ?_))))))))
  refine sr rfl rfl rfl ((q_loadA rfl rfl (by exact .tail _ (.tail _ (.tail _ (.tail _ (.head _))))) rfl)) ?_
  refine sw_x rfl rfl rfl (e_call (CanCall.mk Tryz.call26) rfl (.cons rfl inferInstance (.cons rfl inferInstance (.cons rfl inferInstance (.cons rfl inferInstance (.nil))))) (fun w1 hw => best_yes y.su y.st y.U exT exW 5 w1 (ex_un y hw (fun A hA => .tail _ (.tail _ (.tail _ (.tail _ (.tail _ hA)))))).1 (ex_un y hw (fun A hA => .tail _ (.tail _ (.tail _ (.tail _ (.tail _ hA)))))).2 ex_wa (ex_begin _ _ _ _ _ _) (by omega) (ex_poss _ _ _ _ _ _) (show (3 + 1) ^ 2 ≤ 500000000 by decide))) (fun z => ?_)
  refine sw_imp fun hz => ?_
  obtain ⟨so2, ⟨outs, il⟩⟩ := z
  obtain ⟨h1, h2, h3⟩ := hz
  dsimp only at h1 h2 h3 ⊢
  obtain ⟨q1, ⟨u2, c2, l2⟩, rfl, hq⟩ := ex_bests _ _ _ _ _ _ h1 h2
  obtain rfl : c2 = 20 := hq
  clear h1 h2 h3
  refine sw_le (C' := Cl w [] [ownL 30 so2.v [q1, ⟨u2, 20, l2⟩], blk b4 [qs.v, .int .i64 0] 30, ownL 28 so.v (rowsTo sc 3 2 2), ownL 3 sc.v [(0 : Int), 0, 20, 0, 0, 0], ownL 3 qs.v [(0 : Int), 1]]) (fun w h => Cl.sel (by exact .take 0 rfl (.take 2 rfl (.take 2 rfl (.take 2 rfl (.take 2 rfl (.nil _)))))) w h) ?_
  refine sr rfl rfl rfl ((q_move rfl rfl)) (sr rfl rfl rfl ((q_extract rfl rfl rfl)) (sr rfl rfl rfl ((q_extract rfl rfl rfl)) (sr rfl rfl rfl ((q_assign rfl rfl)) (sr rfl rfl rfl ((q_assign rfl rfl)) (sw_nil (post_then (cw_seq (cw_region ?_))))))))
  refine sw_x rfl rfl rfl (e_build1 (α := Int) rfl rfl rfl rfl) (fun s41 => ?_)
  refine sw_x rfl rfl rfl (e_build1 (α := Int) rfl rfl rfl rfl) (fun s42 => ?_)
  refine sw_x rfl rfl rfl (e_build1 (α := Int) rfl rfl rfl rfl) (fun s43 => ?_)
  refine sw_x rfl rfl rfl (e_buildL (α := SlV) (l := [s41, s42, s43]) rfl (.cons rfl inferInstance (.cons rfl inferInstance (.cons rfl inferInstance (.nil)))) rfl rfl rfl rfl) (fun s44 => ?_)
  refine sw_x rfl rfl rfl (e_build1 (α := Int) rfl rfl rfl rfl) (fun s45 => ?_)
  refine sw_x rfl rfl rfl (e_build1 (α := Int) rfl rfl rfl rfl) (fun s46 => ?_)
  refine sw_x rfl rfl rfl (e_buildL (α := SlV) (l := [s45, s46]) rfl (.cons rfl inferInstance (.cons rfl inferInstance (.nil))) rfl rfl rfl rfl) (fun s47 => ?_)
  refine sw_x rfl rfl rfl (e_call (CanCall.mk Tryz.call30) rfl (.cons rfl inferInstance (.cons rfl inferInstance (.cons rfl inferInstance (.nil)))) (fun w1 hw => cut_yes s44 s47 [s41, s42, s43] [s45, s46] exP w1 (mt_own hw (e := 28) (by exact .tail _ (.tail _ (.tail _ (.head _)))) rfl (fun i hi => by match i, hi with | 0, _ => exact ⟨3, (by exact .tail _ (.tail _ (.tail _ (.tail _ (.tail _ (.tail _ (.head _)))))))⟩ | 1, _ => exact ⟨3, (by exact .tail _ (.tail _ (.tail _ (.tail _ (.tail _ (.head _))))))⟩ | 2, _ => exact ⟨3, (by exact .tail _ (.tail _ (.tail _ (.tail _ (.head _)))))⟩)) (mt_own hw (e := 28) (by exact .head _) rfl (fun i hi => by match i, hi with | 0, _ => exact ⟨3, (by exact .tail _ (.tail _ (.head _)))⟩ | 1, _ => exact ⟨3, (by exact .tail _ (.head _))⟩)) exP_E exP_ok (by decide) (by decide))) (fun z => ?_)
  refine sw_imp fun hz => ?_
  obtain ⟨sk, lk⟩ := z
  dsimp only at hz ⊢
  rw [exP_pth] at hz
  subst hz
  rw [exP_D]
  refine sw_le (C' := Cl w [] [ownL 3 sk.v [(2 : Int), 1], ownL 30 so2.v [q1, ⟨u2, 20, l2⟩], blk b4 [qs.v, .int .i64 0] 30, ownL 28 so.v (rowsTo sc 3 2 2), ownL 3 sc.v [(0 : Int), 0, 20, 0, 0, 0], ownL 3 qs.v [(0 : Int), 1]]) (fun w h => Cl.sel (by exact .take 0 rfl (.take 7 rfl (.take 7 rfl (.take 7 rfl (.take 7 rfl (.take 7 rfl (.nil _))))))) w h) ?_
  refine sr rfl rfl rfl ((q_move rfl rfl)) (sr rfl rfl rfl ((q_extract rfl rfl rfl)) (sr rfl rfl rfl ((q_extract rfl rfl rfl)) (sr rfl rfl rfl ((q_extract rfl rfl rfl)) (sr rfl rfl rfl ((q_assign rfl rfl)) (sr rfl rfl rfl ((q_assign rfl rfl)) (sr rfl rfl rfl ((q_assign rfl rfl)) (sw_nil (post_then (cw_seq (cw_region ?_))))))))))
  refine sw_x rfl rfl rfl (e_buildL (α := Int) (l := [0, 1, 2]) rfl (.cons rfl inferInstance (.cons rfl inferInstance (.cons rfl inferInstance (.nil)))) rfl rfl rfl rfl) (fun s52 => ?_)
  refine sw_x rfl rfl rfl (e_buildL (α := Int) (l := [0, 3]) rfl (.cons rfl inferInstance (.cons rfl inferInstance (.nil))) rfl rfl rfl rfl) (fun s53 => ?_)
  refine sw_x rfl rfl rfl (e_buildL (α := Int) (l := [1, 2]) rfl (.cons rfl inferInstance (.cons rfl inferInstance (.nil))) rfl rfl rfl rfl) (fun s54 => ?_)
  refine sw_x rfl rfl rfl (e_build1 (α := Int) rfl rfl rfl rfl) (fun s55 => ?_)
  refine sw_x rfl rfl rfl (e_buildL (α := SlV) (l := [s52, s53, s54, s55]) rfl (.cons rfl inferInstance (.cons rfl inferInstance (.cons rfl inferInstance (.cons rfl inferInstance (.nil))))) rfl rfl rfl rfl) (fun s56 => ?_)
  refine sr rfl rfl rfl ((q_assign rfl rfl)) (sw_nil (post_then (cw_seq (cw_region (sr rfl rfl rfl ((q_move rfl rfl)) ?_)))))
  have hsets : ∀ {w1 : World} {H : List Asn}, Cl w [] H w1 → ownL 28 s56.v [s52, s53, s54, s55] ∈ H → ownL 3 s52.v [(0 : Int), 1, 2] ∈ H → ownL 3 s53.v [(0 : Int), 3] ∈ H → ownL 3 s54.v [(1 : Int), 2] ∈ H → ownL 3 s55.v [(3 : Int)] ∈ H → Stb w1 [] (fun w' => Mt w' s56.v [s52, s53, s54, s55] exS) := fun hw m0 m1 m2 m3 m4 => mt_own hw (e := 28) m0 rfl (fun i hi => by
    have hi' : i < 4 := hi
    match i, hi' with
    | 0, _ => exact ⟨3, m1⟩
    | 1, _ => exact ⟨3, m2⟩
    | 2, _ => exact ⟨3, m3⟩
    | 3, _ => exact ⟨3, m4⟩)
  refine sw_x rfl rfl rfl (e_call (CanCall.mk Tryz.call42) rfl (.cons rfl inferInstance (.cons rfl inferInstance (.nil))) (fun w1 hw => greedy_yes 4 (by omega) s56 [s52, s53, s54, s55] exS (by decide) w1 (hsets hw (by exact .head _) (by exact .tail _ (.tail _ (.tail _ (.tail _ (.head _))))) (by exact .tail _ (.tail _ (.tail _ (.head _)))) (by exact .tail _ (.tail _ (.head _))) (by exact .tail _ (.head _))) exS_cov exS_poss)) (fun z => ?_)
  refine sw_imp fun hz => ?_
  obtain ⟨sa, ⟨la, ka⟩⟩ := z
  dsimp only at hz ⊢
  obtain rfl := exS_k hz.ok hz.full
  obtain rfl : la = [0, 1] := srt_two (by rw [← exS_out]; exact hz.perm) hz.srt
  clear hz
  refine sr rfl rfl rfl ((q_move rfl rfl)) (sr rfl rfl rfl ((q_extract rfl rfl rfl)) (sr rfl rfl rfl ((q_extract rfl rfl rfl)) (sr rfl rfl rfl ((q_assign rfl rfl)) (sr rfl rfl rfl ((q_assign rfl rfl)) (sw_nil (post_then (cw_seq (cw_region (sr rfl rfl rfl ((q_move rfl rfl)) ?_)))))))))
  refine sw_x rfl rfl rfl (e_call (CanCall.mk Tryz.call34) rfl (.cons rfl inferInstance (.cons rfl inferInstance (.nil))) (fun w1 hw => price_yes 4 (by omega) s56 [s52, s53, s54, s55] exS w1 (hsets hw (by exact .tail _ (.head _)) (by exact .tail _ (.tail _ (.tail _ (.tail _ (.tail _ (.head _)))))) (by exact .tail _ (.tail _ (.tail _ (.tail _ (.head _))))) (by exact .tail _ (.tail _ (.tail _ (.head _)))) (by exact .tail _ (.tail _ (.head _)))) exS_cov (by decide) (by rw [exS_wid]; decide) exS_poss)) (fun z => ?_)
  refine sw_imp fun hz => ?_
  obtain ⟨sp, ⟨lp, ⟨kp, lq⟩⟩⟩ := z
  dsimp only at hz ⊢
  obtain ⟨hz1, hz2⟩ := hz
  obtain rfl := exS_k hz2.ok hz2.full
  rw [exS_sh] at hz1
  obtain rfl : lp = [9240, 9240, 9240, 27720] := hz1
  clear hz2
  rw [exS_wid, exS_scale]
  refine sr rfl rfl rfl ((q_move rfl rfl)) (sr rfl rfl rfl ((q_extract rfl rfl rfl)) (sr rfl rfl rfl ((q_extract rfl rfl rfl)) (sr rfl rfl rfl ((q_extract rfl rfl rfl)) (sr rfl rfl rfl ((q_assign rfl rfl)) (sr rfl rfl rfl ((q_assign rfl rfl)) (sr rfl rfl rfl ((q_assign rfl rfl)) (sw_nil (post_then (cw_seq (cw_region (sr rfl rfl rfl ((q_move rfl rfl)) (sr rfl rfl rfl ((q_move rfl rfl)) (sr rfl rfl rfl ((q_move rfl rfl)) ?_)))))))))))))
  refine sw_step rfl rfl rfl (q_call (v := .tuple #[.int .i64 2, .bool true]) (CanCall.mk Tryz.call39) rfl (.cons rfl inferInstance (.cons rfl inferInstance (.cons rfl inferInstance (.cons rfl inferInstance (.nil))))) (fun _ w1 hw => callq hw (by have := proves_yes 4 (by omega) s56 [s52, s53, s54, s55] exS sp [9240, 9240, 9240, 27720] 50820 w1 (hsets hw (by exact .tail _ (.tail _ (.head _))) (by exact .tail _ (.tail _ (.tail _ (.tail _ (.tail _ (.tail _ (.head _))))))) (by exact .tail _ (.tail _ (.tail _ (.tail _ (.tail _ (.head _)))))) (by exact .tail _ (.tail _ (.tail _ (.tail _ (.head _))))) (by exact .tail _ (.tail _ (.tail _ (.head _))))) (stb_own (e := 3) hw (by exact .head _)) exS_cov; rw [exS_prov.1, exS_prov.2] at this; exact this))) ?_
  refine sr rfl rfl rfl ((q_move rfl rfl)) (sr rfl rfl rfl ((q_extract rfl rfl rfl)) (sr rfl rfl rfl ((q_extract rfl rfl rfl)) (sr rfl rfl rfl ((q_assign rfl rfl)) (sr rfl rfl rfl ((q_assign rfl rfl)) (sw_nil (post_then (cw_seq (cw_seq (cw_region (sr rfl rfl rfl ((q_move rfl rfl)) (sr rfl rfl rfl ((q_neq rfl rfl rfl)) (sr rfl rfl rfl ((q_move rfl rfl)) (sr rfl rfl rfl ((q_move rfl rfl)) (sr rfl rfl rfl ((q_neq rfl rfl rfl)) (sr rfl rfl rfl ((q_or2 rfl rfl rfl)) (sr rfl rfl rfl ((q_move rfl rfl)) (sr rfl rfl rfl ((q_move rfl rfl)) (sr rfl rfl rfl ((q_neq rfl rfl rfl)) (sr rfl rfl rfl ((q_or2 rfl rfl rfl)) (sr rfl rfl rfl ((q_move rfl rfl)) (sr rfl rfl rfl ((q_move rfl rfl)) (sr rfl rfl rfl ((q_neq rfl rfl rfl)) (sr rfl rfl rfl ((q_or2 rfl rfl rfl)) (sr rfl rfl rfl ((q_move rfl rfl)) (sr rfl rfl rfl ((q_move rfl rfl)) (sr rfl rfl rfl ((q_neq rfl rfl rfl)) (sr rfl rfl rfl ((q_or2 rfl rfl rfl)) (sr rfl rfl rfl ((q_move rfl rfl)) (sr rfl rfl rfl ((q_move rfl rfl)) (sr rfl rfl rfl ((q_not rfl rfl)) (sr rfl rfl rfl ((q_or2 rfl rfl rfl)) (sr rfl rfl rfl ((q_move rfl rfl)) (sr rfl rfl rfl ((q_move rfl rfl)) ?_)))))))))))))))))))))))))))))))))
  refine sr rfl rfl rfl ((q_len rfl (.cons rfl inferInstance (.nil)) (by exact fun w hw => rd_own hw (by exact .tail _ (.tail _ (.tail _ (.tail _ (.tail _ (.tail _ (.tail _ (.tail _ (.head _)))))))))))) ?_
  refine sr rfl rfl rfl ((q_neq rfl rfl rfl)) (sr rfl rfl rfl ((q_or2 rfl rfl rfl)) (sw_nil (post_then ?_)))
  refine cw_cond rfl (fun h => ?_) (fun h => ?_)
  · skip
    simp at h
  · skip
    clear h
    have hn2 : (nth [q1, (⟨u2, 20, l2⟩ : Sq)] 1).cost = 20 := rfl
    refine cw_skip (post_then (cw_seq (cw_region (sr rfl rfl rfl ((q_fieldAddr rfl rfl)) ?_))))
    refine sr rfl rfl rfl ((q_loadC rfl rfl (by exact .tail _ (.tail _ (.tail _ (.tail _ (.tail _ (.tail _ (.tail _ (.tail _ (.tail _ (.head _)))))))))) rfl)) ?_
    refine sw_x rfl rfl rfl (e_buildL (α := Int) (l := [0, 1]) rfl (.cons rfl inferInstance (.cons rfl inferInstance (.nil))) rfl rfl rfl rfl) (fun s104 => ?_)
    refine sw_step rfl rfl rfl (q_call (v := .bool true) (CanCall.mk Tryz.call23) rfl (.cons rfl inferInstance (.cons rfl inferInstance (.nil))) (fun _ w1 hw => callq hw (same_true _ _ [0, 1] [0, 1] rfl w1 (stb_own (e := 3) hw (by exact .tail _ (.tail _ (.tail _ (.tail _ (.tail _ (.tail _ (.tail _ (.tail _ (.tail _ (.tail _ (.tail _ (.tail _ (.tail _ (.head _))))))))))))))) (stb_own (e := 3) hw (by exact .head _))))) ?_
    refine sr rfl rfl rfl ((q_move rfl rfl)) (sr rfl rfl rfl ((q_fieldAddr rfl rfl)) ?_)
    refine sr rfl rfl rfl ((q_loadC rfl rfl (by exact .tail _ (.tail _ (.tail _ (.tail _ (.tail _ (.tail _ (.tail _ (.tail _ (.tail _ (.tail _ (.head _))))))))))) rfl)) ?_
    refine sr rfl rfl rfl ((q_eql rfl rfl rfl)) (sr rfl rfl rfl ((q_and2 rfl rfl rfl)) (sr rfl rfl rfl ((q_move rfl rfl)) (sr rfl rfl rfl ((q_move rfl rfl)) ?_)))
    refine sw_xc rfl (by first | (simp [AllT]; done) | simp [AllT, *]) rfl rfl (e_buildLc (α := Int) (l := [0, 0, 20]) rfl (.cons rfl inferInstance (.cons rfl inferInstance (.cons rfl inferInstance (.nil)))) rfl rfl rfl rfl) (fun s113 => ?_)
    refine sw_xc rfl (by first | (simp [AllT]; done) | simp [AllT, *]) rfl rfl (e_buildLc (α := Int) (l := [0, 0, 0]) rfl (.cons rfl inferInstance (.cons rfl inferInstance (.cons rfl inferInstance (.nil)))) rfl rfl rfl rfl) (fun s114 => ?_)
    refine sw_xc rfl (by first | (simp [AllT]; done) | simp [AllT, *]) rfl rfl (e_buildLc (α := SlV) (l := [s113, s114]) rfl (.cons rfl inferInstance (.cons rfl inferInstance (.nil))) rfl rfl rfl rfl) (fun s115 => ?_)
    refine sw_step rfl rfl rfl (q_call (v := .bool true) (CanCall.mk Tryz.call24) rfl (.cons rfl inferInstance (.cons rfl inferInstance (.nil))) (fun _ w1 hw => callq hw (sameL_true _ _ (rowsTo sc 3 2 2) [s113, s114] [[0, 0, 20], [0, 0, 0]] [[0, 0, 20], [0, 0, 0]] rfl w1 (ex_rows (stb_own (e := 28) hw (by exact .tail _ (.tail _ (.tail _ (.tail _ (.tail _ (.tail _ (.tail _ (.tail _ (.tail _ (.tail _ (.tail _ (.tail _ (.tail _ (.tail _ (.head _)))))))))))))))) (stb_own (e := 3) hw (by exact .tail _ (.tail _ (.tail _ (.tail _ (.tail _ (.tail _ (.tail _ (.tail _ (.tail _ (.tail _ (.tail _ (.tail _ (.tail _ (.tail _ (.tail _ (.head _)))))))))))))))))) (mt_own hw (e := 28) (by exact .head _) rfl (fun i hi => by match i, hi with | 0, _ => exact ⟨3, (by exact .tail _ (.tail _ (.head _)))⟩ | 1, _ => exact ⟨3, (by exact .tail _ (.head _))⟩))))) ?_
    refine sr rfl rfl rfl ((q_and2 rfl rfl rfl)) (sr rfl rfl rfl ((q_move rfl rfl)) (sr rfl rfl rfl ((q_move rfl rfl)) ?_))
    refine sr rfl rfl rfl ((q_indexN rfl rfl rfl (by exact fun w hw => rd_own hw (by exact .tail _ (.tail _ (.tail _ (.tail _ (.tail _ (.tail _ (.tail _ (.tail _ (.tail _ (.tail _ (.tail _ (.tail _ (.head _)))))))))))))) (by intro hc; (simp only [List.length_set, List.length_append, List.length_cons, List.length_nil, List.length_replicate, List.length_take, List.length_drop, List.length_map]; omega)))) ?_
    refine sr rfl rfl rfl ((q_fieldEl rfl rfl (by exact fun w hw => rd_own hw (by exact .tail _ (.tail _ (.tail _ (.tail _ (.tail _ (.tail _ (.tail _ (.tail _ (.tail _ (.tail _ (.tail _ (.tail _ (.head _)))))))))))))) (by intro hc; (simp only [List.length_set, List.length_append, List.length_cons, List.length_nil, List.length_replicate, List.length_take, List.length_drop, List.length_map]; omega)))) ?_
    refine sr rfl rfl rfl ((q_loadF rfl rfl rfl (by exact fun w hw => rd_own hw (by exact .tail _ (.tail _ (.tail _ (.tail _ (.tail _ (.tail _ (.tail _ (.tail _ (.tail _ (.tail _ (.tail _ (.tail _ (.head _)))))))))))))) (by intro hc; (simp only [List.length_set, List.length_append, List.length_cons, List.length_nil, List.length_replicate, List.length_take, List.length_drop, List.length_map]; omega)) rfl)) ?_
    refine sr rfl rfl rfl ((q_eql rfl rfl rfl)) (sr rfl rfl rfl ((q_and2 rfl rfl rfl)) (sr rfl rfl rfl ((q_move rfl rfl)) (sr rfl rfl rfl ((q_move rfl rfl)) ?_)))
    refine sw_xc rfl (by first | (simp [AllT]; done) | simp [AllT, *]) rfl rfl (e_buildLc (α := Int) (l := [2, 1]) rfl (.cons rfl inferInstance (.cons rfl inferInstance (.nil))) rfl rfl rfl rfl) (fun s127 => ?_)
    refine sw_step rfl rfl rfl (q_call (v := .bool true) (CanCall.mk Tryz.call23) rfl (.cons rfl inferInstance (.cons rfl inferInstance (.nil))) (fun _ w1 hw => callq hw (same_true _ _ [2, 1] [2, 1] rfl w1 (stb_own (e := 3) hw (by exact .tail _ (.tail _ (.tail _ (.tail _ (.tail _ (.tail _ (.tail _ (.tail _ (.tail _ (.tail _ (.tail _ (.tail _ (.head _)))))))))))))) (stb_own (e := 3) hw (by exact .head _))))) ?_
    refine sr rfl rfl rfl ((q_and2 rfl rfl rfl)) (sr rfl rfl rfl ((q_move rfl rfl)) (sr rfl rfl rfl ((q_move rfl rfl)) (sr rfl rfl rfl ((q_eql rfl rfl rfl)) (sr rfl rfl rfl ((q_and2 rfl rfl rfl)) (sr rfl rfl rfl ((q_move rfl rfl)) (sr rfl rfl rfl ((q_move rfl rfl)) ?_))))))
    refine sw_xc rfl (by first | (simp [AllT]; done) | simp [AllT, *]) rfl rfl (e_buildLc (α := Int) (l := [0, 1]) rfl (.cons rfl inferInstance (.cons rfl inferInstance (.nil))) rfl rfl rfl rfl) (fun s136 => ?_)
    refine sw_step rfl rfl rfl (q_call (v := .bool true) (CanCall.mk Tryz.call23) rfl (.cons rfl inferInstance (.cons rfl inferInstance (.nil))) (fun _ w1 hw => callq hw (same_true _ _ [0, 1] [0, 1] rfl w1 (stb_own (e := 3) hw (by exact .tail _ (.tail _ (.tail _ (.tail _ (.tail _ (.tail _ (.tail _ (.head _))))))))) (stb_own (e := 3) hw (by exact .head _))))) ?_
    refine sr rfl rfl rfl ((q_and2 rfl rfl rfl)) (sr rfl rfl rfl ((q_move rfl rfl)) (sr rfl rfl rfl ((q_move rfl rfl)) (sr rfl rfl rfl ((q_eql rfl rfl rfl)) (sr rfl rfl rfl ((q_and2 rfl rfl rfl)) (sr rfl rfl rfl ((q_move rfl rfl)) (sr rfl rfl rfl ((q_move rfl rfl)) (sr rfl rfl rfl ((q_eql rfl rfl rfl)) (sr rfl rfl rfl ((q_and2 rfl rfl rfl)) (sr rfl rfl rfl ((q_assign rfl rfl)) (sw_nil (post_then (cw_ret (post_ret1 rfl (resOk_tmp rfl) ?_)))))))))))))
    exact fun w' hw => ⟨rfl, (fun w h => Cl.sel (by exact .nil _) w h) _ hw⟩
end Go.Proofs.YtomjbfeafodfbaaGreat

set_option autoImplicit false
set_option maxRecDepth 100000
namespace Go.Proofs.YtomjbfeafodfbaaGreat
open Go.Sx
open Enc (enc val)
def shortB (s : ByteArray) : Bool := decide ((s.size : Int) ≤ 12)
theorem short_spec (s : ByteArray) (w : World) : Calls Tryz.prog 62 #[.string s] w fun e w' => e = .returned (.bool (shortB s)) ∧ Cl w [] [] w' := by
  refine calls_cw (vs := [_]) Tryz.func62 rfl Tryz.ntmps62 rfl (Cl.start0 w) (cw_seq (cw_region (sr rfl rfl rfl ((q_assign rfl rfl)) (sw_nil (post_then (cw_seq (cw_region (sr rfl rfl rfl ((q_move rfl rfl)) (sr rfl rfl rfl ((q_lenS rfl (.cons rfl inferInstance (.nil)) Tryz.underlying9)) (sr rfl rfl rfl ((q_leq rfl rfl rfl)) (sr rfl rfl rfl ((q_assign rfl rfl)) (sw_nil (post_then (cw_ret (post_ret1 rfl (resOk_tmp rfl) ?_)))))))))))))))
  exact fun w' hw => ⟨rfl, hw⟩
def smallU (u : Un) : Bool := shortB u.phone && shortB u.before && shortB u.after && decide (u.bl.length ≤ 50) && decide (u.el.length ≤ 50)
def smallT (t : Wan) : Bool := shortB t.phone && shortB t.before && shortB t.after
def sizesB (p : List Un) (tgt : List Wan) (mu mt : Int) : Bool := decide (((p.length : Int) ≤ mu ∨ 2000 < p.length) ∧ p.length ≤ 2100 ∧ ((tgt.length : Int) ≤ mt ∨ 500 < tgt.length) ∧ tgt.length ≤ 600)
def smallB (p : List Un) (tgt : List Wan) (mu mt : Int) : Bool := sizesB p tgt mu mt && p.all smallU && tgt.all smallT
structure VoIn (w : World) (sp : SlV) (p : List Un) : Prop where
  l : RdL sp.v p w
  u : ∀ u ∈ p, UnIn u w
theorem VoIn.stb {w : World} {sp : SlV} {p : List Un} (h : VoIn w sp p) : Stb w [] (fun w' => VoIn w' sp p) := ⟨fun w' k => ⟨(rd_stb h.l).stb w' k, fun u hu => ⟨(h.u u hu).s1, (h.u u hu).s2, (h.u u hu).s3, (rd_stb (h.u u hu).b).stb w' k, (rd_stb (h.u u hu).e).stb w' k⟩⟩⟩
theorem small_vo {w : World} {sp : SlV} {p : List Un} {tgt : List Wan} {mu mt : Int} (h : VoIn w sp p) (hs : smallB p tgt mu mt = true) : VoRd w sp p := by
  simp only [smallB, Bool.and_eq_true] at hs
  refine ⟨rd_stb h.l, fun u hu => ?_⟩
  have h1 := List.all_eq_true.1 hs.1.2 u hu
  simp only [smallU, shortB, Bool.and_eq_true, decide_eq_true_eq] at h1
  have h2 := h.u u hu
  exact ⟨by omega, by omega, by omega, rd_stb h2.b, rd_stb h2.e⟩
theorem small_ta {p : List Un} {tgt : List Wan} {mu mt : Int} (hs : smallB p tgt mu mt = true) : ∀ t ∈ tgt, WaRd t := by
  simp only [smallB, Bool.and_eq_true] at hs
  intro t ht
  have h1 := List.all_eq_true.1 hs.2 t ht
  simp only [smallT, shortB, Bool.and_eq_true, decide_eq_true_eq] at h1
  exact ⟨by omega, by omega, by omega⟩
theorem small_n {p : List Un} {tgt : List Wan} {mu mt : Int} (hs : smallB p tgt mu mt = true) : ((p.length : Int) ≤ mu ∨ 2000 < p.length) ∧ ((tgt.length : Int) ≤ mt ∨ 500 < tgt.length) ∧ p.length ≤ 2100 ∧ tgt.length ≤ 600 := by
  simp only [smallB, sizesB, Bool.and_eq_true, decide_eq_true_eq] at hs
  exact ⟨hs.1.1.1, hs.1.1.2.2.1, hs.1.1.2.1, hs.1.1.2.2.2⟩
theorem small_spec (sp tp : SlV) (p : List Un) (tgt : List Wan) (mu mt : Int) (w : World) (hvo : VoIn w sp p) (htp : Stb w [] (RdL tp.v tgt)) : Calls Tryz.prog 17 #[sp.v, tp.v, .int .i64 mu, .int .i64 mt] w fun e w' => e = .returned (.bool (smallB p tgt mu mt)) ∧ Cl w [] [] w' := by
  have h1 : Stb w [] (RdL sp.v p) := rd_stb hvo.l
  have hL := rd_len hvo.l
  have hL2 := rd_len htp.here
  refine calls_cw (vs := [_, _, _, _]) Tryz.func17 rfl Tryz.ntmps17 rfl (Cl.start0 w) (cw_seq (cw_region (sr rfl rfl rfl ((q_assign rfl rfl)) (sw_nil (post_then (cw_seq (cw_seq (cw_region (sr rfl rfl rfl ((q_move rfl rfl)) ?_)))))))))
  refine sr rfl rfl rfl ((q_len rfl (.cons rfl inferInstance (.nil)) (by exact fun w hw => Stb.cl (by assumption) hw))) ?_
  refine sr rfl rfl rfl ((q_move rfl rfl)) (sr rfl rfl rfl ((q_gtr rfl rfl rfl)) (sr rfl rfl rfl ((q_move rfl rfl)) (sr rfl rfl rfl ((q_move rfl rfl)) ?_)))
  refine sr rfl rfl rfl ((q_len rfl (.cons rfl inferInstance (.nil)) (by exact fun w hw => Stb.cl (by assumption) hw))) ?_
  refine sr rfl rfl rfl ((q_leq rfl rfl rfl)) (sr rfl rfl rfl ((q_and2 rfl rfl rfl)) (sr rfl rfl rfl ((q_move rfl rfl)) (sr rfl rfl rfl ((q_move rfl rfl)) ?_)))
  refine sr rfl rfl rfl ((q_len rfl (.cons rfl inferInstance (.nil)) (by exact fun w hw => Stb.cl (by assumption) hw))) ?_
  refine sr rfl rfl rfl ((q_gtr rfl rfl rfl)) (sr rfl rfl rfl ((q_or2 rfl rfl rfl)) (sr rfl rfl rfl ((q_move rfl rfl)) (sr rfl rfl rfl ((q_move rfl rfl)) ?_)))
  refine sr rfl rfl rfl ((q_len rfl (.cons rfl inferInstance (.nil)) (by exact fun w hw => Stb.cl (by assumption) hw))) ?_
  refine sr rfl rfl rfl ((q_move rfl rfl)) (sr rfl rfl rfl ((q_gtr rfl rfl rfl)) (sr rfl rfl rfl ((q_move rfl rfl)) (sr rfl rfl rfl ((q_move rfl rfl)) ?_)))
  refine sr rfl rfl rfl ((q_len rfl (.cons rfl inferInstance (.nil)) (by exact fun w hw => Stb.cl (by assumption) hw))) ?_
  refine sr rfl rfl rfl ((q_leq rfl rfl rfl)) (sr rfl rfl rfl ((q_and2 rfl rfl rfl)) (sr rfl rfl rfl ((q_or2 rfl rfl rfl)) (sr rfl rfl rfl ((q_move rfl rfl)) (sr rfl rfl rfl ((q_move rfl rfl)) ?_))))
  refine sr rfl rfl rfl ((q_len rfl (.cons rfl inferInstance (.nil)) (by exact fun w hw => Stb.cl (by assumption) hw))) ?_
  refine sr rfl rfl rfl ((q_gtr rfl rfl rfl)) (sr rfl rfl rfl ((q_or2 rfl rfl rfl)) (sw_nil (post_then ?_)))
  refine cw_cond rfl (fun h => ?_) (fun h => ?_)
  · skip
    have h2 : sizesB p tgt mu mt = false := by
      simp only [sizesB, decide_eq_false_iff_not]
      simp only [Bool.or_eq_true, Bool.and_eq_true, decide_eq_true_eq] at h
      omega
    refine cw_seq (cw_region (sr rfl rfl rfl ((q_assign rfl rfl)) (sw_nil (post_then (cw_ret (post_then_r (post_ret1 rfl (resOk_tmp rfl) ?_)))))))
    exact fun w' hw => ⟨by rw [smallB, h2]; rfl, hw⟩
  · skip
    have h2 : sizesB p tgt mu mt = true := by
      simp only [sizesB, decide_eq_true_eq]
      simp only [Bool.or_eq_false_iff, Bool.and_eq_false_iff, decide_eq_false_iff_not] at h
      omega
    have hno : ∀ {b : Bool}, b = false → (sizesB p tgt mu mt && p.all smallU && b) = false := fun h => by rw [h, Bool.and_false]
    refine cw_skip (post_then (cw_seq (cw_seq (cw_region (sr rfl rfl rfl ((q_assign rfl rfl)) (sw_nil (post_then (cw_block ?_))))))))
    refine cw_loop (S := Nat) (fun k => [(0, [], sp.v), (1, [], tp.v), (9, [], .int .i64 k)]) (fun _ => Cl w [] []) (fun k => k ≤ p.length ∧ ∀ j, j < k → smallU (nth p j) = true) (fun k => p.length - k) 0 ⟨Nat.zero_le _, fun j hj => by omega⟩ (by exact .cons rfl (.cons rfl (.cons rfl .nil))) (fun _ h => h) ?_
    rintro k ⟨hk, he⟩
    refine cw_seq (cw_seq (cw_region (sr rfl rfl rfl ((q_move rfl rfl)) (sr rfl rfl rfl ((q_move rfl rfl)) ?_))))
    refine sr rfl rfl rfl ((q_len rfl (.cons rfl inferInstance (.nil)) (by exact fun w hw => Stb.cl (by assumption) hw))) ?_
    refine sr rfl rfl rfl ((q_lss rfl rfl rfl)) (sw_nil (post_then ?_))
    refine cw_cond rfl (fun h3 => ?_) (fun h3 => ?_)
    · skip
      have hk' : k < p.length := by simp only [decide_eq_true_eq] at h3; omega
      have hin := hvo.u _ (nth_mem hk')
      have l1 : (nth p k).bs.len = (nth p k).bl.length := (rd_lens hin.b).1
      have l2 : (nth p k).es.len = (nth p k).el.length := (rd_lens hin.e).1
      refine cw_skip (post_then (cw_seq (cw_block (cw_seq (cw_region (sr rfl rfl rfl ((q_move rfl rfl)) (sr rfl rfl rfl ((q_move rfl rfl)) ?_)))))))
      refine sr rfl rfl rfl ((q_indexN rfl rfl rfl (by exact fun w hw => Stb.cl (by assumption) hw) (by intro hc; omega))) ?_
      refine sr rfl rfl rfl ((q_loadEl rfl rfl rfl (by exact fun w hw => Stb.cl (by assumption) hw) (by intro hc; omega))) ?_
      refine sw_x rfl rfl rfl (e_alloc rfl) (fun b10 => ?_)
      refine sw_eff0 rfl rfl (e_store (i := 0) rfl rfl rfl rfl rfl rfl rfl rfl) (sw_nil (post_then (cw_seq (cw_region (sr rfl rfl rfl ((q_fieldAddr rfl rfl)) ?_)))))
      refine sr rfl rfl rfl ((q_loadC rfl rfl (by exact .head _) rfl)) ?_
      refine sw_step rfl rfl rfl (q_call (CanCall.mk Tryz.call62) rfl (.cons rfl inferInstance (.nil)) (fun _ w hw => callq hw (short_spec _ w))) (sr rfl rfl rfl ((q_not rfl rfl)) (sr rfl rfl rfl ((q_move rfl rfl)) (sr rfl rfl rfl ((q_fieldAddr rfl rfl)) ?_)))
      refine sr rfl rfl rfl ((q_loadC rfl rfl (by exact .head _) rfl)) ?_
      refine sw_step rfl rfl rfl (q_call (CanCall.mk Tryz.call62) rfl (.cons rfl inferInstance (.nil)) (fun _ w hw => callq hw (short_spec _ w))) (sr rfl rfl rfl ((q_not rfl rfl)) (sr rfl rfl rfl ((q_or2 rfl rfl rfl)) (sr rfl rfl rfl ((q_move rfl rfl)) (sr rfl rfl rfl ((q_fieldAddr rfl rfl)) ?_))))
      refine sr rfl rfl rfl ((q_loadC rfl rfl (by exact .head _) rfl)) ?_
      refine sw_step rfl rfl rfl (q_call (CanCall.mk Tryz.call62) rfl (.cons rfl inferInstance (.nil)) (fun _ w hw => callq hw (short_spec _ w))) (sr rfl rfl rfl ((q_not rfl rfl)) (sr rfl rfl rfl ((q_or2 rfl rfl rfl)) (sr rfl rfl rfl ((q_move rfl rfl)) (sr rfl rfl rfl ((q_fieldAddr rfl rfl)) ?_))))
      refine sr rfl rfl rfl ((q_loadC rfl rfl (by exact .head _) rfl)) ?_
      refine sr rfl rfl rfl ((q_lenV rfl (.cons rfl inferInstance (.nil)))) (sr rfl rfl rfl ((q_gtr rfl rfl rfl)) (sr rfl rfl rfl ((q_or2 rfl rfl rfl)) (sr rfl rfl rfl ((q_move rfl rfl)) (sr rfl rfl rfl ((q_fieldAddr rfl rfl)) ?_))))
      refine sr rfl rfl rfl ((q_loadC rfl rfl (by exact .head _) rfl)) ?_
      refine sr rfl rfl rfl ((q_lenV rfl (.cons rfl inferInstance (.nil)))) (sr rfl rfl rfl ((q_gtr rfl rfl rfl)) (sr rfl rfl rfl ((q_or2 rfl rfl rfl)) (sw_nil (post_then ?_))))
      rw [l1, l2]
      refine cw_cond rfl (fun h4 => ?_) (fun h4 => ?_)
      · skip
        have h5 : smallU (nth p k) = false := by
          simp only [Bool.or_eq_true, Bool.not_eq_true', decide_eq_true_eq] at h4
          simp only [smallU, Bool.and_eq_false_iff, decide_eq_false_iff_not]
          rcases h4 with (((h4 | h4) | h4) | h4) | h4
          · exact .inl (.inl (.inl (.inl h4)))
          · exact .inl (.inl (.inl (.inr h4)))
          · exact .inl (.inl (.inr h4))
          · exact .inl (.inr (by omega))
          · exact .inr (by omega)
        have h6 : p.all smallU = false := List.all_eq_false.2 ⟨nth p k, nth_mem hk', by rw [h5]; decide⟩
        refine cw_seq (cw_region (sr rfl rfl rfl ((q_assign rfl rfl)) (sw_nil (post_then (cw_ret (post_blk_r (post_then_r (post_then_r (post_blk_r (post_then_r (post_ret1 rfl (resOk_tmp rfl) ?_)))))))))))
        exact fun w' hw => ⟨by rw [smallB, h6, Bool.and_false]; rfl, (fun w h => Cl.sel (by exact .nil _) w h) _ hw⟩
      · skip
        have h5 : smallU (nth p k) = true := by
          simp only [Bool.or_eq_false_iff, Bool.not_eq_false', decide_eq_false_iff_not] at h4
          obtain ⟨⟨⟨⟨a1, a2⟩, a3⟩, a4⟩, a5⟩ := h4
          simp only [smallU, a1, a2, a3, Bool.and_eq_true, decide_eq_true_eq, true_and]
          omega
        refine cw_skip (post_blk (post_then (cw_region (sr rfl rfl rfl ((q_move rfl rfl)) ?_))))
        refine sr rfl rfl rfl ((q_add rfl rfl rfl (by intro hc; omega))) ?_
        refine sr rfl rfl rfl ((q_assign rfl rfl)) (sw_nil ?_)
        refine post_next (k + 1) (by exact .cons rfl (.cons rfl (.cons rfl .nil))) (fun w h => Cl.sel (by exact .nil _) w h) ⟨by omega, fun j hj => ?_⟩ (by omega)
        by_cases e : j = k
        · subst e; exact h5
        · exact he j (by omega)
    · skip
      have hk' : k = p.length := by simp only [decide_eq_false_iff_not] at h3; omega
      subst hk'
      have h6 : p.all smallU = true := List.all_eq_true.2 fun u hu => by
        obtain ⟨j, hj, rfl⟩ := List.getElem_of_mem hu
        have := he j hj
        rwa [nth_get hj] at this
      refine cw_exit (post_then_x (post_then_x (post_blk_eq (post_then (cw_seq (cw_seq (cw_region (sr rfl rfl rfl ((q_assign rfl rfl)) (sw_nil (post_then (cw_block ?_)))))))))))
      refine cw_loop (S := Nat) (fun k => [(1, [], tp.v), (11, [], .int .i64 k)]) (fun _ => Cl w [] []) (fun k => k ≤ tgt.length ∧ ∀ j, j < k → smallT (nth tgt j) = true) (fun k => tgt.length - k) 0 ⟨Nat.zero_le _, fun j hj => by omega⟩ (by exact .cons rfl (.cons rfl .nil)) (fun _ h => h) ?_
      rintro k ⟨hk, he2⟩
      refine cw_seq (cw_seq (cw_region (sr rfl rfl rfl ((q_move rfl rfl)) (sr rfl rfl rfl ((q_move rfl rfl)) ?_))))
      refine sr rfl rfl rfl ((q_len rfl (.cons rfl inferInstance (.nil)) (by exact fun w hw => Stb.cl (by assumption) hw))) ?_
      refine sr rfl rfl rfl ((q_lss rfl rfl rfl)) (sw_nil (post_then ?_))
      refine cw_cond rfl (fun h4 => ?_) (fun h4 => ?_)
      · skip
        have hk' : k < tgt.length := by simp only [decide_eq_true_eq] at h4; omega
        refine cw_skip (post_then (cw_seq (cw_block (cw_seq (cw_region (sr rfl rfl rfl ((q_move rfl rfl)) (sr rfl rfl rfl ((q_move rfl rfl)) ?_)))))))
        refine sr rfl rfl rfl ((q_indexN rfl rfl rfl (by exact fun w hw => Stb.cl (by assumption) hw) (by intro hc; omega))) ?_
        refine sr rfl rfl rfl ((q_fieldEl rfl rfl (by exact fun w hw => Stb.cl (by assumption) hw) (by intro hc; omega))) ?_
        refine sr rfl rfl rfl ((q_loadF rfl rfl rfl (by exact fun w hw => Stb.cl (by assumption) hw) (by intro hc; omega) rfl)) ?_
        refine sw_step rfl rfl rfl (q_call (CanCall.mk Tryz.call62) rfl (.cons rfl inferInstance (.nil)) (fun _ w hw => callq hw (short_spec _ w))) (sr rfl rfl rfl ((q_not rfl rfl)) (sr rfl rfl rfl ((q_move rfl rfl)) (sr rfl rfl rfl ((q_move rfl rfl)) (sr rfl rfl rfl ((q_move rfl rfl)) ?_))))
        refine sr rfl rfl rfl ((q_indexN rfl rfl rfl (by exact fun w hw => Stb.cl (by assumption) hw) (by intro hc; omega))) ?_
        refine sr rfl rfl rfl ((q_fieldEl rfl rfl (by exact fun w hw => Stb.cl (by assumption) hw) (by intro hc; omega))) ?_
        refine sr rfl rfl rfl ((q_loadF rfl rfl rfl (by exact fun w hw => Stb.cl (by assumption) hw) (by intro hc; omega) rfl)) ?_
        refine sw_step rfl rfl rfl (q_call (CanCall.mk Tryz.call62) rfl (.cons rfl inferInstance (.nil)) (fun _ w hw => callq hw (short_spec _ w))) (sr rfl rfl rfl ((q_not rfl rfl)) (sr rfl rfl rfl ((q_or2 rfl rfl rfl)) (sr rfl rfl rfl ((q_move rfl rfl)) (sr rfl rfl rfl ((q_move rfl rfl)) (sr rfl rfl rfl ((q_move rfl rfl)) ?_)))))
        refine sr rfl rfl rfl ((q_indexN rfl rfl rfl (by exact fun w hw => Stb.cl (by assumption) hw) (by intro hc; omega))) ?_
        refine sr rfl rfl rfl ((q_fieldEl rfl rfl (by exact fun w hw => Stb.cl (by assumption) hw) (by intro hc; omega))) ?_
        refine sr rfl rfl rfl ((q_loadF rfl rfl rfl (by exact fun w hw => Stb.cl (by assumption) hw) (by intro hc; omega) rfl)) ?_
        refine sw_step rfl rfl rfl (q_call (CanCall.mk Tryz.call62) rfl (.cons rfl inferInstance (.nil)) (fun _ w hw => callq hw (short_spec _ w))) (sr rfl rfl rfl ((q_not rfl rfl)) (sr rfl rfl rfl ((q_or2 rfl rfl rfl)) (sw_nil (post_then ?_))))
        refine cw_cond rfl (fun h5 => ?_) (fun h5 => ?_)
        · skip
          have h7 : smallT (nth tgt k) = false := by
            simp only [Bool.or_eq_true, Bool.not_eq_true'] at h5
            simp only [smallT, Bool.and_eq_false_iff]
            exact h5
          have h8 : tgt.all smallT = false := List.all_eq_false.2 ⟨nth tgt k, nth_mem hk', by rw [h7]; decide⟩
          refine cw_seq (cw_region (sr rfl rfl rfl ((q_assign rfl rfl)) (sw_nil (post_then (cw_ret (post_blk_r (post_then_r (post_then_r (post_blk_r (post_then_r (post_ret1 rfl (resOk_tmp rfl) ?_)))))))))))
          exact fun w' hw => ⟨by rw [smallB, h8, Bool.and_false], (fun w h => Cl.sel (by exact .nil _) w h) _ hw⟩
        · skip
          have h7 : smallT (nth tgt k) = true := by
            simp only [Bool.or_eq_false_iff, Bool.not_eq_false'] at h5
            simp only [smallT, Bool.and_eq_true]
            exact h5
          refine cw_skip (post_blk (post_then (cw_region (sr rfl rfl rfl ((q_move rfl rfl)) ?_))))
          refine sr rfl rfl rfl ((q_add rfl rfl rfl (by intro hc; omega))) ?_
          refine sr rfl rfl rfl ((q_assign rfl rfl)) (sw_nil ?_)
          refine post_next (k + 1) (by exact .cons rfl (.cons rfl .nil)) (fun w h => Cl.sel (by exact .nil _) w h) ⟨by omega, fun j hj => ?_⟩ (by omega)
          by_cases e : j = k
          · subst e; exact h7
          · exact he2 j (by omega)
      · skip
        have hk' : k = tgt.length := by simp only [decide_eq_false_iff_not] at h4; omega
        subst hk'
        have h8 : tgt.all smallT = true := List.all_eq_true.2 fun u hu => by
          obtain ⟨j, hj, rfl⟩ := List.getElem_of_mem hu
          have := he2 j hj
          rwa [nth_get hj] at this
        refine cw_exit (post_then_x (post_then_x (post_blk_eq (post_then (cw_seq (cw_region (sr rfl rfl rfl ((q_assign rfl rfl)) (sw_nil (post_then (cw_ret (post_ret1 rfl (resOk_tmp rfl) ?_)))))))))))
        exact fun w' hw => ⟨by rw [smallB, h2, h6, h8]; rfl, hw⟩
theorem refAll_spec (tp : SlV) (tgt : List Wan) (w : World) (htp : Stb w [] (RdL tp.v tgt)) (hwa : ∀ t ∈ tgt, WaRd t) : Calls Tryz.prog 68 #[tp.v] w fun e w' => e = .returned (.bool (tgt.all waB)) ∧ Cl w [] [] w' := by
  have hL2 := rd_len htp.here
  refine calls_cw (vs := [_]) Tryz.func68 rfl Tryz.ntmps68 rfl (Cl.start0 w) (cw_seq (cw_region (sr rfl rfl rfl ((q_assign rfl rfl)) (sw_nil (post_then (cw_seq (cw_seq (cw_region (sr rfl rfl rfl ((q_assign rfl rfl)) (sw_nil (post_then (cw_block ?_))))))))))))
  refine cw_loop (S := Nat) (fun k => [(0, [], tp.v), (3, [], .int .i64 k)]) (fun _ => Cl w [] []) (fun k => k ≤ tgt.length ∧ ∀ j, j < k → waB (nth tgt j) = true) (fun k => tgt.length - k) 0 ⟨Nat.zero_le _, fun j hj => by omega⟩ (by exact .cons rfl (.cons rfl .nil)) (fun _ h => h) ?_
  rintro k ⟨hk, he⟩
  refine cw_seq (cw_seq (cw_region (sr rfl rfl rfl ((q_move rfl rfl)) (sr rfl rfl rfl ((q_move rfl rfl)) ?_))))
  refine sr rfl rfl rfl ((q_len rfl (.cons rfl inferInstance (.nil)) (by exact fun w hw => Stb.cl (by assumption) hw))) ?_
  refine sr rfl rfl rfl ((q_lss rfl rfl rfl)) (sw_nil (post_then ?_))
  refine cw_cond rfl (fun h => ?_) (fun h => ?_)
  · skip
    have hk' : k < tgt.length := by simp only [decide_eq_true_eq] at h; omega
    have hwk := hwa _ (nth_mem hk')
    refine cw_skip (post_then (cw_seq (cw_block (cw_seq (cw_region (sr rfl rfl rfl ((q_move rfl rfl)) (sr rfl rfl rfl ((q_move rfl rfl)) ?_)))))))
    refine sr rfl rfl rfl ((q_indexN rfl rfl rfl (by exact fun w hw => Stb.cl (by assumption) hw) (by intro hc; omega))) ?_
    refine sr rfl rfl rfl ((q_loadEl rfl rfl rfl (by exact fun w hw => Stb.cl (by assumption) hw) (by intro hc; omega))) ?_
    refine sw_step rfl rfl rfl (q_call (CanCall.mk Tryz.call47) rfl (.cons rfl inferInstance (.nil)) (fun _ w hw => callq hw (refWanted_spec (nth tgt k) w hwk))) (sr rfl rfl rfl ((q_not rfl rfl)) (sw_nil (post_then ?_)))
    refine cw_cond rfl (fun h2 => ?_) (fun h2 => ?_)
    · skip
      have h3 : tgt.all waB = false := List.all_eq_false.2 ⟨nth tgt k, nth_mem hk', by simpa using h2⟩
      refine cw_seq (cw_region (sr rfl rfl rfl ((q_assign rfl rfl)) (sw_nil (post_then (cw_ret (post_blk_r (post_then_r (post_then_r (post_blk_r (post_then_r (post_ret1 rfl (resOk_tmp rfl) ?_)))))))))))
      exact fun w' hw => ⟨by rw [h3], hw⟩
    · skip
      refine cw_skip (post_blk (post_then (cw_region (sr rfl rfl rfl ((q_move rfl rfl)) ?_))))
      refine sr rfl rfl rfl ((q_add rfl rfl rfl (by intro hc; omega))) ?_
      refine sr rfl rfl rfl ((q_assign rfl rfl)) (sw_nil ?_)
      refine post_next (k + 1) (by exact .cons rfl (.cons rfl .nil)) (fun _ h => h) ⟨by omega, fun j hj => ?_⟩ (by omega)
      by_cases e : j = k
      · subst e; simpa using h2
      · exact he j (by omega)
  · skip
    have hk' : k = tgt.length := by simp only [decide_eq_false_iff_not] at h; omega
    subst hk'
    have h3 : tgt.all waB = true := List.all_eq_true.2 fun u hu => by
      obtain ⟨j, hj, rfl⟩ := List.getElem_of_mem hu
      have := he j hj
      rwa [nth_get hj] at this
    refine cw_exit (post_then_x (post_then_x (post_blk_eq (post_then (cw_seq (cw_region (sr rfl rfl rfl ((q_assign rfl rfl)) (sw_nil (post_then (cw_ret (post_ret1 rfl (resOk_tmp rfl) ?_)))))))))))
    exact fun w' hw => ⟨by rw [h3], hw⟩
theorem wrong_spec (sp tp : SlV) (p : List Un) (tgt : List Wan) (x : Wts) (w : World) (hvo : VoRd w sp p) (htp : Stb w [] (RdL tp.v tgt)) (hwa : ∀ t ∈ tgt, WaRd t) : Calls Tryz.prog 20 #[sp.v, tp.v, val x] w fun e w' => e = .returned (.int .i64 (beginE p tgt x)) ∧ Cl w [] [] w' := by
  have h1 := hvo.l
  refine calls_cw (vs := [_, _, _]) Tryz.func20 rfl Tryz.ntmps20 rfl (Cl.start0 w) (cw_seq (cw_region ?_))
  refine sw_x rfl rfl rfl (e_box rfl rfl rfl) (fun b5 => ?_)
  refine sr rfl rfl rfl ((q_assign rfl rfl)) (sw_nil (post_then (cw_seq (cw_seq (cw_region (sr rfl rfl rfl ((q_move rfl rfl)) ?_))))))
  refine sr rfl rfl rfl ((q_len rfl (.cons rfl inferInstance (.nil)) (by exact fun w hw => Stb.cl (by assumption) hw))) ?_
  refine sr rfl rfl rfl ((q_gtr rfl rfl rfl)) (sr rfl rfl rfl ((q_move rfl rfl)) (sr rfl rfl rfl ((q_move rfl rfl)) ?_))
  refine sr rfl rfl rfl ((q_len rfl (.cons rfl inferInstance (.nil)) (by exact fun w hw => Stb.cl (by assumption) hw))) ?_
  refine sr rfl rfl rfl ((q_gtr rfl rfl rfl)) (sr rfl rfl rfl ((q_or2 rfl rfl rfl)) (sw_nil (post_then ?_)))
  refine cw_cond rfl (fun h => ?_) (fun h => ?_)
  · skip
    have h2 : 2000 < p.length ∨ 500 < tgt.length := by
      simp only [Bool.or_eq_true, decide_eq_true_eq] at h; omega
    refine cw_seq (cw_region (sr rfl rfl rfl ((q_assign rfl rfl)) (sw_nil (post_then (cw_ret (post_then_r (post_ret1 rfl (resOk_tmp rfl) ?_)))))))
    exact fun w' hw => ⟨by rw [beginE, if_pos h2], (fun w h => Cl.sel (by exact .nil _) w h) _ hw⟩
  · skip
    have h2 : ¬ (2000 < p.length ∨ 500 < tgt.length) := by
      simp only [Bool.or_eq_false_iff, decide_eq_false_iff_not] at h; omega
    refine cw_skip (post_then (cw_seq (cw_seq (cw_region (sr rfl rfl rfl ((q_move rfl rfl)) (sw_step rfl rfl rfl (q_call (CanCall.mk Tryz.call28) rfl (.cons rfl inferInstance (.nil)) (fun _ w hw => callq hw (refVoice_spec sp p w (hvo.arg hw)))) (sr rfl rfl rfl ((q_not rfl rfl)) (sr rfl rfl rfl ((q_move rfl rfl)) (sr rfl rfl rfl ((q_move rfl rfl)) (sw_step rfl rfl rfl (q_call (CanCall.mk Tryz.call68) rfl (.cons rfl inferInstance (.nil)) (fun _ w hw => callq hw (refAll_spec tp tgt w (stb_arg hw htp) hwa))) (sr rfl rfl rfl ((q_not rfl rfl)) (sr rfl rfl rfl ((q_or2 rfl rfl rfl)) (sr rfl rfl rfl ((q_move rfl rfl)) ?_)))))))))))))
    refine sr rfl rfl rfl ((q_loadA rfl rfl (by exact .head _) rfl)) ?_
    refine sw_step rfl rfl rfl (q_call (CanCall.mk Tryz.call48) rfl (.cons rfl inferInstance (.nil)) (fun _ w hw => callq hw (refWeights_spec x w))) (sr rfl rfl rfl ((q_not rfl rfl)) (sr rfl rfl rfl ((q_or2 rfl rfl rfl)) (sw_nil (post_then ?_))))
    refine cw_cond rfl (fun h3 => ?_) (fun h3 => ?_)
    · skip
      have h4 : (voiceB p && tgt.all waB && wtB x) = false := by
        simp only [Bool.or_eq_true, Bool.not_eq_true'] at h3
        simp only [Bool.and_eq_false_iff]; exact h3
      refine cw_seq (cw_region (sr rfl rfl rfl ((q_assign rfl rfl)) (sw_nil (post_then (cw_ret (post_then_r (post_ret1 rfl (resOk_tmp rfl) ?_)))))))
      exact fun w' hw => ⟨by rw [beginE, if_neg h2, h4]; rfl, (fun w h => Cl.sel (by exact .nil _) w h) _ hw⟩
    · skip
      have h4 : (voiceB p && tgt.all waB && wtB x) = true := by
        simp only [Bool.or_eq_false_iff, Bool.not_eq_false'] at h3
        simp only [Bool.and_eq_true]; exact h3
      refine cw_skip (post_then (cw_seq (cw_region (sr rfl rfl rfl ((q_assign rfl rfl)) (sw_nil (post_then (cw_ret (post_ret1 rfl (resOk_tmp rfl) ?_))))))))
      exact fun w' hw => ⟨by rw [beginE, if_neg h2, h4]; rfl, (fun w h => Cl.sel (by exact .nil _) w h) _ hw⟩
end Go.Proofs.YtomjbfeafodfbaaGreat

set_option autoImplicit false
namespace Go.Proofs.YtomjbfeafodfbaaGreat
open Go.Sx
theorem vo_in {W : World} {s : SlV} {l : List Un} (h : Stb W [] (rdSl dUn.rd s l)) : VoIn W s l := by
  obtain ⟨ls, h1, h2, h3⟩ := h.here
  have e : ls = l := List.ext_getElem h2 fun i hi hj => (h3 i _ _ (List.getElem?_eq_getElem hi) (List.getElem?_eq_getElem hj)).1
  subst e
  refine ⟨h1, fun u hu => ?_⟩
  obtain ⟨i, hi, rfl⟩ := List.getElem_of_mem hu
  exact (h3 i _ _ (List.getElem?_eq_getElem hi) (List.getElem?_eq_getElem hi)).2
theorem unIn_arg {w0 w : World} {H : List Asn} {u : Un} (hw : Cl w0 [] H w) (h : UnIn u w0) : UnIn u w := ⟨h.s1, h.s2, h.s3, (stb_arg hw (rd_stb h.b)).here, (stb_arg hw (rd_stb h.e)).here⟩
theorem voIn_arg {w0 w : World} {H : List Asn} {sp : SlV} {p : List Un} (hw : Cl w0 [] H w) (h : VoIn w0 sp p) : VoIn w sp p := h.stb.cl hw |> fun x => x
end Go.Proofs.YtomjbfeafodfbaaGreat

/- The best sequence, chosen step by step out of the certificate. Plain lemmas, no program text. -/
set_option autoImplicit false
namespace Go.Sx
/-- The least of a list, -1 of none. -/
def mn : List Int → Int
  | [] => -1
  | x :: r => r.foldl min x
theorem mn_snoc (l : List Int) (x : Int) : mn (l ++ [x]) = if l = [] then x else min (mn l) x := by
  cases l with
  | nil => rfl
  | cons y r => simp [mn]
theorem minL_mn {l : List Int} (hl : l ≠ []) (hb : ∀ x ∈ l, x ≤ 9223372036854775807) : minL l = mn l := by
  cases l with
  | nil => exact absurd rfl hl
  | cons x r =>
    have h := hb x (by simp)
    simp only [minL, mn, List.foldl_cons]
    rw [show min 9223372036854775807 x = x by omega]
namespace Tsk
variable (t : Tsk)
def jn (last : Option Int) (v : Int) : Int := match last with
  | some u => t.J u v
  | none => 0
def mi (k : Nat) (last : Option Int) : Int := minL ((t.us (t.T - k)).map fun v => t.jn last v + t.R k v)
def gr : Nat → Option Int → List Int
  | 0, _ => []
  | k + 1, last => match (t.us (t.T - (k + 1))).find? fun v => decide (t.jn last v + t.R (k + 1) v = t.mi (k + 1) last) with
    | some v => v :: gr k (some v)
    | none => []
/-- The units for a target rise. -/
def Rise : Prop := ∀ i, (t.us i).Pairwise (· < ·)
/-- No sum is as great as the greatest int. -/
def Low : Prop := ∀ k last v, k ≤ t.T → 1 ≤ k → v ∈ t.us (t.T - k) → (∀ u, last = some u → u ∈ t.us (t.T - (k + 1))) → t.jn last v + t.R k v ≤ 9223372036854775807
variable {t}
theorem mi_mem {k : Nat} {last : Option Int} (hne : t.us (t.T - k) ≠ []) (hb : ∀ v ∈ t.us (t.T - k), t.jn last v + t.R k v ≤ 9223372036854775807) : ∃ v ∈ t.us (t.T - k), t.jn last v + t.R k v = t.mi k last := by
  have := minL_mem (l := (t.us (t.T - k)).map fun v => t.jn last v + t.R k v) (by simpa using hne) (fun x hx => by
    obtain ⟨v, hv, rfl⟩ := List.mem_map.1 hx
    exact hb v hv)
  obtain ⟨v, hv, he⟩ := List.mem_map.1 this
  exact ⟨v, hv, he⟩
theorem mi_le {k : Nat} {last : Option Int} {v : Int} (hv : v ∈ t.us (t.T - k)) : t.mi k last ≤ t.jn last v + t.R k v := minL_le (List.mem_map_of_mem hv)
theorem find_first {l : List Int} (hl : l.Pairwise (· < ·)) {p : Int → Bool} {v : Int} (h : l.find? p = some v) : v ∈ l ∧ p v = true ∧ ∀ u ∈ l, p u = true → v ≤ u := by
  induction l with
  | nil => simp at h
  | cons x r ih =>
    rw [List.find?_cons] at h
    have hp := List.pairwise_cons.1 hl
    cases hx : p x with
    | true =>
      rw [hx] at h
      cases h
      refine ⟨by simp, hx, fun u hu _ => ?_⟩
      rcases List.mem_cons.1 hu with rfl | hu
      · exact Int.le_refl _
      · exact Int.le_of_lt (hp.1 u hu)
    | false =>
      rw [hx] at h
      obtain ⟨h1, h2, h3⟩ := ih hp.2 h
      refine ⟨by simp [h1], h2, fun u hu hpu => ?_⟩
      rcases List.mem_cons.1 hu with rfl | hu
      · rw [hx] at hpu; cases hpu
      · exact h3 u hu hpu
theorem gr_best (hr : t.Rise) (hp : ∀ i, i < t.T → t.us i ≠ []) (hb : ∀ k last v, k ≤ t.T → 1 ≤ k → v ∈ t.us (t.T - k) → (∀ u, last = some u → u ∈ t.us (t.T - (k + 1))) → t.jn last v + t.R k v ≤ 9223372036854775807) :
    ∀ (k : Nat) (last : Option Int), k ≤ t.T → 1 ≤ k → (∀ u, last = some u → u ∈ t.us (t.T - (k + 1))) → ∃ v r, t.gr k last = v :: r ∧ v :: r ∈ t.tl k ∧ t.jn last v + t.tc (t.T - k) (v :: r) = t.mi k last ∧
      ∀ v' r', v' :: r' ∈ t.tl k → v' :: r' = v :: r ∨ t.mi k last < t.jn last v' + t.tc (t.T - k) (v' :: r') ∨ (t.mi k last = t.jn last v' + t.tc (t.T - k) (v' :: r') ∧ lexLt (v :: r) (v' :: r') = true)
  | 0, _, _, h, _ => by omega
  | k + 1, last, hk, _, hlast => by
    obtain ⟨w, hw1, hw2⟩ := mi_mem (k := k + 1) (last := last) (hp _ (by omega)) (fun v hv => hb (k + 1) last v hk (by omega) hv hlast)
    cases hf : (t.us (t.T - (k + 1))).find? fun v => decide (t.jn last v + t.R (k + 1) v = t.mi (k + 1) last) with
    | none =>
      have := List.find?_eq_none.1 hf w hw1
      simp [hw2] at this
    | some v =>
      obtain ⟨h1, h2, h3⟩ := find_first (hr _) hf
      simp only [decide_eq_true_eq] at h2
      have hg : t.gr (k + 1) last = v :: t.gr k (some v) := by rw [gr, hf]
      by_cases h0 : k = 0
      · subst h0
        refine ⟨v, [], by rw [hg]; rfl, ?_, ?_, fun v' r' hv' => ?_⟩
        · simp only [tl, List.mem_flatMap, List.map_cons, List.map_nil]
          exact ⟨v, h1, by simp⟩
        · rw [← h2]; simp [tc, R]
        · simp only [tl, List.mem_flatMap, List.map_cons, List.map_nil, List.mem_singleton, List.cons.injEq] at hv'
          obtain ⟨u, hu, rfl, rfl⟩ := hv'
          have hle := mi_le (last := last) hu
          have e : t.tc (t.T - (0 + 1)) [v'] = t.R (0 + 1) v' := by simp [tc, R]
          rw [e]
          by_cases e1 : v' = v
          · left; rw [e1]
          · by_cases e2 : t.jn last v' + t.R (0 + 1) v' = t.mi (0 + 1) last
            · right; right
              refine ⟨e2.symm, ?_⟩
              have := h3 v' hu (by simpa using e2)
              simp only [lexLt]
              simp; omega
            · right; left; omega
      · have hmem : v ∈ t.us (t.T - (k + 1)) := h1
        obtain ⟨v2, r2, g1, g2, g3, g4⟩ := gr_best hr hp hb k (some v) (by omega) (by omega) (fun u hu => by cases hu; exact hmem)
        have eT : t.T - (k + 1) + 1 = t.T - k := by omega
        have hR : ∀ u, t.R (k + 1) u = t.F (t.T - (k + 1)) u + t.mi k (some u) := fun u => by rw [R, if_neg h0]; rfl
        have htc : ∀ u a s, t.tc (t.T - (k + 1)) (u :: a :: s) = t.F (t.T - (k + 1)) u + (t.jn (some u) a + t.tc (t.T - k) (a :: s)) := fun u a s => by rw [tc, eT]; simp only [jn]; omega
        refine ⟨v, v2 :: r2, by rw [hg, g1], ?_, ?_, fun v' r' hv' => ?_⟩
        · rw [tl]
          exact List.mem_flatMap.2 ⟨v, h1, List.mem_map_of_mem g2⟩
        · rw [htc, g3, ← hR]; exact h2
        · rw [tl] at hv'
          obtain ⟨u, hu, hm⟩ := List.mem_flatMap.1 hv'
          obtain ⟨s, hs, he⟩ := List.mem_map.1 hm
          simp only [List.cons.injEq] at he
          obtain ⟨rfl, rfl⟩ := he
          have hsl := t.tl_len k s hs
          match s, hsl with
          | [], hsl => simp only [List.length_nil] at hsl; omega
          | a :: s, _ =>
            have hle := mi_le (last := last) hu
            have hle2 : t.mi k (some u) ≤ t.jn (some u) a + t.tc (t.T - k) (a :: s) := by
              obtain ⟨v3, r3, _, _, _, q4⟩ := gr_best hr hp hb k (some u) (by omega) (by omega) (fun x hx => by cases hx; exact hu)
              rename_i q3
              rcases q4 a s hs with h5 | h5 | h5
              · simp only [List.cons.injEq] at h5
                obtain ⟨rfl, rfl⟩ := h5
                omega
              · omega
              · omega
            rw [htc]
            by_cases e1 : u = v
            · subst e1
              rcases g4 a s hs with h5 | h5 | ⟨h5, h6⟩
              · left; rw [h5]
              · right; left; have := hR u; omega
              · right; right
                have := hR u
                refine ⟨by omega, ?_⟩
                show (decide (u < u) || (decide (u = u) && lexLt (v2 :: r2) (a :: s))) = true
                rw [h6]; simp
            · by_cases e2 : t.jn last u + t.R (k + 1) u = t.mi (k + 1) last
              · have h7 := h3 u hu (by simpa using e2)
                have := hR u
                by_cases e3 : t.mi (k + 1) last < t.jn last u + (t.F (t.T - (k + 1)) u + (t.jn (some u) a + t.tc (t.T - k) (a :: s)))
                · exact .inr (.inl e3)
                · right; right
                  refine ⟨by omega, ?_⟩
                  simp only [lexLt]
                  simp; omega
              · right; left; have := hR u; omega
end Tsk
end Go.Sx

set_option autoImplicit false
set_option maxRecDepth 100000
namespace Go.Proofs.YtomjbfeafodfbaaGreat
open Go.Sx
open Enc (enc val)
theorem vo_bl {p : List Un} (h : voiceB p = true) {a b : Un} (ha : a ∈ p) (hb : b ∈ p) : a.el.length = b.bl.length := by
  simp only [voiceB, eqB, Bool.and_eq_true, List.all_eq_true, decide_eq_true_eq] at h
  have h1 := h.1.2 _ ha
  have h2 := h.1.2 _ hb
  omega
theorem vo_ok {p : List Un} (h : voiceB p = true) {a : Un} (ha : a ∈ p) : UnOk a := by
  simp only [voiceB, Bool.and_eq_true] at h
  exact un_ok (List.all_eq_true.1 h.1.1 _ ha)
def jz (x : Wts) (p : List Un) (u v : Int) : Int := if 0 ≤ u then joinC x (nth p u.toNat) (nth p v.toNat) else 0
def lsum (x : Wts) (p : List Un) (row : List Int) (u : Int) (v : Int) : Int := nth row v.toNat + jz x p u v
theorem jz_bd {x : Wts} {p : List Un} (hv : voiceB p = true) (hx : wtB x = true) {u : Int} (hu : u < p.length) {v : Nat} (hvp : v < p.length) : 0 ≤ jz x p u v ∧ jz x p u v ≤ 800000000 := by
  unfold jz
  split
  · rename_i h
    exact joinC_bd (wt_ok hx) (vo_ok hv (nth_mem (by omega))) (vo_ok hv (nth_mem (by omega)))
  · omega
theorem refLst_spec (sp tp sc : SlV) (p : List Un) (tgt : List Wan) (x : Wts) (cv : List SlV) (row : List Int) (i : Nat) (hi : i < tgt.length) (hic : i < cv.length) (u : Int) (hu : -1 ≤ u ∧ u < p.length) (hrow : row.length = p.length) (hb : ∀ v : Nat, -4611686018427387904 ≤ nth row v ∧ nth row v ≤ 4611686018427387904) (w : World)
    (hvo : VoRd w sp p) (htp : Stb w [] (RdL tp.v tgt)) (hcv : Stb w [] (RdL sc.v cv)) (hr : Stb w [] (RdL (nth cv i).v row)) (hE : beginE p tgt x = 0) :
    Calls Tryz.prog 69 #[sp.v, tp.v, val x, sc.v, .int .i64 i, .int .i64 u] w fun e w' => e = .returned (.int .i64 (mn ((idxs p p.length (nth tgt i).phone).map (lsum x p row u)))) ∧ Cl w [] [] w' := by
  have hvl := hvo.l
  have hL := rd_len hvl.here
  obtain ⟨-, -, hv1, hv2, hv3⟩ := beginE_ok hE
  refine calls_cw (vs := [_, _, _, _, _, _]) Tryz.func69 rfl Tryz.ntmps69 rfl (Cl.start0 w) (cw_seq (cw_region ?_))
  refine sw_x rfl rfl rfl (e_box rfl rfl rfl) (fun b8 => ?_)
  refine sr rfl rfl rfl ((q_assign rfl rfl)) (sw_nil (post_then (cw_seq (cw_region (sr rfl rfl rfl ((q_assign rfl rfl)) (sw_nil (post_then (cw_seq (cw_region (sr rfl rfl rfl ((q_assign rfl rfl)) (sw_nil (post_then (cw_seq (cw_seq (cw_region (sr rfl rfl rfl ((q_assign rfl rfl)) (sw_nil (post_then (cw_block ?_)))))))))))))))))))
  refine cw_loop (S := Nat) (fun k => [(0, [], sp.v), (1, [], tp.v), (3, [], sc.v), (4, [], .int .i64 i), (5, [], .int .i64 u), (8, [], .pointer (some ⟨b8, 0, none⟩)), (13, [], .int .i64 (mn ((idxs p k (nth tgt i).phone).map (lsum x p row u)))), (14, [], .bool (!(idxs p k (nth tgt i).phone).isEmpty)), (15, [], .int .i64 k)]) (fun _ => Cl w [] [blk b8 (enc x) 25]) (fun k => k ≤ p.length) (fun k => p.length - k) 0 (Nat.zero_le _) (by exact .cons rfl (.cons rfl (.cons rfl (.cons rfl (.cons rfl (.cons rfl (.cons rfl (.cons rfl (.cons rfl .nil))))))))) (fun _ h => h) ?_
  intro k hk
  have hss := idxs_succ p k (nth tgt i).phone
  refine cw_seq (cw_seq (cw_region (sr rfl rfl rfl ((q_move rfl rfl)) (sr rfl rfl rfl ((q_move rfl rfl)) ?_))))
  refine sr rfl rfl rfl ((q_len rfl (.cons rfl inferInstance (.nil)) (by exact fun w hw => Stb.cl (by assumption) hw))) ?_
  refine sr rfl rfl rfl ((q_lss rfl rfl rfl)) (sw_nil (post_then ?_))
  refine cw_cond rfl (fun h => ?_) (fun h => ?_)
  · skip
    have hk' : k < p.length := by simp only [decide_eq_true_eq] at h; omega
    have hbk := hb k
    have hjb := jz_bd hv1 hv3 hu.2 hk'
    refine cw_skip (post_then (cw_seq (cw_block (cw_seq (cw_seq ?_)))))
    refine cw_region_q mixed_Tryz (by kernel_rfl) ?_
    refine qr rfl rfl rfl ((q_move rfl rfl)) (qr rfl rfl rfl ((q_move rfl rfl)) ?_)
    refine qr rfl rfl rfl ((q_indexN rfl rfl rfl (by exact fun w hw => Stb.cl (by assumption) hw) (by intro hc; omega))) ?_
    refine qr rfl rfl rfl ((q_fieldEl rfl rfl (by exact fun w hw => Stb.cl (by assumption) hw) (by intro hc; omega))) ?_
    refine qr rfl rfl rfl ((q_loadF rfl rfl rfl (by exact fun w hw => Stb.cl (by assumption) hw) (by intro hc; omega) rfl)) ?_
    refine qr rfl rfl rfl ((q_move rfl rfl)) (qr rfl rfl rfl ((q_move rfl rfl)) ?_)
    refine qr rfl rfl rfl ((q_indexN rfl rfl rfl (by exact fun w hw => Stb.cl (by assumption) hw) (by intro hc; omega))) ?_
    refine qr rfl rfl rfl ((q_fieldEl rfl rfl (by exact fun w hw => Stb.cl (by assumption) hw) (by intro hc; omega))) ?_
    refine qr rfl rfl rfl ((q_loadF rfl rfl rfl (by exact fun w hw => Stb.cl (by assumption) hw) (by intro hc; omega) rfl)) ?_
    refine qr rfl rfl rfl ((q_neqStr rfl rfl rfl Tryz.underlying9)) (qw_end (post_then ?_))
    refine cw_cond rfl (fun h2 => ?_) (fun h2 => ?_)
    · skip
      have h3 : ¬ (nth p k).phone = (nth tgt i).phone := by simpa using h2
      rw [if_neg h3, List.append_nil] at hss
      refine cw_exit (post_then_x (post_blk_eq (post_then (cw_region (sr rfl rfl rfl ((q_move rfl rfl)) ?_)))))
      refine sr rfl rfl rfl ((q_add rfl rfl rfl (by intro hc; omega))) ?_
      refine sr rfl rfl rfl ((q_assign rfl rfl)) (sw_nil ?_)
      refine post_next (k + 1) ?_ (fun _ h => h) (by omega) (by omega)
      simp only [hss]
      exact (by exact .cons rfl (.cons rfl (.cons rfl (.cons rfl (.cons rfl (.cons rfl (.cons rfl (.cons rfl (.cons rfl .nil)))))))))
    · skip
      have h3 : (nth p k).phone = (nth tgt i).phone := by simpa using h2
      rw [if_pos h3] at hss
      refine cw_skip (post_then (cw_seq (cw_region (sr rfl rfl rfl ((q_move rfl rfl)) (sr rfl rfl rfl ((q_move rfl rfl)) ?_)))))
      refine sr rfl rfl rfl ((q_indexN rfl rfl rfl (by exact fun w hw => Stb.cl (by assumption) hw) (by intro hc; omega))) ?_
      refine sr rfl rfl rfl ((q_loadEl rfl rfl rfl (by exact fun w hw => Stb.cl (by assumption) hw) (by intro hc; omega))) ?_
      refine sr rfl rfl rfl ((q_move rfl rfl)) ?_
      refine sr rfl rfl rfl ((q_indexN rfl rfl rfl (by exact fun w hw => Stb.cl (by assumption) hw) (by intro hc; omega))) ?_
      refine sr rfl rfl rfl ((q_loadEl rfl rfl rfl (by exact fun w hw => Stb.cl (by assumption) hw) (by intro hc; omega))) ?_
      refine sr rfl rfl rfl ((q_assign rfl rfl)) (sw_nil (post_then (cw_seq (cw_seq (cw_region (sr rfl rfl rfl ((q_move rfl rfl)) (sr rfl rfl rfl ((q_geq rfl rfl rfl)) (sw_nil (post_then ?_)))))))))
      refine cw_cut (S := Unit) (fun _ => [(0, [], sp.v), (1, [], tp.v), (3, [], sc.v), (4, [], .int .i64 i), (5, [], .int .i64 u), (8, [], .pointer (some ⟨b8, 0, none⟩)), (13, [], .int .i64 (mn ((idxs p k (nth tgt i).phone).map (lsum x p row u)))), (14, [], .bool (!(idxs p k (nth tgt i).phone).isEmpty)), (15, [], .int .i64 k), (16, [], .int .i64 (lsum x p row u k))]) (fun _ => Cl w [] [blk b8 (enc x) 25]) (fun _ => True) ?_ ?_
      · refine cw_cond rfl (fun h4 => ?_) (fun h4 => ?_)
        · skip
          have h5 : 0 ≤ u := by simpa using h4
          have em : nth p u.toNat ∈ p := nth_mem (by omega)
          have ek : nth p k ∈ p := nth_mem hk'
          have ej : jz x p u k = joinC x (nth p u.toNat) (nth p k) := by rw [jz, if_pos h5]; simp
          rw [ej] at hjb
          have el : lsum x p row u k = nth row k + joinC x (nth p u.toNat) (nth p k) := by rw [lsum, ej]; simp
          refine cw_region_q mixed_Tryz (by kernel_rfl) ?_
          refine qr rfl rfl rfl ((q_move rfl rfl)) (qr rfl rfl rfl ((q_move rfl rfl)) (qr rfl rfl rfl ((q_move rfl rfl)) ?_))
          refine qr rfl rfl rfl ((q_index rfl rfl rfl (by exact fun w hw => Stb.cl (by assumption) hw) (by intro hc; omega))) ?_
          refine qr rfl rfl rfl ((q_loadEl rfl rfl rfl (by exact fun w hw => Stb.cl (by assumption) hw) (by intro hc; omega))) ?_
          refine qr rfl rfl rfl ((q_move rfl rfl)) (qr rfl rfl rfl ((q_move rfl rfl)) ?_)
          refine qr rfl rfl rfl ((q_indexN rfl rfl rfl (by exact fun w hw => Stb.cl (by assumption) hw) (by intro hc; omega))) ?_
          refine qr rfl rfl rfl ((q_loadEl rfl rfl rfl (by exact fun w hw => Stb.cl (by assumption) hw) (by intro hc; omega))) ?_
          refine qr rfl rfl rfl ((q_loadA rfl rfl (by exact .head _) rfl)) ?_
          refine qw_step rfl rfl rfl (q_call (CanCall.mk Tryz.call51) rfl (.cons rfl inferInstance (.cons rfl inferInstance (.cons rfl inferInstance (.nil)))) (fun _ w hw => callq hw (refJoin_spec (nth p u.toNat) (nth p k) x w ((hvo.arg hw).u _ em) ((hvo.arg hw).u _ ek) (vo_ok hv1 em) (vo_ok hv1 ek) (vo_bl hv1 em ek) (wt_ok hv3)))) ?_
          refine qr rfl rfl rfl ((q_add rfl rfl rfl (by intro hc; omega))) ?_
          refine qr rfl rfl rfl ((q_assign rfl rfl)) (qw_end ?_)
          refine post_meet () ?_ (fun _ h => h) trivial
          rw [el]
          exact (by exact .cons rfl (.cons rfl (.cons rfl (.cons rfl (.cons rfl (.cons rfl (.cons rfl (.cons rfl (.cons rfl (.cons rfl .nil))))))))))
        · skip
          have h5 : ¬ 0 ≤ u := by simpa using h4
          have el : lsum x p row u k = nth row k := by rw [lsum, jz, if_neg h5]; simp
          refine cw_skip ?_
          refine post_meet () ?_ (fun _ h => h) trivial
          rw [el]
          exact (by exact .cons rfl (.cons rfl (.cons rfl (.cons rfl (.cons rfl (.cons rfl (.cons rfl (.cons rfl (.cons rfl (.cons rfl .nil))))))))))
      · intro _ _
        refine post_then (cw_seq (cw_region (sr rfl rfl rfl ((q_move rfl rfl)) (sr rfl rfl rfl ((q_not rfl rfl)) (sr rfl rfl rfl ((q_move rfl rfl)) (sr rfl rfl rfl ((q_move rfl rfl)) (sr rfl rfl rfl ((q_move rfl rfl)) (sr rfl rfl rfl ((q_lss rfl rfl rfl)) (sr rfl rfl rfl ((q_or2 rfl rfl rfl)) (sw_nil (post_then ?_)))))))))))
        have hm : mn ((idxs p (k + 1) (nth tgt i).phone).map (lsum x p row u)) = if idxs p k (nth tgt i).phone = [] then lsum x p row u k else min (mn ((idxs p k (nth tgt i).phone).map (lsum x p row u))) (lsum x p row u k) := by
          rw [hss, List.map_append, List.map_cons, List.map_nil, mn_snoc]
          by_cases e : idxs p k (nth tgt i).phone = []
          · rw [e]; rfl
          · rw [if_neg e, if_neg (by simpa using e)]
        have hne : (idxs p (k + 1) (nth tgt i).phone).isEmpty = false := by rw [hss]; simp
        refine cw_cond rfl (fun h4 => ?_) (fun h4 => ?_)
        · skip
          have hm2 : mn ((idxs p (k + 1) (nth tgt i).phone).map (lsum x p row u)) = lsum x p row u k := by
            rw [hm]
            split
            · rfl
            · rename_i h6
              have h7 : (idxs p k (nth tgt i).phone).isEmpty = false := by simpa using h6
              rw [h7] at h4
              simp at h4
              omega
          refine cw_region (sr rfl rfl rfl ((q_move rfl rfl)) (sr rfl rfl rfl ((q_assign rfl rfl)) (sr rfl rfl rfl ((q_assign rfl rfl)) (sw_nil (post_blk (post_then (cw_region (sr rfl rfl rfl ((q_move rfl rfl)) ?_))))))))
          refine sr rfl rfl rfl ((q_add rfl rfl rfl (by intro hc; omega))) ?_
          refine sr rfl rfl rfl ((q_assign rfl rfl)) (sw_nil ?_)
          refine post_next (k + 1) ?_ (fun _ h => h) (by omega) (by omega)
          simp only [hm2, hne]
          exact (by exact .cons rfl (.cons rfl (.cons rfl (.cons rfl (.cons rfl (.cons rfl (.cons rfl (.cons rfl (.cons rfl .nil)))))))))
        · skip
          have h7 : (idxs p k (nth tgt i).phone).isEmpty = false := by
            cases h8 : (idxs p k (nth tgt i).phone).isEmpty
            · rfl
            · rw [h8] at h4; simp at h4
          have hm2 : mn ((idxs p (k + 1) (nth tgt i).phone).map (lsum x p row u)) = mn ((idxs p k (nth tgt i).phone).map (lsum x p row u)) := by
            rw [hm, if_neg (by simpa using h7)]
            rw [h7] at h4
            simp at h4
            omega
          refine cw_skip (post_blk (post_then (cw_region (sr rfl rfl rfl ((q_move rfl rfl)) ?_))))
          refine sr rfl rfl rfl ((q_add rfl rfl rfl (by intro hc; omega))) ?_
          refine sr rfl rfl rfl ((q_assign rfl rfl)) (sw_nil ?_)
          refine post_next (k + 1) ?_ (fun _ h => h) (by omega) (by omega)
          simp only [hm2, hne]
          rw [h7]
          exact (by exact .cons rfl (.cons rfl (.cons rfl (.cons rfl (.cons rfl (.cons rfl (.cons rfl (.cons rfl (.cons rfl .nil)))))))))
  · skip
    have hk' : k = p.length := by simp only [decide_eq_false_iff_not] at h; omega
    subst hk'
    refine cw_exit (post_then_x (post_then_x (post_blk_eq (post_then (cw_seq (cw_region (sr rfl rfl rfl ((q_move rfl rfl)) (sr rfl rfl rfl ((q_assign rfl rfl)) (sw_nil (post_then (cw_ret (post_ret1 rfl (resOk_tmp rfl) ?_))))))))))))
    exact fun w' hw => ⟨rfl, (fun w h => Cl.sel (by exact .nil _) w h) _ hw⟩
theorem idxs_rise (p : List Un) (c : ByteArray) : ∀ k, (idxs p k c).Pairwise (· < ·)
  | 0 => by simp [idxs]
  | k + 1 => by
    rw [idxs_succ]
    refine List.pairwise_append.2 ⟨idxs_rise p c k, ?_, fun a ha b hb => ?_⟩
    · split <;> simp
    · split at hb
      · simp only [List.mem_singleton] at hb
        have := (TK.idx_mem.1 ha).2.1
        omega
      · simp at hb
end Go.Proofs.YtomjbfeafodfbaaGreat

set_option autoImplicit false
set_option maxRecDepth 100000
namespace Go.Proofs.YtomjbfeafodfbaaGreat
open Go.Sx
open Enc (enc val)
def seqAt (p : List Un) (tgt : List Wan) (s : List Int) (k : Nat) : Bool := decide (nth s k ∈ idxs p p.length (nth tgt k).phone)
def seqB (p : List Un) (tgt : List Wan) (s : List Int) : Bool := decide (s.length = tgt.length) && (List.range s.length).all (seqAt p tgt s)
theorem seq_at {p : List Un} {tgt : List Wan} {s : List Int} {k : Nat} (h : seqAt p tgt s k = true) : 0 ≤ nth s k ∧ nth s k < p.length ∧ (nth p (nth s k).toNat).phone = (nth tgt k).phone := by
  simp only [seqAt, decide_eq_true_eq] at h
  exact TK.idx_mem.1 h
theorem seq_no {p : List Un} {tgt : List Wan} {s : List Int} {k : Nat} (hk : k < s.length) (h : seqAt p tgt s k = false) : seqB p tgt s = false := by
  simp only [seqB, Bool.and_eq_false_iff]
  exact .inr (List.all_eq_false.2 ⟨k, by simpa using hk, by simp [h]⟩)
theorem seq_yes {p : List Un} {tgt : List Wan} {s : List Int} (hl : s.length = tgt.length) (h : ∀ k, k < s.length → seqAt p tgt s k = true) : seqB p tgt s = true := by
  simp only [seqB, Bool.and_eq_true, decide_eq_true_eq]
  exact ⟨hl, List.all_eq_true.2 fun k hk => h k (by simpa using hk)⟩
theorem seq_len {p : List Un} {tgt : List Wan} {s : List Int} (hl : s.length ≠ tgt.length) : seqB p tgt s = false := by
  simp [seqB, hl]
theorem seqB_at {p : List Un} {tgt : List Wan} {s : List Int} (h : seqB p tgt s = true) : s.length = tgt.length ∧ ∀ k, k < s.length → seqAt p tgt s k = true := by
  simp only [seqB, Bool.and_eq_true, decide_eq_true_eq] at h
  exact ⟨h.1, fun k hk => List.all_eq_true.1 h.2 k (by simpa using hk)⟩
theorem refSequence_spec (sp tp su : SlV) (p : List Un) (tgt : List Wan) (s : List Int) (w : World) (hvo : VoRd w sp p) (htp : Stb w [] (RdL tp.v tgt)) (hsu : Stb w [] (RdL su.v s)) :
    Calls Tryz.prog 58 #[sp.v, tp.v, su.v] w fun e w' => e = .returned (.bool (seqB p tgt s)) ∧ Cl w [] [] w' := by
  have hvl := hvo.l
  have hL := rd_len hvl.here
  have hL2 := rd_len hsu.here
  have hL3 := rd_len htp.here
  refine calls_cw (vs := [_, _, _]) Tryz.func58 rfl Tryz.ntmps58 rfl (Cl.start0 w) (cw_seq (cw_region (sr rfl rfl rfl ((q_assign rfl rfl)) (sw_nil (post_then (cw_seq (cw_seq (cw_region (sr rfl rfl rfl ((q_move rfl rfl)) ?_)))))))))
  refine sr rfl rfl rfl ((q_len rfl (.cons rfl inferInstance (.nil)) (by exact fun w hw => Stb.cl (by assumption) hw))) ?_
  refine sr rfl rfl rfl ((q_move rfl rfl)) ?_
  refine sr rfl rfl rfl ((q_len rfl (.cons rfl inferInstance (.nil)) (by exact fun w hw => Stb.cl (by assumption) hw))) ?_
  refine sr rfl rfl rfl ((q_neq rfl rfl rfl)) (sw_nil (post_then ?_))
  refine cw_cond rfl (fun h => ?_) (fun h => ?_)
  · skip
    have h1 : s.length ≠ tgt.length := by simp only [Bool.not_eq_true', decide_eq_false_iff_not] at h; omega
    refine cw_seq (cw_region (sr rfl rfl rfl ((q_assign rfl rfl)) (sw_nil (post_then (cw_ret (post_then_r (post_ret1 rfl (resOk_tmp rfl) ?_)))))))
    exact fun w' hw => ⟨by rw [seq_len h1], (fun w h => Cl.sel (by exact .nil _) w h) _ hw⟩
  · skip
    have hl : s.length = tgt.length := by simp only [Bool.not_eq_false', decide_eq_true_eq] at h; omega
    refine cw_skip (post_then (cw_seq (cw_seq (cw_region (sr rfl rfl rfl ((q_assign rfl rfl)) (sw_nil (post_then (cw_block ?_))))))))
    refine cw_loop (S := Nat) (fun k => [(0, [], sp.v), (1, [], tp.v), (2, [], su.v), (7, [], .int .i64 k)]) (fun _ => Cl w [] []) (fun k => k ≤ s.length ∧ ∀ j, j < k → seqAt p tgt s j = true) (fun k => s.length - k) 0 ⟨Nat.zero_le _, fun j hj => by omega⟩ (by exact .cons rfl (.cons rfl (.cons rfl (.cons rfl .nil)))) (fun _ h => h) ?_
    rintro k ⟨hk, hall⟩
    refine cw_seq (cw_seq (cw_region (sr rfl rfl rfl ((q_move rfl rfl)) (sr rfl rfl rfl ((q_move rfl rfl)) ?_))))
    refine sr rfl rfl rfl ((q_len rfl (.cons rfl inferInstance (.nil)) (by exact fun w hw => Stb.cl (by assumption) hw))) ?_
    refine sr rfl rfl rfl ((q_lss rfl rfl rfl)) (sw_nil (post_then ?_))
    refine cw_cond rfl (fun h2 => ?_) (fun h2 => ?_)
    · skip
      have hk' : k < s.length := by simp only [decide_eq_true_eq] at h2; omega
      have hkt : k < tgt.length := by omega
      cases hin : inB (nth s k) 0 ((p.length : Int) - 1)
      · have hno : seqAt p tgt s k = false := by
          rw [seqAt, decide_eq_false_iff_not]
          intro hm
          have := TK.idx_mem.1 hm
          simp only [inB, Bool.and_eq_false_iff, decide_eq_false_iff_not] at hin
          omega
        refine cw_skip (post_then (cw_seq (cw_block (cw_seq ?_))))
        refine cw_region_q mixed_Tryz (by kernel_rfl) ?_
        refine qr rfl rfl rfl ((q_move rfl rfl)) (qr rfl rfl rfl ((q_move rfl rfl)) ?_)
        refine qr rfl rfl rfl ((q_indexN rfl rfl rfl (by exact fun w hw => Stb.cl (by assumption) hw) (by intro hc; omega))) ?_
        refine qr rfl rfl rfl ((q_loadEl rfl rfl rfl (by exact fun w hw => Stb.cl (by assumption) hw) (by intro hc; omega))) ?_
        refine qr rfl rfl rfl ((q_move rfl rfl)) ?_
        refine qr rfl rfl rfl ((q_len rfl (.cons rfl inferInstance (.nil)) (by exact fun w hw => Stb.cl (by assumption) hw))) ?_
        refine qr rfl rfl rfl ((q_sub rfl rfl rfl (by intro hc; omega))) ?_
        refine qw_step rfl rfl rfl (q_call (CanCall.mk Tryz.call84) rfl (.cons rfl inferInstance (.cons rfl inferInstance (.cons rfl inferInstance (.nil)))) (fun _ w hw => callq (v := .bool false) hw (by have := refIn_spec (nth s k) 0 ((p.length : Int) - 1) w; rwa [hin] at this))) ?_
        refine qr rfl rfl rfl ((q_not rfl rfl)) (qr rfl rfl rfl ((q_move rfl rfl)) (qr rfl rfl rfl ((q_move rfl rfl)) (qr rfl rfl rfl ((q_move rfl rfl)) (qr rfl rfl rfl ((q_move rfl rfl)) ?_))))
        refine qr rfl rfl rfl ((q_indexN rfl rfl rfl (by exact fun w hw => Stb.cl (by assumption) hw) (by intro hc; omega))) ?_
        refine qr rfl rfl rfl ((q_loadEl rfl rfl rfl (by exact fun w hw => Stb.cl (by assumption) hw) (by intro hc; omega))) ?_
        refine qr rfl rfl rfl ((q_index rfl rfl rfl (by exact fun w hw => Stb.cl (by assumption) hw) (by intro hc; (exfalso; simp_all [AllT]; done)))) ?_
        refine qr rfl rfl rfl ((q_fieldEl rfl rfl (by exact fun w hw => Stb.cl (by assumption) hw) (by intro hc; (exfalso; simp_all [AllT]; done)))) ?_
        refine qr rfl rfl rfl ((q_loadF rfl rfl rfl (by exact fun w hw => Stb.cl (by assumption) hw) (by intro hc; (exfalso; simp_all [AllT]; done)) rfl)) ?_
        refine qr rfl rfl rfl ((q_move rfl rfl)) (qr rfl rfl rfl ((q_move rfl rfl)) ?_)
        refine qr rfl rfl rfl ((q_indexN rfl rfl rfl (by exact fun w hw => Stb.cl (by assumption) hw) (by intro hc; omega))) ?_
        refine qr rfl rfl rfl ((q_fieldEl rfl rfl (by exact fun w hw => Stb.cl (by assumption) hw) (by intro hc; omega))) ?_
        refine qr rfl rfl rfl ((q_loadF rfl rfl rfl (by exact fun w hw => Stb.cl (by assumption) hw) (by intro hc; omega) rfl)) ?_
        refine qr rfl rfl rfl ((q_neqStr rfl rfl rfl Tryz.underlying9)) (qr rfl rfl rfl ((q_or2 rfl rfl rfl)) (qw_end (post_then ?_)))
        refine cw_cond rfl (fun h3 => ?_) (fun h3 => ?_)
        · skip
          refine cw_seq (cw_region (sr rfl rfl rfl ((q_assign rfl rfl)) (sw_nil (post_then (cw_ret (post_blk_r (post_then_r (post_then_r (post_blk_r (post_then_r (post_ret1 rfl (resOk_tmp rfl) ?_)))))))))))
          exact fun w' hw => ⟨by rw [seq_no hk' hno], (fun w h => Cl.sel (by exact .nil _) w h) _ hw⟩
        · skip
          simp at h3
      · have hr : 0 ≤ nth s k ∧ nth s k < p.length := by
          simp only [inB, Bool.and_eq_true, decide_eq_true_eq] at hin; omega
        refine cw_skip (post_then (cw_seq (cw_block (cw_seq ?_))))
        refine cw_region_q mixed_Tryz (by kernel_rfl) ?_
        refine qr rfl rfl rfl ((q_move rfl rfl)) (qr rfl rfl rfl ((q_move rfl rfl)) ?_)
        refine qr rfl rfl rfl ((q_indexN rfl rfl rfl (by exact fun w hw => Stb.cl (by assumption) hw) (by intro hc; omega))) ?_
        refine qr rfl rfl rfl ((q_loadEl rfl rfl rfl (by exact fun w hw => Stb.cl (by assumption) hw) (by intro hc; omega))) ?_
        refine qr rfl rfl rfl ((q_move rfl rfl)) ?_
        refine qr rfl rfl rfl ((q_len rfl (.cons rfl inferInstance (.nil)) (by exact fun w hw => Stb.cl (by assumption) hw))) ?_
        refine qr rfl rfl rfl ((q_sub rfl rfl rfl (by intro hc; omega))) ?_
        refine qw_step rfl rfl rfl (q_call (CanCall.mk Tryz.call84) rfl (.cons rfl inferInstance (.cons rfl inferInstance (.cons rfl inferInstance (.nil)))) (fun _ w hw => callq (v := .bool true) hw (by have := refIn_spec (nth s k) 0 ((p.length : Int) - 1) w; rwa [hin] at this))) ?_
        refine qr rfl rfl rfl ((q_not rfl rfl)) (qr rfl rfl rfl ((q_move rfl rfl)) (qr rfl rfl rfl ((q_move rfl rfl)) (qr rfl rfl rfl ((q_move rfl rfl)) (qr rfl rfl rfl ((q_move rfl rfl)) ?_))))
        refine qr rfl rfl rfl ((q_indexN rfl rfl rfl (by exact fun w hw => Stb.cl (by assumption) hw) (by intro hc; omega))) ?_
        refine qr rfl rfl rfl ((q_loadEl rfl rfl rfl (by exact fun w hw => Stb.cl (by assumption) hw) (by intro hc; omega))) ?_
        refine qr rfl rfl rfl ((q_index rfl rfl rfl (by exact fun w hw => Stb.cl (by assumption) hw) (by intro hc; omega))) ?_
        refine qr rfl rfl rfl ((q_fieldEl rfl rfl (by exact fun w hw => Stb.cl (by assumption) hw) (by intro hc; omega))) ?_
        refine qr rfl rfl rfl ((q_loadF rfl rfl rfl (by exact fun w hw => Stb.cl (by assumption) hw) (by intro hc; omega) rfl)) ?_
        refine qr rfl rfl rfl ((q_move rfl rfl)) (qr rfl rfl rfl ((q_move rfl rfl)) ?_)
        refine qr rfl rfl rfl ((q_indexN rfl rfl rfl (by exact fun w hw => Stb.cl (by assumption) hw) (by intro hc; omega))) ?_
        refine qr rfl rfl rfl ((q_fieldEl rfl rfl (by exact fun w hw => Stb.cl (by assumption) hw) (by intro hc; omega))) ?_
        refine qr rfl rfl rfl ((q_loadF rfl rfl rfl (by exact fun w hw => Stb.cl (by assumption) hw) (by intro hc; omega) rfl)) ?_
        refine qr rfl rfl rfl ((q_neqStr rfl rfl rfl Tryz.underlying9)) (qr rfl rfl rfl ((q_or2 rfl rfl rfl)) (qw_end (post_then ?_)))
        refine cw_cond rfl (fun h3 => ?_) (fun h3 => ?_)
        · skip
          have h4 : ¬ (nth p (nth s k).toNat).phone = (nth tgt k).phone := by simpa using h3
          have hno : seqAt p tgt s k = false := by
            rw [seqAt, decide_eq_false_iff_not]
            exact fun hm => h4 (TK.idx_mem.1 hm).2.2
          refine cw_seq (cw_region (sr rfl rfl rfl ((q_assign rfl rfl)) (sw_nil (post_then (cw_ret (post_blk_r (post_then_r (post_then_r (post_blk_r (post_then_r (post_ret1 rfl (resOk_tmp rfl) ?_)))))))))))
          exact fun w' hw => ⟨by rw [seq_no hk' hno], (fun w h => Cl.sel (by exact .nil _) w h) _ hw⟩
        · skip
          have h4 : (nth p (nth s k).toNat).phone = (nth tgt k).phone := by simpa using h3
          have hyes : seqAt p tgt s k = true := by
            rw [seqAt, decide_eq_true_eq]
            exact TK.idx_mem.2 ⟨hr.1, hr.2, h4⟩
          refine cw_skip (post_blk (post_then (cw_region (sr rfl rfl rfl ((q_move rfl rfl)) ?_))))
          refine sr rfl rfl rfl ((q_add rfl rfl rfl (by intro hc; omega))) ?_
          refine sr rfl rfl rfl ((q_assign rfl rfl)) (sw_nil ?_)
          refine post_next (k + 1) (by exact .cons rfl (.cons rfl (.cons rfl (.cons rfl .nil)))) (fun _ h => h) ⟨by omega, fun j hj => ?_⟩ (by omega)
          by_cases e : j = k
          · rw [e]; exact hyes
          · exact hall j (by omega)
    · skip
      have hk' : k = s.length := by simp only [decide_eq_false_iff_not] at h2; omega
      subst hk'
      refine cw_exit (post_then_x (post_then_x (post_blk_eq (post_then (cw_seq (cw_region (sr rfl rfl rfl ((q_assign rfl rfl)) (sw_nil (post_then (cw_ret (post_ret1 rfl (resOk_tmp rfl) ?_)))))))))))
      exact fun w' hw => ⟨by rw [seq_yes hl hall], (fun w h => Cl.sel (by exact .nil _) w h) _ hw⟩
def tcTo (p : List Un) (tgt : List Wan) (x : Wts) (s : List Int) (k : Nat) : Int := (tsk p tgt x).tc 0 (s.take k)
def jnAt (p : List Un) (x : Wts) (s : List Int) (k : Nat) : Int := if 0 < k then joinC x (nth p (nth s (k - 1)).toNat) (nth p (nth s k).toNat) else 0
theorem tcTo_succ {p : List Un} {tgt : List Wan} {x : Wts} {s : List Int} {k : Nat} (hk : k < s.length) : tcTo p tgt x s (k + 1) = tcTo p tgt x s k + fitC x (nth p (nth s k).toNat) (nth tgt k) + jnAt p x s k := by
  have h1 : s.take (k + 1) = s.take k ++ [nth s k] := by rw [List.take_succ_eq_append_getElem hk, nth_get hk]
  rw [tcTo, h1, Tsk.tc_snoc, tcTo, List.length_take, Nat.min_eq_left (by omega), Nat.zero_add]
  have e : (tsk p tgt x).F k (nth s k) = fitC x (nth p (nth s k).toNat) (nth tgt k) := rfl
  unfold jnAt
  by_cases h0 : 0 < k
  · rw [if_pos h0]
    have : (s.take k).getLast? = some (nth s (k - 1)) := by
      rw [List.getLast?_eq_getElem?, List.length_take, Nat.min_eq_left (by omega), List.getElem?_take, if_pos (by omega), nth_some (by omega)]
    rw [this]
    have e2 : (tsk p tgt x).J (nth s (k - 1)) (nth s k) = joinC x (nth p (nth s (k - 1)).toNat) (nth p (nth s k).toNat) := rfl
    rw [e]
    simp only [e2]
    omega
  · rw [if_neg h0, show k = 0 by omega]
    have e3 : (s.take 0).getLast? = none := rfl
    rw [e3]
    rw [show k = 0 by omega] at e
    rw [e]
    simp only
    omega
theorem tc_parts2 {p : List Un} {tgt : List Wan} {x : Wts} {s : List Int} (hE : beginE p tgt x = 0) (hl : s.length = tgt.length) {k : Nat} (hk : k < s.length) (hall : ∀ j, j < k + 1 → seqAt p tgt s j = true) : (0 ≤ fitC x (nth p (nth s k).toNat) (nth tgt k) ∧ fitC x (nth p (nth s k).toNat) (nth tgt k) ≤ 102002000) ∧ 0 ≤ jnAt p x s k ∧ jnAt p x s k ≤ 800000000 := by
  obtain ⟨m1, m2, hv1, hv2, hv3⟩ := beginE_ok hE
  have h1 := seq_at (hall k (by omega))
  refine ⟨fitC_bd (wt_ok hv3) (vo_ok hv1 (nth_mem (by omega))) (wa_ok (List.all_eq_true.1 hv2 _ (nth_mem (by omega)))), ?_⟩
  unfold jnAt
  split
  · have h2 := seq_at (hall (k - 1) (by omega))
    exact joinC_bd (wt_ok hv3) (vo_ok hv1 (nth_mem (by omega))) (vo_ok hv1 (nth_mem (by omega)))
  · omega
theorem tcTo_bd2 {p : List Un} {tgt : List Wan} {x : Wts} {s : List Int} (hE : beginE p tgt x = 0) (hl : s.length = tgt.length) : ∀ k, k ≤ s.length → (∀ j, j < k → seqAt p tgt s j = true) → 0 ≤ tcTo p tgt x s k ∧ tcTo p tgt x s k ≤ 902002000 * k
  | 0, _, _ => by simp [tcTo, Tsk.tc]
  | k + 1, hk, hall => by
    have h1 := tcTo_bd2 hE hl k (by omega) (fun j hj => hall j (by omega))
    have h2 := tc_parts2 hE hl (k := k) (by omega) hall
    rw [tcTo_succ (by omega)]
    omega
theorem tc_parts {p : List Un} {tgt : List Wan} {x : Wts} {s : List Int} (hE : beginE p tgt x = 0) (hs : seqB p tgt s = true) {k : Nat} (hk : k < s.length) : (0 ≤ fitC x (nth p (nth s k).toNat) (nth tgt k) ∧ fitC x (nth p (nth s k).toNat) (nth tgt k) ≤ 102002000) ∧ 0 ≤ jnAt p x s k ∧ jnAt p x s k ≤ 800000000 :=
  tc_parts2 hE (seqB_at hs).1 hk fun j hj => (seqB_at hs).2 j (by omega)
theorem tcTo_bd {p : List Un} {tgt : List Wan} {x : Wts} {s : List Int} (hE : beginE p tgt x = 0) (hs : seqB p tgt s = true) (k : Nat) (hk : k ≤ s.length) : 0 ≤ tcTo p tgt x s k ∧ tcTo p tgt x s k ≤ 902002000 * k :=
  tcTo_bd2 hE (seqB_at hs).1 k hk fun j hj => (seqB_at hs).2 j (by omega)
theorem refCost_spec (sp tp su : SlV) (p : List Un) (tgt : List Wan) (x : Wts) (s : List Int) (w : World) (hvo : VoRd w sp p) (htp : Stb w [] (RdL tp.v tgt)) (hsu : Stb w [] (RdL su.v s)) (hE : beginE p tgt x = 0) (hs : seqB p tgt s = true) :
    Calls Tryz.prog 59 #[sp.v, tp.v, val x, su.v] w fun e w' => e = .returned (.int .i64 ((tsk p tgt x).tc 0 s)) ∧ Cl w [] [] w' := by
  have hvl := hvo.l
  have hL := rd_len hvl.here
  have hL2 := rd_len hsu.here
  obtain ⟨hl, hall⟩ := seqB_at hs
  obtain ⟨m1, m2, hv1, hv2, hv3⟩ := beginE_ok hE
  refine calls_cw (vs := [_, _, _, _]) Tryz.func59 rfl Tryz.ntmps59 rfl (Cl.start0 w) (cw_seq (cw_region ?_))
  refine sw_x rfl rfl rfl (e_box rfl rfl rfl) (fun b6 => ?_)
  refine sr rfl rfl rfl ((q_assign rfl rfl)) (sw_nil (post_then (cw_seq (cw_region (sr rfl rfl rfl ((q_assign rfl rfl)) (sw_nil (post_then (cw_seq (cw_seq (cw_region (sr rfl rfl rfl ((q_assign rfl rfl)) (sw_nil (post_then (cw_block ?_))))))))))))))
  refine cw_loop (S := Nat) (fun k => [(0, [], sp.v), (1, [], tp.v), (3, [], su.v), (6, [], .pointer (some ⟨b6, 0, none⟩)), (9, [], .int .i64 (tcTo p tgt x s k)), (10, [], .int .i64 k)]) (fun _ => Cl w [] [blk b6 (enc x) 25]) (fun k => k ≤ s.length) (fun k => s.length - k) 0 (Nat.zero_le _) (by exact .cons rfl (.cons rfl (.cons rfl (.cons rfl (.cons rfl (.cons rfl .nil)))))) (fun _ h => h) ?_
  intro k hk
  refine cw_seq (cw_seq (cw_region (sr rfl rfl rfl ((q_move rfl rfl)) (sr rfl rfl rfl ((q_move rfl rfl)) ?_))))
  refine sr rfl rfl rfl ((q_len rfl (.cons rfl inferInstance (.nil)) (by exact fun w hw => Stb.cl (by assumption) hw))) ?_
  refine sr rfl rfl rfl ((q_lss rfl rfl rfl)) (sw_nil (post_then ?_))
  refine cw_cond rfl (fun h2 => ?_) (fun h2 => ?_)
  · skip
    have hk' : k < s.length := by simp only [decide_eq_true_eq] at h2; omega
    have hr := seq_at (hall k hk')
    have hbd := tcTo_bd hE hs k (by omega)
    have hpt := tc_parts hE hs hk'
    have hsc := tcTo_succ (p := p) (tgt := tgt) (x := x) hk'
    have ek : nth p (nth s k).toNat ∈ p := nth_mem (by omega)
    refine cw_skip (post_then (cw_seq (cw_block (cw_seq ?_))))
    refine cw_region_q mixed_Tryz (by kernel_rfl) ?_
    refine qr rfl rfl rfl ((q_move rfl rfl)) (qr rfl rfl rfl ((q_move rfl rfl)) (qr rfl rfl rfl ((q_move rfl rfl)) (qr rfl rfl rfl ((q_move rfl rfl)) ?_)))
    refine qr rfl rfl rfl ((q_indexN rfl rfl rfl (by exact fun w hw => Stb.cl (by assumption) hw) (by intro hc; omega))) ?_
    refine qr rfl rfl rfl ((q_loadEl rfl rfl rfl (by exact fun w hw => Stb.cl (by assumption) hw) (by intro hc; omega))) ?_
    refine qr rfl rfl rfl ((q_index rfl rfl rfl (by exact fun w hw => Stb.cl (by assumption) hw) (by intro hc; omega))) ?_
    refine qr rfl rfl rfl ((q_loadEl rfl rfl rfl (by exact fun w hw => Stb.cl (by assumption) hw) (by intro hc; omega))) ?_
    refine qr rfl rfl rfl ((q_move rfl rfl)) (qr rfl rfl rfl ((q_move rfl rfl)) ?_)
    refine qr rfl rfl rfl ((q_indexN rfl rfl rfl (by exact fun w hw => Stb.cl (by assumption) hw) (by intro hc; omega))) ?_
    refine qr rfl rfl rfl ((q_loadEl rfl rfl rfl (by exact fun w hw => Stb.cl (by assumption) hw) (by intro hc; omega))) ?_
    refine qr rfl rfl rfl ((q_loadA rfl rfl (by exact .head _) rfl)) ?_
    refine qw_step rfl rfl rfl (q_call (CanCall.mk Tryz.call49) rfl (.cons rfl inferInstance (.cons rfl inferInstance (.cons rfl inferInstance (.nil)))) (fun _ w hw => callq hw (refTarget_spec (nth p (nth s k).toNat) (nth tgt k) x w (vo_ok hv1 ek) (wa_ok (List.all_eq_true.1 hv2 _ (nth_mem (by omega)))) (wt_ok hv3)))) ?_
    refine qr rfl rfl rfl ((q_add rfl rfl rfl (by intro hc; omega))) ?_
    refine qr rfl rfl rfl ((q_assign rfl rfl)) (qw_end (post_then (cw_seq (cw_region (sr rfl rfl rfl ((q_move rfl rfl)) (sr rfl rfl rfl ((q_gtr rfl rfl rfl)) (sw_nil (post_then ?_))))))))
    refine cw_cut (S := Unit) (fun _ => [(0, [], sp.v), (1, [], tp.v), (3, [], su.v), (6, [], .pointer (some ⟨b6, 0, none⟩)), (9, [], .int .i64 (tcTo p tgt x s (k + 1))), (10, [], .int .i64 k)]) (fun _ => Cl w [] [blk b6 (enc x) 25]) (fun _ => True) ?_ ?_
    · refine cw_cond rfl (fun h3 => ?_) (fun h3 => ?_)
      · skip
        have h0 : 0 < k := by simp only [decide_eq_true_eq] at h3; omega
        have e1 : ((k : Int) - 1).toNat = k - 1 := by omega
        have ej : jnAt p x s k = joinC x (nth p (nth s ((k : Int) - 1).toNat).toNat) (nth p (nth s k).toNat) := by rw [jnAt, if_pos h0, e1]
        have hr2 := seq_at (hall (k - 1) (by omega))
        rw [← e1] at hr2
        have em : nth p (nth s ((k : Int) - 1).toNat).toNat ∈ p := nth_mem (by omega)
        rw [ej] at hpt hsc
        refine cw_region_q mixed_Tryz (by kernel_rfl) ?_
        refine qr rfl rfl rfl ((q_move rfl rfl)) (qr rfl rfl rfl ((q_move rfl rfl)) (qr rfl rfl rfl ((q_move rfl rfl)) (qr rfl rfl rfl ((q_move rfl rfl)) ?_)))
        refine qr rfl rfl rfl ((q_sub rfl rfl rfl (by intro hc; omega))) ?_
        refine qr rfl rfl rfl ((q_index rfl rfl rfl (by exact fun w hw => Stb.cl (by assumption) hw) (by intro hc; omega))) ?_
        refine qr rfl rfl rfl ((q_loadEl rfl rfl rfl (by exact fun w hw => Stb.cl (by assumption) hw) (by intro hc; omega))) ?_
        refine qr rfl rfl rfl ((q_index rfl rfl rfl (by exact fun w hw => Stb.cl (by assumption) hw) (by intro hc; omega))) ?_
        refine qr rfl rfl rfl ((q_loadEl rfl rfl rfl (by exact fun w hw => Stb.cl (by assumption) hw) (by intro hc; omega))) ?_
        refine qr rfl rfl rfl ((q_move rfl rfl)) (qr rfl rfl rfl ((q_move rfl rfl)) (qr rfl rfl rfl ((q_move rfl rfl)) ?_))
        refine qr rfl rfl rfl ((q_indexN rfl rfl rfl (by exact fun w hw => Stb.cl (by assumption) hw) (by intro hc; omega))) ?_
        refine qr rfl rfl rfl ((q_loadEl rfl rfl rfl (by exact fun w hw => Stb.cl (by assumption) hw) (by intro hc; omega))) ?_
        refine qr rfl rfl rfl ((q_index rfl rfl rfl (by exact fun w hw => Stb.cl (by assumption) hw) (by intro hc; omega))) ?_
        refine qr rfl rfl rfl ((q_loadEl rfl rfl rfl (by exact fun w hw => Stb.cl (by assumption) hw) (by intro hc; omega))) ?_
        refine qr rfl rfl rfl ((q_loadA rfl rfl (by exact .head _) rfl)) ?_
        refine qw_step rfl rfl rfl (q_call (CanCall.mk Tryz.call51) rfl (.cons rfl inferInstance (.cons rfl inferInstance (.cons rfl inferInstance (.nil)))) (fun _ w hw => callq hw (refJoin_spec (nth p (nth s ((k : Int) - 1).toNat).toNat) (nth p (nth s k).toNat) x w ((hvo.arg hw).u _ em) ((hvo.arg hw).u _ ek) (vo_ok hv1 em) (vo_ok hv1 ek) (vo_bl hv1 em ek) (wt_ok hv3)))) ?_
        refine qr rfl rfl rfl ((q_add rfl rfl rfl (by intro hc; omega))) ?_
        refine qr rfl rfl rfl ((q_assign rfl rfl)) (qw_end ?_)
        refine post_meet () ?_ (fun _ h => h) trivial
        rw [hsc]
        exact (by exact .cons rfl (.cons rfl (.cons rfl (.cons rfl (.cons rfl (.cons rfl .nil))))))
      · skip
        have h0 : ¬ 0 < k := by simp only [decide_eq_false_iff_not] at h3; omega
        have ej : jnAt p x s k = 0 := by rw [jnAt, if_neg h0]
        rw [ej, Int.add_zero] at hsc
        refine cw_skip ?_
        refine post_meet () ?_ (fun _ h => h) trivial
        rw [hsc]
        exact (by exact .cons rfl (.cons rfl (.cons rfl (.cons rfl (.cons rfl (.cons rfl .nil))))))
    · intro _ _
      refine post_blk (post_then (cw_region (sr rfl rfl rfl ((q_move rfl rfl)) ?_)))
      refine sr rfl rfl rfl ((q_add rfl rfl rfl (by intro hc; omega))) ?_
      refine sr rfl rfl rfl ((q_assign rfl rfl)) (sw_nil ?_)
      exact post_next (k + 1) (by exact .cons rfl (.cons rfl (.cons rfl (.cons rfl (.cons rfl (.cons rfl .nil)))))) (fun _ h => h) (by omega) (by omega)
  · skip
    have hk' : k = s.length := by simp only [decide_eq_false_iff_not] at h2; omega
    subst hk'
    refine cw_exit (post_then_x (post_then_x (post_blk_eq (post_then (cw_seq (cw_region (sr rfl rfl rfl ((q_move rfl rfl)) (sr rfl rfl rfl ((q_assign rfl rfl)) (sw_nil (post_then (cw_ret (post_ret1 rfl (resOk_tmp rfl) ?_))))))))))))
    exact fun w' hw => ⟨by rw [tcTo, List.take_length], (fun w h => Cl.sel (by exact .nil _) w h) _ hw⟩
end Go.Proofs.YtomjbfeafodfbaaGreat

/- All sequences, built target by target; put in order by their costs. Plain lemmas, no program text. -/
set_option autoImplicit false
namespace Go.Sx
theorem seqLt_as {x y : List Int × Int} (h : seqLt x y) : ¬ seqLt y x := by
  intro k
  rcases h with h | ⟨h, h'⟩ <;> rcases k with k | ⟨k, k'⟩
  · omega
  · omega
  · omega
  · rw [lex_as _ _ h'] at k'; cases k'
/-- A sorted list that begins with the sorted smaller ones. -/
theorem take_sorted {α : Type} {r : α → α → Prop} (asy : ∀ a b, r a b → ¬ r b a) : ∀ {a b l : List α}, l.Pairwise r → l.Perm (a ++ b) → a.Pairwise r → (∀ x ∈ a, ∀ y ∈ b, r x y) → l.take a.length = a
  | [], _, _, _, _, _, _ => by simp
  | x :: a, b, l, hl, hp, ha, hab => by
    cases l with
    | nil => exact absurd hp.length_eq (by simp)
    | cons y l =>
      have h1 := List.pairwise_cons.1 ha
      have h2 := List.pairwise_cons.1 hl
      have hxl : x ∈ y :: l := hp.mem_iff.2 (by simp)
      have hy : y ∈ x :: a ++ b := hp.mem_iff.1 (by simp)
      have hyx : y = x := by
        rcases List.mem_cons.1 hxl with e | e
        · exact e.symm
        · exfalso
          have k1 := h2.1 x e
          rcases List.mem_append.1 hy with f | f
          · rcases List.mem_cons.1 f with g | g
            · subst g; exact asy _ _ k1 k1
            · exact asy _ _ k1 (h1.1 y g)
          · exact asy _ _ k1 (hab x (by simp) y f)
      subst hyx
      have := take_sorted asy (a := a) (b := b) h2.2 hp.cons_inv h1.2 (fun z hz => hab z (by simp [hz]))
      rw [List.length_cons, List.take_succ_cons, this]
/-- Where a sequence goes: behind those that do not cost more. -/
theorem ins_sorted {out : List (List Int × Int)} (hs : out.Pairwise seqLt) {x : List Int × Int} (hlex : ∀ o ∈ out, lexLt o.1 x.1 = true) {k : Nat} (hk : k ≤ out.length) (hhi : ∀ j, k ≤ j → j < out.length → x.2 < (nth out j).2) (hlo : k = 0 ∨ (nth out (k - 1)).2 ≤ x.2) : (out.take k ++ [x] ++ out.drop k).Pairwise seqLt := by
  have e : out = out.take k ++ out.drop k := (List.take_append_drop k out).symm
  rw [e] at hs
  obtain ⟨p1, p2, p3⟩ := List.pairwise_append.1 hs
  have hd : ∀ o ∈ out.drop k, x.2 < o.2 := fun o ho => by
    obtain ⟨i, hi, rfl⟩ := List.getElem_of_mem ho
    rw [List.length_drop] at hi
    have := hhi (k + i) (by omega) (by omega)
    rw [nth_get (by omega)] at this
    simpa using this
  have ht : ∀ o ∈ out.take k, o.2 ≤ x.2 := fun o ho => by
    rcases hlo with h | h
    · subst h; simp at ho
    · by_cases h0 : k = 0
      · subst h0; simp at ho
      · have e2 : out.take k = out.take (k - 1) ++ [nth out (k - 1)] := by
          have : k - 1 < out.length := by omega
          rw [nth_get this, ← List.take_succ_eq_append_getElem this, show k - 1 + 1 = k by omega]
        rw [e2] at ho p1
        rcases List.mem_append.1 ho with ho | ho
        · have := (List.pairwise_append.1 p1).2.2 o ho _ (List.mem_singleton.2 rfl)
          rcases this with f | ⟨f, _⟩ <;> omega
        · rw [List.mem_singleton.1 ho]; exact h
  refine List.pairwise_append.2 ⟨List.pairwise_append.2 ⟨p1, by simp, fun a ha b hb => ?_⟩, p2, fun a ha b hb => ?_⟩
  · simp only [List.mem_singleton] at hb
    subst hb
    have h1 := ht a ha
    by_cases e1 : a.2 = b.2
    · exact .inr ⟨e1, hlex a (List.mem_of_mem_take ha)⟩
    · exact .inl (by omega)
  · rcases List.mem_append.1 ha with ha | ha
    · exact p3 a ha b hb
    · simp only [List.mem_singleton] at ha
      subst ha
      exact .inl (hd b hb)
namespace Tsk
variable (t : Tsk)
/-- The beginnings with so many targets. -/
def pre : Nat → List (List Int)
  | 0 => [[]]
  | i + 1 => (pre i).flatMap fun s => (t.us i).map fun u => s ++ [u]
theorem pre_len : ∀ i, ∀ s ∈ t.pre i, s.length = i
  | 0, s, h => by simp [pre] at h; simp [h]
  | i + 1, s, h => by
    simp only [pre, List.mem_flatMap, List.mem_map] at h
    obtain ⟨s', hs, u, _, rfl⟩ := h
    simp [pre_len i s' hs]
theorem pre_mem : ∀ i, ∀ s ∈ t.pre i, ∀ k, k < i → nth s k ∈ t.us k
  | 0, _, _, k, hk => by omega
  | i + 1, s, h, k, hk => by
    simp only [pre, List.mem_flatMap, List.mem_map] at h
    obtain ⟨s', hs, u, hu, rfl⟩ := h
    have hl := pre_len t i s' hs
    by_cases e : k = i
    · subst e
      have : nth (s' ++ [u]) k = u := by simp only [nth, List.getD]; rw [List.getElem?_append_right (by omega)]; simp [hl]
      rw [this]; exact hu
    · have : nth (s' ++ [u]) k = nth s' k := by simp only [nth, List.getD]; rw [List.getElem?_append_left (by omega)]
      rw [this]; exact pre_mem i s' hs k (by omega)
theorem pre_tl : ∀ i k, i + k = t.T → t.tl t.T = (t.pre i).flatMap fun s => (t.tl k).map (s ++ ·)
  | 0, k, h => by simp only [pre, List.flatMap_cons, List.flatMap_nil, List.append_nil, List.nil_append]; rw [show t.T = k by omega]; simp
  | i + 1, k, h => by
    rw [pre_tl i (k + 1) (by omega), pre, List.flatMap_assoc]
    congr 1
    funext s
    rw [tl, show t.T - (k + 1) = i by omega, List.map_flatMap, List.flatMap_map]
    congr 1
    funext u
    simp [List.map_map, Function.comp_def]
theorem pre_all : t.tl t.T = t.pre t.T := by
  rw [t.pre_tl t.T 0 (by omega)]
  simp [tl]
theorem lex_cons (u : Int) (a b : List Int) (h : lexLt a b = true) : lexLt (u :: a) (u :: b) = true := by
  show (decide (u < u) || (decide (u = u) && lexLt a b)) = true
  rw [h]; simp
theorem tl_lex (hr : t.Rise) : ∀ k, (t.tl k).Pairwise (fun a b => lexLt a b = true)
  | 0 => by simp [tl]
  | k + 1 => by
    rw [tl, List.pairwise_flatMap]
    refine ⟨fun u _ => List.pairwise_map.2 ((tl_lex hr k).imp fun h => lex_cons u _ _ h), ?_⟩
    refine (hr _).imp fun {u v} huv x hx y hy => ?_
    obtain ⟨a, _, rfl⟩ := List.mem_map.1 hx
    obtain ⟨b, _, rfl⟩ := List.mem_map.1 hy
    show (decide (u < v) || (decide (u = v) && lexLt a b)) = true
    simp [huv]
/-- All sequences in their order. -/
def allS : List (List Int × Int) → Prop := fun l => l.Pairwise seqLt ∧ l.Perm ((t.tl t.T).map fun s => (s, t.tc 0 s))
theorem allS_bf {t : Tsk} {l : List Itm} {out all : List (List Int × Int)} (ha : t.allS all) (h : t.BF l out) : all.take out.length = out := by
  refine take_sorted (r := seqLt) (fun a b h => seqLt_as h) (b := (l.flatMap t.comp).map fun s => (s, t.tc 0 s)) ha.1 (ha.2.trans ?_) h.srt (fun x hx y hy => ?_)
  · have e : out = (out.map (·.1)).map fun s => (s, t.tc 0 s) := by
      rw [List.map_map]
      refine (List.map_id out).symm.trans (List.map_congr_left fun o ho => ?_)
      have := h.cst o ho
      simp only [id, Function.comp]
      rw [← this]
    conv => rhs; lhs; rw [e]
    rw [← List.map_append]
    exact (h.cov.symm.trans List.perm_append_comm).map _
  · obtain ⟨s, hs, rfl⟩ := List.mem_map.1 hy
    exact h.bel x hx s hs
theorem allS_len {t : Tsk} {l : List Itm} {out all : List (List Int × Int)} (ha : t.allS all) (h : t.BF l out) {n : Nat} (h1 : l = [] ∨ out.length = n) (h2 : out.length ≤ n) : out.length = min n all.length := by
  have e1 : all.length = (l.flatMap t.comp).length + out.length := by
    rw [ha.2.length_eq, List.length_map, ← h.cov.length_eq, List.length_append, List.length_map]
  rcases h1 with h1 | h1
  · subst h1
    simp only [List.flatMap_nil, List.length_nil] at e1
    omega
  · omega
/-- The best one is the first one. -/
theorem allS_first {t : Tsk} {all : List (List Int × Int)} (ha : t.allS all) {s : List Int} {c : Int} (h1 : s ∈ t.tl t.T) (h2 : c = t.tc 0 s) (h3 : ∀ s' ∈ t.tl t.T, s' = s ∨ seqLt (s, c) (s', t.tc 0 s')) : ∃ r, all = (s, c) :: r := by
  have hm : (s, c) ∈ all := ha.2.mem_iff.2 (List.mem_map.2 ⟨s, h1, by rw [h2]⟩)
  cases all with
  | nil => cases hm
  | cons y r =>
    refine ⟨r, ?_⟩
    rcases List.mem_cons.1 hm with e | e
    · rw [e]
    · exfalso
      have k1 := (List.pairwise_cons.1 ha.1).1 _ e
      have hy : y ∈ (t.tl t.T).map fun s => (s, t.tc 0 s) := ha.2.mem_iff.1 (by simp)
      obtain ⟨s', hs', rfl⟩ := List.mem_map.1 hy
      rcases h3 s' hs' with f | f
      · subst f; rw [← h2] at k1; exact seqLt_as k1 k1
      · exact seqLt_as k1 f
end Tsk
end Go.Sx

set_option autoImplicit false
set_option maxRecDepth 100000
namespace Go.Proofs.YtomjbfeafodfbaaGreat
open Go.Sx
open Enc (enc val)
theorem at_q {P : Program} {ops : Array Oper} {C : World → Prop} {n : Fr} {E : Env} {Q : Exit → Act → World → Prop} {S : World → Prop} {m : List Nat} {f : Nat} {listed : Array Bool} (i : Nat) {o : Oper} {d : Nat} {v : Value} (hi : ops[i]? = some o) (hg : o.guard = none) (hd : o.dst = some d) (hn : Nat.ble (d + 1) n.sz = true)
    (hop : OpQ P n E C [] o v) (hS : m.contains i = false → ∀ w, C w → S w) (h : AW P ops Q S m f (listed.setIfInBounds i true) n ((d, [], v) :: E) C) : AWat P ops Q S m f listed i n E C :=
  at_one i hi hg hd hn hop.eff (fun hb v w hx => hS hb w hx.2) fun _ => aw_imp fun hv => by subst hv; exact h
def prodTo (p : List Un) (tgt : List Wan) : Nat → Nat
  | 0 => 1
  | i + 1 => prodTo p tgt i * (idxs p p.length (nth tgt i).phone).length
def fewB (p : List Un) (tgt : List Wan) (m : Nat) : Bool := (List.range tgt.length).all fun i => decide (prodTo p tgt (i + 1) ≤ m)
theorem few_no {p : List Un} {tgt : List Wan} {m i : Nat} (hi : i < tgt.length) (h : m < prodTo p tgt (i + 1)) : fewB p tgt m = false := List.all_eq_false.2 ⟨i, by simpa using hi, by simp; omega⟩
theorem few_yes {p : List Un} {tgt : List Wan} {m : Nat} (h : ∀ i, i < tgt.length → prodTo p tgt (i + 1) ≤ m) : fewB p tgt m = true := List.all_eq_true.2 fun i hi => by simpa using h i (by simpa using hi)
theorem few_at {p : List Un} {tgt : List Wan} {m : Nat} (hm : 1 ≤ m) (h : fewB p tgt m = true) (i : Nat) (hi : i ≤ tgt.length) : prodTo p tgt i ≤ m := by
  cases i with
  | zero => exact hm
  | succ i =>
    have := List.all_eq_true.1 h i (by simp; omega)
    simpa using this
theorem pre_count (p : List Un) (tgt : List Wan) (x : Wts) : ∀ i, ((tsk p tgt x).pre i).length = prodTo p tgt i
  | 0 => rfl
  | i + 1 => by
    rw [Tsk.pre, prodTo, ← pre_count p tgt x i]
    generalize (tsk p tgt x).pre i = l
    induction l with
    | nil => simp
    | cons s r ih => rw [List.flatMap_cons, List.length_append, List.length_map, ih, List.length_cons, Nat.succ_mul]; exact Nat.add_comm _ _
theorem few_spec (sp tp : SlV) (p : List Un) (tgt : List Wan) (w : World) (hp : p.length ≤ 2000) (hvl : Stb w [] (RdL sp.v p)) (htp : Stb w [] (RdL tp.v tgt)) :
    Calls Tryz.prog 25 #[sp.v, tp.v, .int .i64 200] w fun e w' => e = .returned (.bool (fewB p tgt 200)) ∧ Cl w [] [] w' := by
  have hL := rd_len htp.here
  refine calls_cw (vs := [_, _, _]) Tryz.func25 rfl Tryz.ntmps25 rfl (Cl.start0 w) (cw_seq (cw_region (sr rfl rfl rfl ((q_assign rfl rfl)) (sw_nil (post_then (cw_seq (cw_region (sr rfl rfl rfl ((q_assign rfl rfl)) (sw_nil (post_then (cw_seq (cw_seq (cw_region (sr rfl rfl rfl ((q_assign rfl rfl)) (sw_nil (post_then (cw_block ?_)))))))))))))))))
  refine cw_loop (S := Nat) (fun i => [(0, [], sp.v), (1, [], tp.v), (2, [], .int .i64 200), (7, [], .int .i64 (prodTo p tgt i)), (8, [], .int .i64 i)]) (fun _ => Cl w [] []) (fun i => i ≤ tgt.length ∧ prodTo p tgt i ≤ 200 ∧ ∀ j, j < i → prodTo p tgt (j + 1) ≤ 200) (fun i => tgt.length - i) 0 ⟨Nat.zero_le _, by simp [prodTo], fun j hj => by omega⟩ (by exact .cons rfl (.cons rfl (.cons rfl (.cons rfl (.cons rfl .nil))))) (fun _ h => h) ?_
  rintro i ⟨hi, h200, hall⟩
  refine cw_seq (cw_seq (cw_region (sr rfl rfl rfl ((q_move rfl rfl)) (sr rfl rfl rfl ((q_move rfl rfl)) ?_))))
  refine sr rfl rfl rfl ((q_len rfl (.cons rfl inferInstance (.nil)) (by exact fun w hw => Stb.cl (by assumption) hw))) ?_
  refine sr rfl rfl rfl ((q_lss rfl rfl rfl)) (sw_nil (post_then ?_))
  refine cw_cond rfl (fun h => ?_) (fun h => ?_)
  · skip
    have hi' : i < tgt.length := by simp only [decide_eq_true_eq] at h; omega
    refine cw_skip (post_then (cw_seq (cw_block (cw_seq (cw_region (sr rfl rfl rfl ((q_assign rfl rfl)) (sw_nil (post_then (cw_seq (cw_seq (cw_region (sr rfl rfl rfl ((q_assign rfl rfl)) (sw_nil (post_then (cw_block ?_)))))))))))))))
    refine cw_loop (S := Nat) (fun u => [(0, [], sp.v), (1, [], tp.v), (2, [], .int .i64 200), (7, [], .int .i64 (prodTo p tgt i)), (8, [], .int .i64 i), (9, [], .int .i64 (idxs p u (nth tgt i).phone).length), (10, [], .int .i64 u)]) (fun _ => Cl w [] []) (fun u => u ≤ p.length) (fun u => p.length - u) 0 (Nat.zero_le _) (by exact .cons rfl (.cons rfl (.cons rfl (.cons rfl (.cons rfl (.cons rfl (.cons rfl .nil))))))) (fun _ h => h) ?_
    intro u hu
    have hul := idxs_len p u (nth tgt i).phone
    have hss := congrArg List.length (idxs_succ p u (nth tgt i).phone)
    rw [List.length_append] at hss
    refine cw_seq (cw_seq (cw_region (sr rfl rfl rfl ((q_move rfl rfl)) (sr rfl rfl rfl ((q_move rfl rfl)) ?_))))
    refine sr rfl rfl rfl ((q_len rfl (.cons rfl inferInstance (.nil)) (by exact fun w hw => Stb.cl (by assumption) hw))) ?_
    refine sr rfl rfl rfl ((q_lss rfl rfl rfl)) (sw_nil (post_then ?_))
    refine cw_cond rfl (fun h2 => ?_) (fun h2 => ?_)
    · skip
      have hu' : u < p.length := by simp only [decide_eq_true_eq] at h2; omega
      refine cw_skip (post_then (cw_seq (cw_block (cw_seq ?_))))
      refine cw_region_q mixed_Tryz (by kernel_rfl) ?_
      refine qr rfl rfl rfl ((q_move rfl rfl)) (qr rfl rfl rfl ((q_move rfl rfl)) ?_)
      refine qr rfl rfl rfl ((q_indexN rfl rfl rfl (by exact fun w hw => Stb.cl (by assumption) hw) (by intro hc; omega))) ?_
      refine qr rfl rfl rfl ((q_fieldEl rfl rfl (by exact fun w hw => Stb.cl (by assumption) hw) (by intro hc; omega))) ?_
      refine qr rfl rfl rfl ((q_loadF rfl rfl rfl (by exact fun w hw => Stb.cl (by assumption) hw) (by intro hc; omega) rfl)) ?_
      refine qr rfl rfl rfl ((q_move rfl rfl)) (qr rfl rfl rfl ((q_move rfl rfl)) ?_)
      refine qr rfl rfl rfl ((q_indexN rfl rfl rfl (by exact fun w hw => Stb.cl (by assumption) hw) (by intro hc; omega))) ?_
      refine qr rfl rfl rfl ((q_fieldEl rfl rfl (by exact fun w hw => Stb.cl (by assumption) hw) (by intro hc; omega))) ?_
      refine qr rfl rfl rfl ((q_loadF rfl rfl rfl (by exact fun w hw => Stb.cl (by assumption) hw) (by intro hc; omega) rfl)) ?_
      refine qr rfl rfl rfl ((q_eqlStr rfl rfl rfl Tryz.underlying9)) (qw_end (post_then ?_))
      refine cw_cond rfl (fun h3 => ?_) (fun h3 => ?_)
      · skip
        rw [if_pos (by simpa using h3), List.length_singleton] at hss
        refine cw_region (sr rfl rfl rfl ((q_move rfl rfl)) ?_)
        refine sr rfl rfl rfl ((q_add rfl rfl rfl (by intro hc; omega))) ?_
        refine sr rfl rfl rfl ((q_assign rfl rfl)) (sw_nil (post_blk (post_then (cw_region (sr rfl rfl rfl ((q_move rfl rfl)) ?_)))))
        refine sr rfl rfl rfl ((q_add rfl rfl rfl (by intro hc; omega))) ?_
        refine sr rfl rfl rfl ((q_assign rfl rfl)) (sw_nil ?_)
        refine post_next (u + 1) ?_ (fun _ h => h) (by omega) (by omega)
        rw [hss]
        exact (by exact .cons rfl (.cons rfl (.cons rfl (.cons rfl (.cons rfl (.cons rfl (.cons rfl .nil)))))))
      · skip
        rw [if_neg (by simpa using h3), List.length_nil, Nat.add_zero] at hss
        refine cw_skip (post_blk (post_then (cw_region (sr rfl rfl rfl ((q_move rfl rfl)) ?_))))
        refine sr rfl rfl rfl ((q_add rfl rfl rfl (by intro hc; omega))) ?_
        refine sr rfl rfl rfl ((q_assign rfl rfl)) (sw_nil ?_)
        refine post_next (u + 1) ?_ (fun _ h => h) (by omega) (by omega)
        rw [hss]
        exact (by exact .cons rfl (.cons rfl (.cons rfl (.cons rfl (.cons rfl (.cons rfl (.cons rfl .nil)))))))
    · skip
      have hu' : u = p.length := by simp only [decide_eq_false_iff_not] at h2; omega
      subst hu'
      have hm : prodTo p tgt i * (idxs p p.length (nth tgt i).phone).length ≤ 200 * 2000 := Nat.mul_le_mul h200 (by omega)
      have hc : ((prodTo p tgt i : Nat) : Int) * ((idxs p p.length (nth tgt i).phone).length : Int) = ((prodTo p tgt (i + 1) : Nat) : Int) := by rw [prodTo]; push_cast; rfl
      have hc2 : prodTo p tgt (i + 1) ≤ 200 * 2000 := hm
      have hc3 : -9223372036854775808 ≤ ((prodTo p tgt i : Nat) : Int) * ((idxs p p.length (nth tgt i).phone).length : Int) ∧ ((prodTo p tgt i : Nat) : Int) * ((idxs p p.length (nth tgt i).phone).length : Int) ≤ 9223372036854775807 := by rw [hc]; omega
      refine cw_exit (post_then_x (post_then_x (post_blk_eq (post_then (cw_seq (cw_region (sr rfl rfl rfl ((q_move rfl rfl)) (sr rfl rfl rfl ((q_move rfl rfl)) ?_))))))))
      refine sr rfl rfl rfl ((q_mul rfl rfl rfl (by intro hc; omega))) ?_
      refine sr rfl rfl rfl ((q_assign rfl rfl)) (sw_nil (post_then (cw_seq (cw_region (sr rfl rfl rfl ((q_move rfl rfl)) (sr rfl rfl rfl ((q_move rfl rfl)) (sr rfl rfl rfl ((q_gtr rfl rfl rfl)) (sw_nil (post_then ?_)))))))))
      rw [hc]
      refine cw_cond rfl (fun h3 => ?_) (fun h3 => ?_)
      · skip
        have h4 : 200 < prodTo p tgt (i + 1) := by simp only [decide_eq_true_eq] at h3; omega
        refine cw_seq (cw_region (sr rfl rfl rfl ((q_assign rfl rfl)) (sw_nil (post_then (cw_ret (post_blk_r (post_then_r (post_then_r (post_blk_r (post_then_r (post_ret1 rfl (resOk_tmp rfl) ?_)))))))))))
        exact fun w' hw => ⟨by rw [few_no hi' h4], (fun w h => Cl.sel (by exact .nil _) w h) _ hw⟩
      · skip
        have h4 : prodTo p tgt (i + 1) ≤ 200 := by simp only [decide_eq_false_iff_not] at h3; omega
        refine cw_skip (post_blk (post_then (cw_region (sr rfl rfl rfl ((q_move rfl rfl)) ?_))))
        refine sr rfl rfl rfl ((q_add rfl rfl rfl (by intro hc; omega))) ?_
        refine sr rfl rfl rfl ((q_assign rfl rfl)) (sw_nil ?_)
        refine post_next (i + 1) (by exact .cons rfl (.cons rfl (.cons rfl (.cons rfl (.cons rfl .nil))))) (fun _ h => h) ⟨by omega, h4, fun j hj => ?_⟩ (by omega)
        by_cases e : j = i
        · rw [e]; exact h4
        · exact hall j (by omega)
  · skip
    have hi' : i = tgt.length := by simp only [decide_eq_false_iff_not] at h; omega
    subst hi'
    refine cw_exit (post_then_x (post_then_x (post_blk_eq (post_then (cw_seq (cw_region (sr rfl rfl rfl ((q_assign rfl rfl)) (sw_nil (post_then (cw_ret (post_ret1 rfl (resOk_tmp rfl) ?_)))))))))))
    exact fun w' hw => ⟨by rw [few_yes hall], (fun w h => Cl.sel (by exact .nil _) w h) _ hw⟩
structure LX where
  i : Nat
  s : SlV
  L : List (SlV × List Int)
structure NX where
  k : Nat
  s : SlV
  N : List (SlV × List Int)
theorem row_mem {w0 w : World} {fp : List Nat} {H : List Asn} {G : List (SlV × List Int)} (hw : Cl w0 fp H w) (hm : ∀ g ∈ G, rowG g ∈ H) {k : Nat} (hk : k < G.length) : RdL (nth (G.map Prod.fst) k).v (nth G k).2 w := by
  have e : nth (G.map Prod.fst) k = (nth G k).1 := by rw [nth_get (by simpa using hk), nth_get hk]; simp
  rw [e]
  exact rd_own (e := 3) hw (hm (nth G k) (nth_mem hk))
theorem snd_nth {G : List (SlV × List Int)} {l : List (List Int)} (h : G.map Prod.snd = l) {k : Nat} (hk : k < G.length) : nth l k = (nth G k).2 := by
  subst h
  rw [nth_get (by simpa using hk), nth_get hk]; simp
theorem perm_last {α : Type} {X A B C : α} {R S : List α} : (X :: A :: B :: C :: (R ++ S)).Perm (A :: B :: C :: (R ++ (S ++ [X]))) := by
  rw [← List.append_assoc]
  exact (List.perm_append_comm (l₁ := [X]) (l₂ := A :: B :: C :: (R ++ S)))
structure OX where
  i : Nat
  s : SlV
  O : List Sq
structure OutOk (t : Tsk) (L : List (SlV × List Int)) (i : Nat) (O : List Sq) : Prop where
  srt : (O.map keyS).Pairwise seqLt
  prm : (O.map keyS).Perm ((L.take i).map fun g => (g.2, t.tc 0 g.2))
  mem : ∀ q ∈ O, (q.us, q.ul) ∈ L
theorem OutOk.len {t : Tsk} {L : List (SlV × List Int)} {i : Nat} {O : List Sq} (h : OutOk t L i O) : O.length ≤ i := by
  have := h.prm.length_eq
  simp only [List.length_map, List.length_take] at this
  omega
theorem keyS_nth {O : List Sq} {j : Nat} (hj : j < O.length) : nth (O.map keyS) j = keyS (nth O j) := by
  rw [nth_get (by simpa using hj), nth_get hj]; simp
theorem out_step {t : Tsk} (hr : t.Rise) {L : List (SlV × List Int)} (hL : L.map Prod.snd = t.pre t.T) {i : Nat} (hi : i < L.length) {O : List Sq} (hO : OutOk t L i O) {q : Sq} (q1 : q.us = (nth L i).1) (q2 : q.ul = (nth L i).2) (q3 : q.cost = t.tc 0 q.ul) {k : Nat} (hk : k ≤ O.length)
    (hhi : ∀ j, k ≤ j → j < O.length → q.cost < (nth O j).cost) (hlo : 0 < k → ¬ q.cost < (nth O (k - 1)).cost) : OutOk t L (i + 1) (O.take k ++ [q] ++ O.drop k) := by
  have hLi : L[i] = (q.us, q.ul) := by rw [← nth_get hi, q1, q2]
  have hkey : (O.take k ++ [q] ++ O.drop k).map keyS = (O.map keyS).take k ++ [keyS q] ++ (O.map keyS).drop k := by simp [List.map_take, List.map_drop]
  have hlp : (t.pre t.T).Pairwise (fun a b => lexLt a b = true) := by rw [← t.pre_all]; exact t.tl_lex hr t.T
  refine ⟨?_, ?_, fun x hx => ?_⟩
  · rw [hkey]
    refine ins_sorted hO.srt (fun o ho => ?_) (by simpa using hk) (fun j h1 h2 => ?_) ?_
    · have ho2 := hO.prm.mem_iff.1 ho
      obtain ⟨g, hg, rfl⟩ := List.mem_map.1 ho2
      obtain ⟨j, hj, rfl⟩ := List.getElem_of_mem hg
      rw [List.length_take] at hj
      have h3 := List.pairwise_iff_getElem.1 hlp j i (by rw [← hL]; simp; omega) (by rw [← hL]; simpa using hi) (by omega)
      simp only [← hL, List.getElem_map, hLi] at h3
      simpa [keyS] using h3
    · rw [List.length_map] at h2
      rw [keyS_nth h2]
      exact hhi j h1 h2
    · by_cases h0 : k = 0
      · exact .inl h0
      · refine .inr ?_
        rw [keyS_nth (by omega)]
        have := hlo (by omega)
        simp only [keyS]
        omega
  · rw [List.take_succ_eq_append_getElem hi, hkey, List.map_append]
    have h1 : ((O.map keyS).take k ++ [keyS q] ++ (O.map keyS).drop k).Perm (O.map keyS ++ [keyS q]) := by
      rw [List.append_assoc]
      refine ((List.perm_append_comm (l₁ := [keyS q])).append_left _).trans ?_
      rw [← List.append_assoc, List.take_append_drop]
    refine h1.trans (hO.prm.append ?_)
    rw [hLi]
    simp [keyS, q3]
  · rcases List.mem_append.1 hx with hx | hx
    · rcases List.mem_append.1 hx with hx | hx
      · exact hO.mem x (List.mem_of_mem_take hx)
      · rw [List.mem_singleton.1 hx, ← hLi]; exact List.getElem_mem hi
    · exact hO.mem x (List.mem_of_mem_drop hx)
theorem out_all {t : Tsk} {L : List (SlV × List Int)} (hL : L.map Prod.snd = t.pre t.T) {O : List Sq} (hO : OutOk t L L.length O) : t.allS (O.map keyS) := by
  refine ⟨hO.srt, hO.prm.trans ?_⟩
  rw [List.take_length, t.pre_all, ← hL, List.map_map]
  exact .refl _
theorem pre_seq {p : List Un} {tgt : List Wan} {x : Wts} {s : List Int} (h : s ∈ (tsk p tgt x).pre tgt.length) : seqB p tgt s = true := by
  have hl := (tsk p tgt x).pre_len _ s h
  exact seq_yes hl fun k hk => by
    have := (tsk p tgt x).pre_mem _ s h k (by omega)
    exact decide_eq_true this
theorem cl_mid {w0 w : World} {fp : List Nat} {A B C : Asn} {R : List Asn} (h : Cl w0 fp (A :: B :: C :: R) w) : Cl w0 fp (A :: R) w := cl_drop (F := A :: R) (G := [B, C]) (h.perm (.cons _ (List.perm_append_comm (l₁ := [B, C]) (l₂ := R))))
set_option maxHeartbeats 2000000 in
theorem refSeqs_spec (sp tp : SlV) (p : List Un) (tgt : List Wan) (x : Wts) (w : World) (hvo : VoRd w sp p) (htp : Stb w [] (RdL tp.v tgt)) (hE : beginE p tgt x = 0) (hfew : fewB p tgt 200 = true) :
    Calls Tryz.prog 27 #[sp.v, tp.v, val x] w fun e w' => ∃ y : SlV × (List Sq × List (SlV × List Int)), e = .returned y.1.v ∧ ((tsk p tgt x).allS (y.2.1.map keyS) ∧ ∀ q ∈ y.2.1, (q.us, q.ul) ∈ y.2.2) ∧ Cl w [] (ownL 30 y.1.v y.2.1 :: y.2.2.map rowG) w' := by
  have hvl := hvo.l
  have hL := rd_len hvl.here
  have hL2 := rd_len htp.here
  obtain ⟨m1, m2, hv1, hv2, hv3⟩ := beginE_ok hE
  have eT : (tsk p tgt x).T = tgt.length := rfl
  have hrise : (tsk p tgt x).Rise := fun i => idxs_rise p _ p.length
  have hcnt : ∀ i, i ≤ tgt.length → ((tsk p tgt x).pre i).length ≤ 200 := fun i hi => by rw [pre_count]; exact few_at (by omega) hfew i hi
  refine calls_cw (vs := [_, _, _]) Tryz.func27 rfl Tryz.ntmps27 rfl (Cl.start0 w) (cw_seq (cw_region ?_))
  refine sw_x rfl rfl rfl (e_box rfl rfl rfl) (fun b5 => ?_)
  refine sr rfl rfl rfl ((q_assign rfl rfl)) (sw_nil (post_then (cw_seq (cw_region ?_))))
  refine sw_x rfl rfl rfl (e_build1 (α := SlV) (x := ⟨none, 0, 0⟩) rfl rfl rfl rfl) (fun s16 => ?_)
  refine sr rfl rfl rfl ((q_assign rfl rfl)) (sw_nil (post_then (cw_seq (cw_seq (cw_region (sr rfl rfl rfl ((q_assign rfl rfl)) (sw_nil (post_then (cw_block ?_)))))))))
  refine cw_loop (S := LX) (fun y => [(0, [], sp.v), (1, [], tp.v), (5, [], .pointer (some ⟨b5, 0, none⟩)), (7, [], y.s.v), (8, [], .int .i64 y.i)]) (fun y => Cl w [] (ownL 28 y.s.v (y.L.map Prod.fst) :: blk b5 (enc x) 25 :: y.L.map rowG)) (fun y => y.i ≤ tgt.length ∧ y.L.map Prod.snd = (tsk p tgt x).pre y.i) (fun y => tgt.length - y.i) ⟨0, s16, [(⟨none, 0, 0⟩, [])]⟩ ⟨Nat.zero_le _, rfl⟩ (by exact .cons rfl (.cons rfl (.cons rfl (.cons rfl (.cons rfl .nil))))) (fun w' h => ((h.addNil (α := Int) 3).perm (List.perm_append_comm (l₁ := [ownL (α := Int) 3 (.slice none 0 0) []])))) ?_
  rintro ⟨i, sl, L⟩ ⟨hi, hLp⟩
  dsimp only at hi hLp ⊢
  have hLl : L.length ≤ 200 := by have := congrArg List.length hLp; rw [List.length_map] at this; have := hcnt i hi; omega
  refine cw_seq (cw_seq (cw_region (sr rfl rfl rfl ((q_move rfl rfl)) (sr rfl rfl rfl ((q_move rfl rfl)) ?_))))
  refine sr rfl rfl rfl ((q_len rfl (.cons rfl inferInstance (.nil)) (by exact fun w hw => Stb.cl (by assumption) hw))) ?_
  refine sr rfl rfl rfl ((q_lss rfl rfl rfl)) (sw_nil (post_then ?_))
  refine cw_cond rfl (fun h => ?_) (fun h => ?_)
  · skip
    have hi' : i < tgt.length := by simp only [decide_eq_true_eq] at h; omega
    refine cw_skip (post_then (cw_seq (cw_block (cw_seq (cw_region (sr rfl rfl rfl ((q_assign rfl rfl)) (sw_nil (post_then (cw_seq (cw_seq (cw_region (sr rfl rfl rfl ((q_assign rfl rfl)) (sw_nil (post_then (cw_block ?_)))))))))))))))
    refine cw_loop (S := NX) (fun y => [(0, [], sp.v), (1, [], tp.v), (5, [], .pointer (some ⟨b5, 0, none⟩)), (7, [], sl.v), (8, [], .int .i64 i), (9, [], y.s.v), (10, [], .int .i64 y.k)]) (fun y => Cl w [] (ownL 28 y.s.v (y.N.map Prod.fst) :: ownL 28 sl.v (L.map Prod.fst) :: blk b5 (enc x) 25 :: (L.map rowG ++ y.N.map rowG))) (fun y => y.k ≤ L.length ∧ y.N.map Prod.snd = (((tsk p tgt x).pre i).take y.k).flatMap fun s => ((tsk p tgt x).us i).map fun u => s ++ [u]) (fun y => L.length - y.k) ⟨0, ⟨none, 0, 0⟩, []⟩ ⟨Nat.zero_le _, by simp⟩ (by exact .cons rfl (.cons rfl (.cons rfl (.cons rfl (.cons rfl (.cons rfl (.cons rfl .nil))))))) (fun w' h => by simp only [List.map_nil, List.append_nil]; exact h.addNil (α := SlV) 28) ?_
    rintro ⟨k, sn, N⟩ ⟨hk, hN⟩
    dsimp only at hk hN ⊢
    refine cw_seq (cw_seq (cw_region (sr rfl rfl rfl ((q_move rfl rfl)) (sr rfl rfl rfl ((q_move rfl rfl)) ?_))))
    refine sr rfl rfl rfl ((q_len rfl (.cons rfl inferInstance (.nil)) (by exact fun w hw => rd_own hw (by exact .tail _ (.head _))))) ?_
    refine sr rfl rfl rfl ((q_lss rfl rfl rfl)) (sw_nil (post_then ?_))
    refine cw_cond rfl (fun h2 => ?_) (fun h2 => ?_)
    · skip
      have hk' : k < L.length := by simp only [List.length_map, decide_eq_true_eq] at h2; omega
      have hkp : k < ((tsk p tgt x).pre i).length := by rw [← hLp, List.length_map]; exact hk'
      have hNl : N.length ≤ 200 * 2000 := by
        have e := congrArg List.length hN
        rw [List.length_map] at e
        have h5 : ∀ (l : List (List Int)), (l.flatMap fun s => ((tsk p tgt x).us i).map fun u => s ++ [u]).length = l.length * (idxs p p.length (nth tgt i).phone).length := fun l => by
          induction l with
          | nil => simp
          | cons s r ih => rw [List.flatMap_cons, List.length_append, List.length_map, ih, List.length_cons, Nat.succ_mul]; exact Nat.add_comm _ _
        rw [h5] at e
        rw [e]
        have := idxs_len p p.length (nth tgt i).phone
        exact Nat.mul_le_mul (by rw [List.length_take]; omega) (by omega)
      have hLk : nth ((tsk p tgt x).pre i) k = (nth L k).2 := snd_nth hLp hk'
      have hlk : (nth L k).2.length = i := by rw [← hLk]; exact (tsk p tgt x).pre_len i _ (nth_mem hkp)
      refine cw_skip (post_then (cw_seq (cw_block (cw_seq (cw_region (sr rfl rfl rfl ((q_assign rfl rfl)) (sw_nil (post_then (cw_block ?_)))))))))
      refine cw_loop (S := NX) (fun y => [(0, [], sp.v), (1, [], tp.v), (5, [], .pointer (some ⟨b5, 0, none⟩)), (7, [], sl.v), (8, [], .int .i64 i), (9, [], y.s.v), (10, [], .int .i64 k), (11, [], .int .i64 y.k)]) (fun y => Cl w [] (ownL 28 y.s.v (y.N.map Prod.fst) :: ownL 28 sl.v (L.map Prod.fst) :: blk b5 (enc x) 25 :: (L.map rowG ++ y.N.map rowG))) (fun y => y.k ≤ p.length ∧ y.N.map Prod.snd = N.map Prod.snd ++ (idxs p y.k (nth tgt i).phone).map fun u => (nth L k).2 ++ [u]) (fun y => p.length - y.k) ⟨0, sn, N⟩ ⟨Nat.zero_le _, by simp [idxs]⟩ (by exact .cons rfl (.cons rfl (.cons rfl (.cons rfl (.cons rfl (.cons rfl (.cons rfl (.cons rfl .nil)))))))) (fun w' h => h) ?_
      rintro ⟨u, sm, M⟩ ⟨hu, hM⟩
      dsimp only at hu hM ⊢
      have hss := idxs_succ p u (nth tgt i).phone
      have hMl : M.length ≤ 200 * 2000 + 2000 := by
        have e := congrArg List.length hM
        rw [List.length_map, List.length_append, List.length_map, List.length_map] at e
        have := idxs_len p u (nth tgt i).phone
        omega
      refine cw_seq (cw_seq (cw_region (sr rfl rfl rfl ((q_move rfl rfl)) (sr rfl rfl rfl ((q_move rfl rfl)) ?_))))
      refine sr rfl rfl rfl ((q_len rfl (.cons rfl inferInstance (.nil)) (by exact fun w hw => Stb.cl (by assumption) hw))) ?_
      refine sr rfl rfl rfl ((q_lss rfl rfl rfl)) (sw_nil (post_then ?_))
      refine cw_cond rfl (fun h3 => ?_) (fun h3 => ?_)
      · skip
        have hu' : u < p.length := by simp only [decide_eq_true_eq] at h3; omega
        refine cw_skip (post_then (cw_seq (cw_block (cw_seq ?_))))
        refine cw_region_q mixed_Tryz (by kernel_rfl) ?_
        refine qr rfl rfl rfl ((q_move rfl rfl)) (qr rfl rfl rfl ((q_move rfl rfl)) ?_)
        refine qr rfl rfl rfl ((q_indexN rfl rfl rfl (by exact fun w hw => Stb.cl (by assumption) hw) (by intro hc; omega))) ?_
        refine qr rfl rfl rfl ((q_fieldEl rfl rfl (by exact fun w hw => Stb.cl (by assumption) hw) (by intro hc; omega))) ?_
        refine qr rfl rfl rfl ((q_loadF rfl rfl rfl (by exact fun w hw => Stb.cl (by assumption) hw) (by intro hc; omega) rfl)) ?_
        refine qr rfl rfl rfl ((q_move rfl rfl)) (qr rfl rfl rfl ((q_move rfl rfl)) ?_)
        refine qr rfl rfl rfl ((q_indexN rfl rfl rfl (by exact fun w hw => Stb.cl (by assumption) hw) (by intro hc; omega))) ?_
        refine qr rfl rfl rfl ((q_fieldEl rfl rfl (by exact fun w hw => Stb.cl (by assumption) hw) (by intro hc; omega))) ?_
        refine qr rfl rfl rfl ((q_loadF rfl rfl rfl (by exact fun w hw => Stb.cl (by assumption) hw) (by intro hc; omega) rfl)) ?_
        refine qr rfl rfl rfl ((q_eqlStr rfl rfl rfl Tryz.underlying9)) (qw_end (post_then ?_))
        refine cw_cond rfl (fun h4 => ?_) (fun h4 => ?_)
        · skip
          rw [if_pos (by simpa using h4)] at hss
          refine cw_c (C' := Cl w [] (ownL 3 (SlV.v ⟨none, 0, 0⟩) ([] : List Int) :: ownL 28 sm.v (M.map Prod.fst) :: ownL 28 sl.v (L.map Prod.fst) :: blk b5 (enc x) 25 :: (L.map rowG ++ M.map rowG))) (fun w' h => h.addNil (α := Int) 3) (cw_region (sr rfl rfl rfl ((q_move rfl rfl)) (sr rfl rfl rfl ((q_move rfl rfl)) (sr rfl rfl rfl ((q_move rfl rfl)) ?_))))
          refine sr rfl rfl rfl ((q_indexN rfl rfl rfl (by exact fun w hw => rd_own hw (by exact .tail _ (.tail _ (.head _)))) (by intro hc; (simp only [List.length_set, List.length_append, List.length_cons, List.length_nil, List.length_replicate, List.length_take, List.length_drop, List.length_map]; omega)))) ?_
          refine sr rfl rfl rfl ((q_loadEl rfl rfl rfl (by exact fun w hw => rd_own hw (by exact .tail _ (.tail _ (.head _)))) (by intro hc; (simp only [List.length_set, List.length_append, List.length_cons, List.length_nil, List.length_replicate, List.length_take, List.length_drop, List.length_map]; omega)))) ?_
          refine sw_x rfl rfl rfl (e_append (i := 0) rfl (.cons rfl inferInstance (.cons rfl inferInstance (.nil))) rfl rfl (fun w1 h1 => row_mem h1 (fun g hg => .tail _ (.tail _ (.tail _ (.tail _ (List.mem_append_left _ (List.mem_map_of_mem hg)))))) hk') (by rw [hlk]; simp; omega) rfl) (fun s51 => ?_)
          refine sr rfl rfl rfl ((q_move rfl rfl)) ?_
          refine sw_x rfl rfl rfl (e_build1 (α := Int) rfl rfl rfl rfl) (fun s53 => ?_)
          refine sw_x rfl rfl rfl (e_append (i := 1) rfl (.cons rfl inferInstance (.cons rfl inferInstance (.nil))) rfl rfl (by exact fun w hw => rd_own hw (by exact .head _)) (by simp [hlk]; omega) rfl) (fun s54 => ?_)
          refine sw_x rfl rfl rfl (e_build1 (α := SlV) rfl rfl rfl rfl) (fun s55 => ?_)
          refine sw_x rfl rfl rfl (e_append (i := 3) rfl (.cons rfl inferInstance (.cons rfl inferInstance (.nil))) rfl rfl (by exact fun w hw => rd_own hw (by exact .head _)) (by simp; omega) rfl) (fun s56 => ?_)
          refine sr rfl rfl rfl ((q_assign rfl rfl)) (sw_nil (post_blk (post_then (cw_region (sr rfl rfl rfl ((q_move rfl rfl)) ?_)))))
          refine sr rfl rfl rfl ((q_add rfl rfl rfl (by intro hc; omega))) ?_
          refine sr rfl rfl rfl ((q_assign rfl rfl)) (sw_nil ?_)
          refine post_next ⟨u + 1, s56, M ++ [(s54, (nth L k).2 ++ [(u : Int)])]⟩ (by exact .cons rfl (.cons rfl (.cons rfl (.cons rfl (.cons rfl (.cons rfl (.cons rfl (.cons rfl .nil)))))))) (fun w3 hw3 => ?_) ⟨by simp only; omega, ?_⟩ (by simp only; omega)
          · simp only [List.map_append, List.map_cons, List.map_nil]
            exact hw3.tail.tail.perm perm_last
          · simp only [List.map_append, List.map_cons, List.map_nil]
            rw [hM, hss, List.map_append, List.append_assoc]
            rfl
        · skip
          rw [if_neg (by simpa using h4), List.append_nil] at hss
          refine cw_skip (post_blk (post_then (cw_region (sr rfl rfl rfl ((q_move rfl rfl)) ?_))))
          refine sr rfl rfl rfl ((q_add rfl rfl rfl (by intro hc; omega))) ?_
          refine sr rfl rfl rfl ((q_assign rfl rfl)) (sw_nil ?_)
          exact post_next ⟨u + 1, sm, M⟩ (by exact .cons rfl (.cons rfl (.cons rfl (.cons rfl (.cons rfl (.cons rfl (.cons rfl (.cons rfl .nil)))))))) (fun _ h => h) ⟨by simp only; omega, by dsimp only; rw [hss]; exact hM⟩ (by simp only; omega)
      · skip
        have hu' : u = p.length := by simp only [decide_eq_false_iff_not] at h3; omega
        subst hu'
        refine cw_exit (post_then_x (post_then_x (post_blk_eq (post_blk (post_then (cw_region (sr rfl rfl rfl ((q_move rfl rfl)) ?_)))))))
        refine sr rfl rfl rfl ((q_add rfl rfl rfl (by intro hc; omega))) ?_
        refine sr rfl rfl rfl ((q_assign rfl rfl)) (sw_nil ?_)
        refine post_next ⟨k + 1, sm, M⟩ (by exact .cons rfl (.cons rfl (.cons rfl (.cons rfl (.cons rfl (.cons rfl (.cons rfl .nil))))))) (fun _ h => h) ⟨by simp only; omega, ?_⟩ (by simp only; omega)
        dsimp only
        rw [List.take_succ_eq_append_getElem hkp, List.flatMap_append, ← hN, hM, ← nth_get hkp, hLk]
        simp only [List.flatMap_cons, List.flatMap_nil, List.append_nil]
        rfl
    · skip
      have hk' : k = L.length := by simp only [List.length_map, decide_eq_false_iff_not] at h2; omega
      subst hk'
      refine cw_exit (post_then_x (post_then_x (post_blk_eq (post_then (cw_region (sr rfl rfl rfl ((q_move rfl rfl)) (sr rfl rfl rfl ((q_assign rfl rfl)) (sw_nil (post_blk (post_then (cw_region (sr rfl rfl rfl ((q_move rfl rfl)) ?_))))))))))))
      refine sr rfl rfl rfl ((q_add rfl rfl rfl (by intro hc; omega))) ?_
      refine sr rfl rfl rfl ((q_assign rfl rfl)) (sw_nil ?_)
      refine post_next ⟨i + 1, sn, N⟩ (by exact .cons rfl (.cons rfl (.cons rfl (.cons rfl (.cons rfl .nil))))) (fun w3 hw3 => ?_) ⟨by simp only; omega, ?_⟩ (by simp only; omega)
      · have h5 : Cl w [] (ownL 28 sl.v (L.map Prod.fst) :: (L.map rowG ++ (ownL 28 sn.v (N.map Prod.fst) :: blk b5 (enc x) 25 :: N.map rowG))) w3 := hw3.perm ((List.Perm.swap _ _ _).trans (.cons _ ((List.perm_middle (l₁ := L.map rowG) (a := ownL 28 sn.v (N.map Prod.fst)) (l₂ := blk b5 (enc x) 25 :: N.map rowG)).trans (.cons _ List.perm_middle)).symm))
        exact (cl_drop (F := ownL 28 sn.v (N.map Prod.fst) :: blk b5 (enc x) 25 :: N.map rowG) (G := L.map rowG) (h5.tail.perm List.perm_append_comm))
      · dsimp only
        rw [hN, show L.length = ((tsk p tgt x).pre i).length by rw [← hLp, List.length_map], List.take_length]
        rfl
  · skip
    have hi' : i = tgt.length := by simp only [decide_eq_false_iff_not] at h; omega
    subst hi'
    refine cw_exit (post_then_x (post_then_x (post_blk_eq (post_then (cw_seq (cw_region (sr rfl rfl rfl ((q_assign rfl rfl)) (sw_nil (post_then (cw_seq (cw_seq (cw_region (sr rfl rfl rfl ((q_assign rfl rfl)) (sw_nil (post_then (cw_block ?_))))))))))))))))
    refine cw_loop (S := OX) (fun y => [(0, [], sp.v), (1, [], tp.v), (5, [], .pointer (some ⟨b5, 0, none⟩)), (7, [], sl.v), (12, [], y.s.v), (13, [], .int .i64 y.i)]) (fun y => Cl w [] (ownL 30 y.s.v y.O :: ownL 28 sl.v (L.map Prod.fst) :: blk b5 (enc x) 25 :: L.map rowG)) (fun y => y.i ≤ L.length ∧ OutOk (tsk p tgt x) L y.i y.O) (fun y => L.length - y.i) ⟨0, ⟨none, 0, 0⟩, []⟩ ⟨Nat.zero_le _, .nil, by simp, fun q hq => by cases hq⟩ (by exact .cons rfl (.cons rfl (.cons rfl (.cons rfl (.cons rfl (.cons rfl .nil)))))) (fun w' h => h.addNil (α := Sq) 30) ?_
    rintro ⟨i, so, O⟩ ⟨hi, hO⟩
    dsimp only at hi hO ⊢
    have hOl := hO.len
    refine cw_seq (cw_seq (cw_region (sr rfl rfl rfl ((q_move rfl rfl)) (sr rfl rfl rfl ((q_move rfl rfl)) ?_))))
    refine sr rfl rfl rfl ((q_len rfl (.cons rfl inferInstance (.nil)) (by exact fun w hw => rd_own hw (by exact .tail _ (.head _))))) ?_
    refine sr rfl rfl rfl ((q_lss rfl rfl rfl)) (sw_nil (post_then ?_))
    refine cw_cond rfl (fun h => ?_) (fun h => ?_)
    · skip
      have hi' : i < L.length := by simp only [List.length_map, decide_eq_true_eq] at h; omega
      have hip : i < ((tsk p tgt x).pre tgt.length).length := by rw [← hLp, List.length_map]; exact hi'
      have hLk : nth ((tsk p tgt x).pre tgt.length) i = (nth L i).2 := snd_nth hLp hi'
      have hsq : seqB p tgt (nth L i).2 = true := by rw [← hLk]; exact pre_seq (nth_mem hip)
      have e1 : nth (L.map Prod.fst) i = (nth L i).1 := by rw [nth_get (by simpa using hi'), nth_get hi']; simp
      obtain ⟨q, hq⟩ : ∃ q : Sq, q = ⟨(nth L i).1, (tsk p tgt x).tc 0 (nth L i).2, (nth L i).2⟩ := ⟨_, rfl⟩
      have hqc : q.cost = (tsk p tgt x).tc 0 q.ul := by rw [hq]
      have q1 : q.us = (nth L i).1 := by rw [hq]
      have q2 : q.ul = (nth L i).2 := by rw [hq]
      refine cw_skip (post_then (cw_seq (cw_block (cw_seq ?_))))
      refine cw_cut (S := Nat) (fun b14 => [(0, [], sp.v), (1, [], tp.v), (5, [], .pointer (some ⟨b5, 0, none⟩)), (7, [], sl.v), (12, [], so.v), (13, [], .int .i64 i), (14, [], .pointer (some ⟨b14, 0, none⟩))]) (fun b14 => Cl w [] (blk b14 (enc q) 30 :: ownL 30 so.v O :: ownL 28 sl.v (L.map Prod.fst) :: blk b5 (enc x) 25 :: L.map rowG)) (fun _ => True) ?_ ?_
      · refine cw_region_a (Cl w [] (ownL 30 so.v O :: ownL 28 sl.v (L.map Prod.fst) :: blk b5 (enc x) 25 :: L.map rowG)) [14] mixed_Tryz ?_
        refine aw_pure 0 rfl (by kernel_rfl) (by kernel_rfl) (by kernel_rfl) (by kernel_rfl) (by kernel_rfl) rfl rfl rfl (q_move rfl rfl) ?_
        refine aw_pure 1 rfl (by kernel_rfl) (by kernel_rfl) (by kernel_rfl) (by kernel_rfl) (by kernel_rfl) rfl rfl rfl (q_move rfl rfl) ?_
        refine aw_take 2 (fun w h => h) rfl (by kernel_rfl) (by kernel_rfl) (by kernel_rfl) (by kernel_rfl) (by kernel_rfl) (by kernel_rfl) rfl rfl rfl (q_indexN rfl rfl rfl (by exact fun w hw => rd_own hw (by exact .tail _ (.head _))) (by intro hc; (simp only [List.length_set, List.length_append, List.length_cons, List.length_nil, List.length_replicate, List.length_take, List.length_drop, List.length_map]; omega))) ?_
        refine aw_take 3 (fun w h => h) rfl (by kernel_rfl) (by kernel_rfl) (by kernel_rfl) (by kernel_rfl) (by kernel_rfl) (by kernel_rfl) rfl rfl rfl (q_loadEl rfl rfl rfl (by exact fun w hw => rd_own hw (by exact .tail _ (.head _))) (by intro hc; (simp only [List.length_set, List.length_append, List.length_cons, List.length_nil, List.length_replicate, List.length_take, List.length_drop, List.length_map]; omega))) ?_
        refine aw_pure 4 rfl (by kernel_rfl) (by kernel_rfl) (by kernel_rfl) (by kernel_rfl) (by kernel_rfl) rfl rfl rfl (q_move rfl rfl) ?_
        refine aw_pure 5 rfl (by kernel_rfl) (by kernel_rfl) (by kernel_rfl) (by kernel_rfl) (by kernel_rfl) rfl rfl rfl (q_move rfl rfl) ?_
        refine aw_take 6 (fun w h => h) rfl (by kernel_rfl) (by kernel_rfl) (by kernel_rfl) (by kernel_rfl) (by kernel_rfl) (by kernel_rfl) rfl rfl rfl (q_loadA rfl rfl (by exact .tail _ (.tail _ (.head _))) rfl) ?_
        refine aw_pure 7 rfl (by kernel_rfl) (by kernel_rfl) (by kernel_rfl) (by kernel_rfl) (by kernel_rfl) rfl rfl rfl (q_move rfl rfl) ?_
        refine aw_pure 8 rfl (by kernel_rfl) (by kernel_rfl) (by kernel_rfl) (by kernel_rfl) (by kernel_rfl) rfl rfl rfl (q_move rfl rfl) ?_
        refine aw_take 9 (fun w h => h) rfl (by kernel_rfl) (by kernel_rfl) (by kernel_rfl) (by kernel_rfl) (by kernel_rfl) (by kernel_rfl) rfl rfl rfl (q_indexN rfl rfl rfl (by exact fun w hw => rd_own hw (by exact .tail _ (.head _))) (by intro hc; (simp only [List.length_set, List.length_append, List.length_cons, List.length_nil, List.length_replicate, List.length_take, List.length_drop, List.length_map]; omega))) ?_
        refine aw_take 10 (fun w h => h) rfl (by kernel_rfl) (by kernel_rfl) (by kernel_rfl) (by kernel_rfl) (by kernel_rfl) (by kernel_rfl) rfl rfl rfl (q_loadEl rfl rfl rfl (by exact fun w hw => rd_own hw (by exact .tail _ (.head _))) (by intro hc; (simp only [List.length_set, List.length_append, List.length_cons, List.length_nil, List.length_replicate, List.length_take, List.length_drop, List.length_map]; omega))) ?_
        refine aw_two 11 13 (by kernel_rfl) ?_ ?_
        · skip
          refine at_q 11 rfl rfl rfl rfl (q_call (CanCall.mk Tryz.call59) rfl (.cons rfl inferInstance (.cons rfl inferInstance (.cons rfl inferInstance (.cons rfl inferInstance (.nil))))) (fun _ w hw => callq hw (refCost_spec sp tp (nth (L.map Prod.fst) i) p tgt x (nth L i).2 w (hvo.arg hw) (stb_arg hw htp) (by rw [e1]; exact stb_own (e := 3) hw (.tail _ (.tail _ (.tail _ (List.mem_map_of_mem (f := rowG) (nth_mem hi')))))) hE hsq))) (fun _ w h => h) ?_
          refine aw_pure 12 rfl (by kernel_rfl) (by kernel_rfl) (by kernel_rfl) (by kernel_rfl) (by kernel_rfl) rfl rfl rfl (q_build rfl (.cons rfl inferInstance (.cons rfl inferInstance (.nil))) rfl) ?_
          refine aw_x 13 (by kernel_rfl) rfl rfl rfl rfl (e_alloc rfl) (fun _ b w h => h.tail) (fun b14 => ?_)
          refine aw_one0 14 (by kernel_rfl) rfl rfl rfl (e_store (i := 0) rfl rfl rfl rfl rfl rfl rfl rfl) (fun hb => absurd hb (by decide)) ?_
          refine aw_end (by kernel_rfl) ?_
          exact post_meet b14 (by exact .cons rfl (.cons rfl (.cons rfl (.cons rfl (.cons rfl (.cons rfl (.cons rfl .nil))))))) (fun w' h => by rw [hq]; rw [e1] at h; exact h) trivial
        · skip
          refine at_x 13 rfl rfl rfl rfl (e_alloc rfl) (fun _ b w h => h.tail) (fun b14 => ?_)
          refine aw_q 11 (by kernel_rfl) rfl rfl rfl rfl (q_call (CanCall.mk Tryz.call59) rfl (.cons rfl inferInstance (.cons rfl inferInstance (.cons rfl inferInstance (.cons rfl inferInstance (.nil))))) (fun _ w hw => callq hw (refCost_spec sp tp (nth (L.map Prod.fst) i) p tgt x (nth L i).2 w (hvo.arg hw) (stb_arg hw htp) (by rw [e1]; exact stb_own (e := 3) hw (.tail _ (.tail _ (.tail _ (.tail _ (List.mem_map_of_mem (f := rowG) (nth_mem hi'))))))) hE hsq))) (fun _ w h => h.tail) ?_
          refine aw_pure 12 rfl (by kernel_rfl) (by kernel_rfl) (by kernel_rfl) (by kernel_rfl) (by kernel_rfl) rfl rfl rfl (q_build rfl (.cons rfl inferInstance (.cons rfl inferInstance (.nil))) rfl) ?_
          refine aw_one0 14 (by kernel_rfl) rfl rfl rfl (e_store (i := 0) rfl rfl rfl rfl rfl rfl rfl rfl) (fun hb => absurd hb (by decide)) ?_
          refine aw_end (by kernel_rfl) ?_
          exact post_meet b14 (by exact .cons rfl (.cons rfl (.cons rfl (.cons rfl (.cons rfl (.cons rfl (.cons rfl .nil))))))) (fun w' h => by rw [hq]; rw [e1] at h; exact h) trivial
      intro b14 _
      refine post_then (cw_seq (cw_region (sr rfl rfl rfl ((q_move rfl rfl)) ?_)))
      refine sr rfl rfl rfl ((q_len rfl (.cons rfl inferInstance (.nil)) (by exact fun w hw => rd_own hw (by exact .tail _ (.head _))))) ?_
      refine sr rfl rfl rfl ((q_assign rfl rfl)) (sw_nil (post_then (cw_seq (cw_block ?_))))
      refine cw_loop (S := Nat) (fun k => [(0, [], sp.v), (1, [], tp.v), (5, [], .pointer (some ⟨b5, 0, none⟩)), (7, [], sl.v), (12, [], so.v), (13, [], .int .i64 i), (14, [], .pointer (some ⟨b14, 0, none⟩)), (15, [], .int .i64 k)]) (fun _ => Cl w [] (blk b14 (enc q) 30 :: ownL 30 so.v O :: ownL 28 sl.v (L.map Prod.fst) :: blk b5 (enc x) 25 :: L.map rowG)) (fun k => k ≤ O.length ∧ ∀ j, k ≤ j → j < O.length → q.cost < (nth O j).cost) (fun k => k) O.length ⟨Nat.le_refl _, fun j h1 h2 => by omega⟩ (by exact .cons rfl (.cons rfl (.cons rfl (.cons rfl (.cons rfl (.cons rfl (.cons rfl (.cons rfl .nil)))))))) (fun _ h => h) ?_
      rintro k ⟨hk1, hk2⟩
      have e : ((k : Int) - 1).toNat = k - 1 := by omega
      refine cw_seq (cw_seq ?_)
      refine cw_region_q mixed_Tryz (by kernel_rfl) ?_
      refine qr rfl rfl rfl ((q_move rfl rfl)) (qr rfl rfl rfl ((q_gtr rfl rfl rfl)) (qr rfl rfl rfl ((q_move rfl rfl)) (qr rfl rfl rfl ((q_move rfl rfl)) (qr rfl rfl rfl ((q_move rfl rfl)) ?_))))
      refine qr rfl rfl rfl ((q_sub rfl rfl rfl (by intro hc; omega))) ?_
      refine qr rfl rfl rfl ((q_index rfl rfl rfl (by exact fun w hw => rd_own hw (by exact .tail _ (.head _))) (by intro hc; (simp only [AllT.iff, List.all_cons, List.all_nil, id, Bool.and_eq_true, Bool.not_eq_true', decide_eq_true_eq, decide_eq_false_iff_not, and_true] at hc; omega)))) ?_
      refine qr rfl rfl rfl ((q_fieldEl rfl rfl (by exact fun w hw => rd_own hw (by exact .tail _ (.head _))) (by intro hc; (simp only [AllT.iff, List.all_cons, List.all_nil, id, Bool.and_eq_true, Bool.not_eq_true', decide_eq_true_eq, decide_eq_false_iff_not, and_true] at hc; omega)))) ?_
      refine qr rfl rfl rfl ((q_loadF rfl rfl rfl (by exact fun w hw => rd_own hw (by exact .tail _ (.head _))) (by intro hc; (simp only [AllT.iff, List.all_cons, List.all_nil, id, Bool.and_eq_true, Bool.not_eq_true', decide_eq_true_eq, decide_eq_false_iff_not, and_true] at hc; omega)) rfl)) ?_
      refine qr rfl rfl rfl ((q_fieldAddr rfl rfl)) ?_
      refine qr rfl rfl rfl ((q_loadC rfl rfl (by exact .head _) rfl)) ?_
      refine qr rfl rfl rfl ((q_gtr rfl rfl rfl)) (qr rfl rfl rfl ((q_and2 rfl rfl rfl)) (qw_end (post_then ?_)))
      refine cw_cond rfl (fun h2 => ?_) (fun h2 => ?_)
      · skip
        have h7 : 0 < k ∧ q.cost < (nth O (k - 1)).cost := by
          simp only [Bool.and_eq_true, decide_eq_true_eq] at h2
          rw [e] at h2
          exact ⟨by omega, h2.2⟩
        refine cw_skip (post_then (cw_block (cw_region (sr rfl rfl rfl ((q_move rfl rfl)) ?_))))
        refine sr rfl rfl rfl ((q_sub rfl rfl rfl (by intro hc; omega))) ?_
        refine sr rfl rfl rfl ((q_assign rfl rfl)) (sw_nil (post_blk ?_))
        refine post_next (k - 1) (by exact .cons rfl (.cons rfl (.cons rfl (.cons rfl (.cons rfl (.cons rfl (.cons rfl (.cons' rfl (by congr 1; first | omega | (simp only; omega)) .nil)))))))) (fun _ h => h) ⟨by omega, fun j h5 h6 => ?_⟩ (by omega)
        by_cases ek : j = k - 1
        · rw [ek]; exact h7.2
        · exact hk2 j (by omega) h6
      · skip
        have h7 : 0 < k → ¬ q.cost < (nth O (k - 1)).cost := fun h0 hx => by
          rw [e] at h2
          simp [h0, hx] at h2
        refine cw_exit (post_then_x (post_then_x (post_blk_eq (post_then (cw_c (C' := Cl w [] (ownL 30 (SlV.v ⟨none, 0, 0⟩) ([] : List Sq) :: blk b14 (enc q) 30 :: ownL 30 so.v O :: ownL 28 sl.v (L.map Prod.fst) :: blk b5 (enc x) 25 :: L.map rowG)) (fun w' h => h.addNil (α := Sq) 30) ?_)))))
        have hA : ∀ {H : List Asn} {w1 : World}, Cl w [] H w1 → ownL 30 so.v O ∈ H → RdL (so.sub 2 0 ((k : Int)).toNat).v (O.take k) w1 := fun h1 h2 => rd_sub (a := 0) (b := k) (rd_own (e := 30) h1 h2) (Nat.zero_le _) (by omega)
        have hB : ∀ {H : List Asn} {w1 : World}, Cl w [] H w1 → ownL 30 so.v O ∈ H → RdL (so.sub 2 ((k : Int)).toNat O.length).v (O.drop k) w1 := fun h1 h2 => by
          have := rd_sub (a := k) (b := O.length) (rd_own (e := 30) h1 h2) (by omega) (Nat.le_refl _)
          rwa [List.take_length] at this
        have htk : (O.take k).length = k := by simp; omega
        have hdk : (O.drop k).length = O.length - k := by simp
        refine cw_region_a (Cl w [] [blk b14 (enc q) 30, ownL 30 so.v O]) [] mixed_Tryz ?_
        refine aw_pure 0 rfl (by kernel_rfl) (by kernel_rfl) (by kernel_rfl) (by kernel_rfl) (by kernel_rfl) rfl rfl rfl (q_move rfl rfl) ?_
        refine aw_pure 1 rfl (by kernel_rfl) (by kernel_rfl) (by kernel_rfl) (by kernel_rfl) (by kernel_rfl) rfl rfl rfl (q_move rfl rfl) ?_
        refine aw_take 2 (fun w h => cl_drop (F := [blk b14 (enc q) 30, ownL 30 so.v O]) h.tail) rfl (by kernel_rfl) (by kernel_rfl) (by kernel_rfl) (by kernel_rfl) (by kernel_rfl) (by kernel_rfl) rfl rfl rfl (q_sliceH rfl rfl rfl (by exact fun w hw => rd_own hw (by exact .tail _ (.head _))) (by intro hc; omega)) ?_
        refine aw_take 4 (fun w h => cl_drop (F := [blk b14 (enc q) 30, ownL 30 so.v O]) h.tail) rfl (by kernel_rfl) (by kernel_rfl) (by kernel_rfl) (by kernel_rfl) (by kernel_rfl) (by kernel_rfl) rfl rfl rfl (q_loadA rfl rfl (by exact .head _) rfl) ?_
        refine aw_pure 7 rfl (by kernel_rfl) (by kernel_rfl) (by kernel_rfl) (by kernel_rfl) (by kernel_rfl) rfl rfl rfl (q_move rfl rfl) ?_
        refine aw_pure 8 rfl (by kernel_rfl) (by kernel_rfl) (by kernel_rfl) (by kernel_rfl) (by kernel_rfl) rfl rfl rfl (q_move rfl rfl) ?_
        refine aw_take 9 (fun w h => cl_drop (F := [blk b14 (enc q) 30, ownL 30 so.v O]) h.tail) rfl (by kernel_rfl) (by kernel_rfl) (by kernel_rfl) (by kernel_rfl) (by kernel_rfl) (by kernel_rfl) rfl rfl rfl (q_sliceL rfl rfl rfl (by exact fun w hw => rd_own hw (by exact .tail _ (.head _))) (by intro hc; omega)) ?_
        refine aw_two 3 5 (by kernel_rfl) ?_ ?_
        · skip
          refine at_x 3 rfl rfl rfl rfl (e_append (i := 0) rfl (.cons rfl inferInstance (.cons rfl inferInstance (.nil))) rfl rfl (fun w1 h1 => hA h1 (by exact .tail _ (.tail _ (.head _)))) (by simp only [List.length_nil, htk]; omega) rfl) (fun _ x w h => by first | exact cl_drop (F := [blk b14 (enc q) 30, ownL 30 so.v O]) h.tail | exact cl_drop (F := [blk b14 (enc q) 30, ownL 30 so.v O]) h.tail.tail) (fun s97 => ?_)
          refine aw_x 5 (by kernel_rfl) rfl rfl rfl rfl (e_build1 (α := Sq) (x := q) rfl rfl rfl rfl) (fun _ x w h => by first | exact cl_drop (F := [blk b14 (enc q) 30, ownL 30 so.v O]) h.tail | exact cl_drop (F := [blk b14 (enc q) 30, ownL 30 so.v O]) h.tail.tail) (fun s99 => ?_)
          refine aw_x 6 (by kernel_rfl) rfl rfl rfl rfl (e_append (i := 1) rfl (.cons rfl inferInstance (.cons rfl inferInstance (.nil))) rfl rfl (by exact fun w hw => rd_own hw (by exact .head _)) (by simp only [List.length_append, List.length_cons, List.length_nil, htk]; omega) rfl) (fun _ x w h => by first | exact cl_drop (F := [blk b14 (enc q) 30, ownL 30 so.v O]) h.tail | exact cl_drop (F := [blk b14 (enc q) 30, ownL 30 so.v O]) h.tail.tail) (fun s100 => ?_)
          refine aw_x 10 (by kernel_rfl) rfl rfl rfl rfl (e_append (i := 1) rfl (.cons rfl inferInstance (.cons rfl inferInstance (.nil))) rfl rfl (fun w1 h1 => hB h1 (by exact .tail _ (.tail _ (.tail _ (.head _))))) (by simp only [List.length_append, List.length_cons, List.length_nil, htk, hdk]; omega) rfl) (fun _ x w h => by first | exact cl_drop (F := [blk b14 (enc q) 30, ownL 30 so.v O]) h.tail | exact cl_drop (F := [blk b14 (enc q) 30, ownL 30 so.v O]) h.tail.tail) (fun s104 => ?_)
          refine aw_pure 11 rfl (by kernel_rfl) (by kernel_rfl) (by kernel_rfl) (by kernel_rfl) (by kernel_rfl) rfl rfl rfl (q_assign rfl rfl) ?_
          refine aw_end (by kernel_rfl) ?_
          refine post_blk (post_then (cw_region (sr rfl rfl rfl ((q_move rfl rfl)) ?_)))
          refine sr rfl rfl rfl ((q_add rfl rfl rfl (by intro hc; omega))) ?_
          refine sr rfl rfl rfl ((q_assign rfl rfl)) (sw_nil ?_)
          refine post_next ⟨i + 1, s104, O.take k ++ [q] ++ O.drop k⟩ (by exact .cons rfl (.cons rfl (.cons rfl (.cons rfl (.cons rfl (.cons rfl .nil)))))) (fun w3 hw3 => ?_) ⟨by simp only; omega, out_step hrise hLp hi' hO q1 q2 hqc hk1 hk2 h7⟩ (by simp only; omega)
          exact cl_mid hw3.tail
        · skip
          refine at_x 5 rfl rfl rfl rfl (e_build1 (α := Sq) (x := q) rfl rfl rfl rfl) (fun _ x w h => by first | exact cl_drop (F := [blk b14 (enc q) 30, ownL 30 so.v O]) h.tail | exact cl_drop (F := [blk b14 (enc q) 30, ownL 30 so.v O]) h.tail.tail) (fun s99 => ?_)
          refine aw_x 3 (by kernel_rfl) rfl rfl rfl rfl (e_append (i := 1) rfl (.cons rfl inferInstance (.cons rfl inferInstance (.nil))) rfl rfl (fun w1 h1 => hA h1 (by exact .tail _ (.tail _ (.tail _ (.head _))))) (by simp only [List.length_nil, htk]; omega) rfl) (fun _ x w h => by first | exact cl_drop (F := [blk b14 (enc q) 30, ownL 30 so.v O]) h.tail | exact cl_drop (F := [blk b14 (enc q) 30, ownL 30 so.v O]) h.tail.tail) (fun s97 => ?_)
          refine aw_x 6 (by kernel_rfl) rfl rfl rfl rfl (e_append (i := 1) rfl (.cons rfl inferInstance (.cons rfl inferInstance (.nil))) rfl rfl (by exact fun w hw => rd_own hw (by exact .head _)) (by simp only [List.length_append, List.length_cons, List.length_nil, htk]; omega) rfl) (fun _ x w h => by first | exact cl_drop (F := [blk b14 (enc q) 30, ownL 30 so.v O]) h.tail | exact cl_drop (F := [blk b14 (enc q) 30, ownL 30 so.v O]) h.tail.tail) (fun s100 => ?_)
          refine aw_x 10 (by kernel_rfl) rfl rfl rfl rfl (e_append (i := 1) rfl (.cons rfl inferInstance (.cons rfl inferInstance (.nil))) rfl rfl (fun w1 h1 => hB h1 (by exact .tail _ (.tail _ (.tail _ (.head _))))) (by simp only [List.length_append, List.length_cons, List.length_nil, htk, hdk]; omega) rfl) (fun _ x w h => by first | exact cl_drop (F := [blk b14 (enc q) 30, ownL 30 so.v O]) h.tail | exact cl_drop (F := [blk b14 (enc q) 30, ownL 30 so.v O]) h.tail.tail) (fun s104 => ?_)
          refine aw_pure 11 rfl (by kernel_rfl) (by kernel_rfl) (by kernel_rfl) (by kernel_rfl) (by kernel_rfl) rfl rfl rfl (q_assign rfl rfl) ?_
          refine aw_end (by kernel_rfl) ?_
          refine post_blk (post_then (cw_region (sr rfl rfl rfl ((q_move rfl rfl)) ?_)))
          refine sr rfl rfl rfl ((q_add rfl rfl rfl (by intro hc; omega))) ?_
          refine sr rfl rfl rfl ((q_assign rfl rfl)) (sw_nil ?_)
          refine post_next ⟨i + 1, s104, O.take k ++ [q] ++ O.drop k⟩ (by exact .cons rfl (.cons rfl (.cons rfl (.cons rfl (.cons rfl (.cons rfl .nil)))))) (fun w3 hw3 => ?_) ⟨by simp only; omega, out_step hrise hLp hi' hO q1 q2 hqc hk1 hk2 h7⟩ (by simp only; omega)
          exact cl_mid hw3.tail
    · skip
      have hi' : i = L.length := by simp only [List.length_map, decide_eq_false_iff_not] at h; omega
      subst hi'
      refine cw_exit (post_then_x (post_then_x (post_blk_eq (post_then (cw_seq (cw_region (sr rfl rfl rfl ((q_move rfl rfl)) (sr rfl rfl rfl ((q_assign rfl rfl)) (sw_nil (post_then (cw_ret (post_ret1 rfl (resOk_tmp rfl) ?_))))))))))))
      exact fun w3 hw3 => ⟨(so, (O, L)), rfl, ⟨out_all hLp hO, hO.mem⟩, cl_mid hw3⟩
end Go.Proofs.YtomjbfeafodfbaaGreat

/- Certificates: what one that holds says about all sequences. Plain lemmas, no program text. -/
set_option autoImplicit false
namespace Go.Sx
namespace Tsk
variable (t : Tsk)
/-- What a row says of the targets from one on, after a unit. -/
def nx (c : Nat → Int → Int) (i : Nat) (u : Int) : Int := minL ((t.us i).map fun v => t.J u v + c i v)
structure Hold (cost : Int) (c : Nat → Int → Int) : Prop where
  some : ∀ i, i < t.T → t.us i ≠ []
  row : ∀ i, i < t.T → ∀ u ∈ t.us i, c i u ≤ t.F i u + (if i + 1 < t.T then t.nx c (i + 1) u else 0)
  none : t.T = 0 → cost ≤ 0
  low : 0 < t.T → ∀ u ∈ t.us 0, cost ≤ c 0 u
variable {t}
theorem Hold.le {cost : Int} {c : Nat → Int → Int} (h : t.Hold cost c) : ∀ k u s, k + 1 ≤ t.T → u ∈ t.us (t.T - (k + 1)) → s ∈ t.tl k → c (t.T - (k + 1)) u ≤ t.tc (t.T - (k + 1)) (u :: s)
  | 0, u, s, hk, hu, hs => by
    simp [tl] at hs
    subst hs
    have h1 := h.row (t.T - 1) (by omega) u hu
    rw [if_neg (by omega)] at h1
    simp only [tc, Nat.zero_add]
    omega
  | k + 1, u, s, hk, hu, hs => by
    have h1 := h.row (t.T - (k + 1 + 1)) (by omega) u hu
    rw [if_pos (by omega)] at h1
    simp only [tl, List.mem_flatMap, List.mem_map] at hs
    obtain ⟨v, hv, s', hs', rfl⟩ := hs
    have e : t.T - (k + 1 + 1) + 1 = t.T - (k + 1) := by omega
    have h2 := h.le k v s' (by omega) hv hs'
    have h3 : t.nx c (t.T - (k + 1)) u ≤ t.J u v + c (t.T - (k + 1)) v := minL_le (List.mem_map.2 ⟨v, hv, rfl⟩)
    simp only [tc]
    rw [e] at h1 ⊢
    omega
theorem Hold.all {cost : Int} {c : Nat → Int → Int} (h : t.Hold cost c) : ∀ s ∈ t.tl t.T, cost ≤ t.tc 0 s := by
  intro s hs
  by_cases h0 : t.T = 0
  · rw [h0] at hs
    simp [tl] at hs
    subst hs
    exact h.none h0
  · obtain ⟨k, hk⟩ : ∃ k, t.T = k + 1 := ⟨t.T - 1, by omega⟩
    rw [hk] at hs
    simp only [tl, List.mem_flatMap, List.mem_map] at hs
    obtain ⟨v, hv, s', hs', rfl⟩ := hs
    have e : t.T - (k + 1) = 0 := by omega
    have h1 := h.le k v s' (by omega) hv hs'
    rw [e] at h1 hv
    have := h.low (by omega) v hv
    omega
/-- There is a sequence where each target has a unit. -/
theorem tl_ne (h : ∀ i, i < t.T → t.us i ≠ []) : ∀ k, k ≤ t.T → t.tl k ≠ []
  | 0, _ => by simp [tl]
  | k + 1, hk => by
    obtain ⟨u, hu⟩ := List.exists_mem_of_ne_nil _ (h (t.T - (k + 1)) (by omega))
    obtain ⟨s, hs⟩ := List.exists_mem_of_ne_nil _ (tl_ne h k (by omega))
    exact List.ne_nil_of_mem (a := u :: s) (by simp only [tl, List.mem_flatMap, List.mem_map]; exact ⟨u, hu, s, hs, rfl⟩)
theorem tl_nil {i : Nat} (hi : i < t.T) (h : t.us i = []) : t.tl t.T = [] := by
  rw [t.pre_all]
  have key : ∀ k, i < k → t.pre k = [] := fun k hk => by
    induction k with
    | zero => omega
    | succ k ih =>
      rw [pre]
      by_cases e : i = k
      · subst e; rw [h]; simp
      · rw [ih (by omega)]; rfl
  exact key _ hi
/-- The rest costs are a certificate. -/
theorem hold_own (hs : t.Small) {cost : Int} (hc : ∀ s ∈ t.tl t.T, cost ≤ t.tc 0 s) {c : Nat → Int → Int} (he : ∀ i, i < t.T → ∀ u ∈ t.us i, c i u = t.R (t.T - i) u) : t.Hold cost c where
  some := hs.some
  row i hi u hu := by
    rw [he i hi u hu]
    obtain ⟨k, hk⟩ : ∃ k, t.T - i = k + 1 := ⟨t.T - i - 1, by omega⟩
    rw [hk, R, show t.T - (k + 1) = i by omega]
    by_cases h0 : k = 0
    · rw [if_pos h0, if_neg (by omega)]; omega
    · rw [if_neg h0, if_pos (by omega), nx, show t.T - k = i + 1 by omega]
      have : ((t.us (i + 1)).map fun v => t.J u v + t.R k v) = (t.us (i + 1)).map fun v => t.J u v + c (i + 1) v := List.map_congr_left fun v hv => by
        rw [he (i + 1) (by omega) v hv, show t.T - (i + 1) = k by omega]
      rw [this]; omega
  none h0 := by
    have := hc [] (by rw [h0]; simp [tl])
    simpa [tc] using this
  low h0 u hu := by
    obtain ⟨s, hs1, hs2⟩ := t.R_eq hs t.T u (Nat.le_refl _) h0
    rw [he 0 h0 u hu, Nat.sub_zero, hs2, Nat.sub_self]
    refine hc _ ?_
    obtain ⟨k, hk⟩ : ∃ k, t.T = k + 1 := ⟨t.T - 1, by omega⟩
    rw [hk] at hs1 ⊢
    simp only [tl, List.mem_flatMap, List.mem_map]
    rw [hk]
    exact ⟨u, by simpa using hu, s, by simpa using hs1, rfl⟩
end Tsk
end Go.Sx

set_option autoImplicit false
set_option maxRecDepth 100000
namespace Go.Proofs.YtomjbfeafodfbaaGreat
open Go.Sx
open Enc (enc val)
theorem small_pw {p : List Un} {tgt : List Wan} {a b : Nat} (ha : a ≤ 10) (hb : b ≤ 8) (hp : p.length ≤ a) (ht : tgt.length ≤ b) : (p.length + 1) ^ tgt.length ≤ 500000000 :=
  Nat.le_trans (Nat.pow_le_pow_left (show p.length + 1 ≤ 11 by omega) _) (Nat.le_trans (Nat.pow_le_pow_right (by omega) (show tgt.length ≤ 8 by omega)) (by decide))
theorem best_perm {α : Type} (A B X : α) (R S : List α) : (A :: (R ++ X :: B :: S)).Perm (X :: B :: A :: (S ++ R)) := (List.perm_append_comm (l₁ := A :: R) (l₂ := X :: B :: S)).trans (.cons _ (.cons _ List.perm_middle))
theorem best_fail (sp tp : SlV) (p : List Un) (tgt : List Wan) (x : Wts) (n : Int) (w : World) (hvo : VoRd w sp p) (htp : Stb w [] (RdL tp.v tgt)) (htg : ∀ t ∈ tgt, WaRd t) (hB : bestE p tgt x n ≠ 0) :
    Calls Tryz.prog 26 #[sp.v, tp.v, val x, .int .i64 n] w fun e w' => ∃ u : Unit, e = .returned (.tuple #[.slice none 0 0, .int .i64 (bestE p tgt x n)]) ∧ True ∧ Cl w [] [] w' := by
  by_cases hE : beginE p tgt x = 0
  · exact best_no sp tp p tgt x n w hvo htp htg hE hB
  · exact best_bad sp tp p tgt x n w hvo htp htg hE
theorem begin_best {p : List Un} {tgt : List Wan} {x : Wts} {n : Int} (h : beginE p tgt x ≠ 0) : bestE p tgt x n = beginE p tgt x := by
  by_cases h4 : beginE p tgt x = 4
  · rw [bestE, if_pos h4, h4]
  · rw [bestE, if_neg h4, if_pos (.inl h)]
    unfold beginE at h h4 ⊢
    split
    · rename_i h1; rw [if_pos h1] at h4; exact absurd rfl h4
    · rename_i h1; rw [if_neg h1] at h
      split
      · rename_i h2; rw [if_pos h2] at h; exact absurd rfl h
      · rfl
theorem bestE_at {p : List Un} {tgt : List Wan} {x : Wts} {n : Int} (h : beginE p tgt x = 0) : bestE p tgt x n = if inB n 1 50 = false then 2 else if possP p tgt then 0 else 5 := by simp [bestE, h]
theorem bestE_zero {p : List Un} {tgt : List Wan} {x : Wts} {n : Int} (h : bestE p tgt x n = 0) : beginE p tgt x = 0 ∧ (∃ m : Nat, n = m ∧ 1 ≤ m ∧ m ≤ 50) ∧ possP p tgt = true := by
  have hE : beginE p tgt x = 0 := by
    by_cases hE : beginE p tgt x = 0
    · exact hE
    · rw [begin_best hE] at h; exact absurd h hE
  rw [bestE_at hE] at h
  refine ⟨hE, ?_⟩
  cases h1 : inB n 1 50
  · rw [h1] at h; simp at h
  · cases h2 : possP p tgt
    · rw [h1, h2] at h; simp at h
    · simp only [inB, Bool.and_eq_true, decide_eq_true_eq] at h1
      exact ⟨⟨n.toNat, by omega, by omega, by omega⟩, rfl⟩
theorem poss_at {p : List Un} {tgt : List Wan} (h : possP p tgt = true) {i : Nat} (hi : i < tgt.length) : idxs p p.length (nth tgt i).phone ≠ [] := by
  have := List.all_eq_true.1 h i (by simpa using hi)
  simpa using this
theorem poss_nil {p : List Un} {tgt : List Wan} {x : Wts} (h : possP p tgt = false) : (tsk p tgt x).tl tgt.length = [] := by
  obtain ⟨i, hi, h2⟩ := List.all_eq_false.1 h
  simp only [List.mem_range] at hi
  have h3 : idxs p p.length (nth tgt i).phone = [] := by simpa using h2
  have := Tsk.tl_nil (t := tsk p tgt x) hi h3
  exact this
theorem poss_ne {p : List Un} {tgt : List Wan} {x : Wts} (h : possP p tgt = true) : (tsk p tgt x).tl tgt.length ≠ [] := Tsk.tl_ne (t := tsk p tgt x) (fun i hi => poss_at h hi) tgt.length (Nat.le_refl _)
set_option maxHeartbeats 2000000 in
theorem lawBest (sp tp : SlV) (p : List Un) (tgt : List Wan) (x : Wts) (n : Int) (w : World) (hvo : VoIn w sp p) (htp : Stb w [] (RdL tp.v tgt)) :
    Calls Tryz.prog 4 #[sp.v, tp.v, val x, .int .i64 n] w fun e w' => e = .returned (.bool true) ∧ Cl w [] [] w' := by
  refine calls_cw (vs := [_, _, _, _]) Tryz.func4 rfl Tryz.ntmps4 rfl (Cl.start0 w) (cw_seq (cw_region ?_))
  refine sw_x rfl rfl rfl (e_box rfl rfl rfl) (fun b6 => ?_)
  refine sr rfl rfl rfl ((q_assign rfl rfl)) (sw_nil (post_then (cw_seq (cw_seq (cw_region (sr rfl rfl rfl ((q_move rfl rfl)) (sr rfl rfl rfl ((q_move rfl rfl)) (sw_step rfl rfl rfl (q_call (CanCall.mk Tryz.call17) rfl (.cons rfl inferInstance (.cons rfl inferInstance (.cons rfl inferInstance (.cons rfl inferInstance (.nil))))) (fun _ w hw => callq hw (small_spec sp tp p tgt 10 8 w (voIn_arg hw hvo) (stb_arg hw htp)))) (sr rfl rfl rfl ((q_not rfl rfl)) (sr rfl rfl rfl ((q_move rfl rfl)) (sr rfl rfl rfl ((q_move rfl rfl)) (sr rfl rfl rfl ((q_move rfl rfl)) ?_))))))))))))
  refine sr rfl rfl rfl ((q_loadA rfl rfl (by exact .head _) rfl)) ?_
  refine sw_step rfl rfl rfl (q_call (CanCall.mk Tryz.call20) rfl (.cons rfl inferInstance (.cons rfl inferInstance (.cons rfl inferInstance (.nil)))) (fun hc w hw => callq hw (wrong_spec sp tp p tgt x w ((small_vo hvo (by simpa [AllT] using hc)).arg hw) (stb_arg hw htp) (small_ta (by simpa [AllT] using hc))))) ?_
  refine sr rfl rfl rfl ((q_eql rfl rfl rfl)) (sr rfl rfl rfl ((q_move rfl rfl)) (sr rfl rfl rfl ((q_move rfl rfl)) (sr rfl rfl rfl ((q_move rfl rfl)) ?_)))
  refine sw_step rfl rfl rfl (q_call (CanCall.mk Tryz.call25) rfl (.cons rfl inferInstance (.cons rfl inferInstance (.cons rfl inferInstance (.nil)))) (fun hc w hw => callq hw (few_spec sp tp p tgt w (beginE_ok (p := p) (tgt := tgt) (x := x) (by simp [AllT] at hc; exact hc.1)).1 (stb_arg hw (rd_stb hvo.l)) (stb_arg hw htp)))) ?_
  refine sr rfl rfl rfl ((q_not rfl rfl)) (sr rfl rfl rfl ((q_and2 rfl rfl rfl)) (sr rfl rfl rfl ((q_or2 rfl rfl rfl)) (sw_nil (post_then ?_))))
  refine cw_cond rfl (fun h => ?_) (fun h => ?_)
  · skip
    refine cw_seq (cw_region (sw_step rfl rfl rfl (q_call (CanCall.mk Tryz.call18) rfl (.nil) (fun _ w hw => callq hw (known_spec w))) (sr rfl rfl rfl ((q_assign rfl rfl)) (sw_nil (post_then (cw_ret (post_then_r (post_ret1 rfl (resOk_tmp rfl) ?_))))))))
    exact fun w' hw => ⟨rfl, (fun w h => Cl.sel (by exact .nil _) w h) _ hw⟩
  · skip
    simp only [Bool.or_eq_false_iff, Bool.and_eq_false_iff, Bool.not_eq_false', decide_eq_false_iff_not] at h
    obtain ⟨hs, hf⟩ := h
    have hvr : VoRd w sp p := small_vo hvo hs
    have hta := small_ta hs
    obtain ⟨n1, n2, n3, n4⟩ := small_n hs
    refine cw_skip (post_then (cw_seq (cw_region (sr rfl rfl rfl ((q_move rfl rfl)) (sr rfl rfl rfl ((q_move rfl rfl)) ?_)))))
    refine sr rfl rfl rfl ((q_loadA rfl rfl (by exact .head _) rfl)) ?_
    refine sr rfl rfl rfl ((q_move rfl rfl)) ?_
    by_cases hB : bestE p tgt x n = 0
    · obtain ⟨hE, ⟨m, rfl, hm1, hm2⟩, hP⟩ := bestE_zero hB
      have hfew : fewB p tgt 200 = true := by
        rcases hf with hf | hf
        · exact absurd hE hf
        · exact hf
      obtain ⟨m1, m2, -⟩ := beginE_ok hE
      have hbig : (p.length + 1) ^ tgt.length ≤ 500000000 := small_pw (a := 10) (b := 8) (by omega) (by omega) (by omega) (by omega)
      refine sw_x rfl rfl rfl (e_call (CanCall.mk Tryz.call26) rfl (.cons rfl inferInstance (.cons rfl inferInstance (.cons rfl inferInstance (.cons rfl inferInstance (.nil))))) (fun w hw => best_yes sp tp p tgt x m w (hvr.arg hw) (stb_arg hw htp) hta hE ⟨hm1, hm2⟩ hP hbig)) (fun y => ?_)
      refine sw_imp fun hy => ?_
      obtain ⟨so, ⟨outs, lq⟩⟩ := y
      dsimp only at hy ⊢
      obtain ⟨hbf, hend, hlen⟩ := hy
      refine sw_le (C' := Cl w [] (blk b6 (enc x) 25 :: ownL 30 so.v outs :: outs.map sqA)) (fun w' h => h.perm (List.perm_append_comm (l₁ := ownL 30 so.v outs :: outs.map sqA) (l₂ := [blk b6 (enc x) 25]))) (sr rfl rfl rfl ((q_move rfl rfl)) (sr rfl rfl rfl ((q_extract rfl rfl rfl)) (sr rfl rfl rfl ((q_extract rfl rfl rfl)) (sr rfl rfl rfl ((q_assign rfl rfl)) (sr rfl rfl rfl ((q_assign rfl rfl)) (sw_nil (post_then (cw_seq (cw_region (sr rfl rfl rfl ((q_move rfl rfl)) (sr rfl rfl rfl ((q_move rfl rfl)) ?_)))))))))))
      refine sr rfl rfl rfl ((q_loadA rfl rfl (by exact .head _) rfl)) ?_
      refine sw_step rfl rfl rfl (q_call (CanCall.mk Tryz.call20) rfl (.cons rfl inferInstance (.cons rfl inferInstance (.cons rfl inferInstance (.nil)))) (fun _ w hw => callq hw (wrong_spec sp tp p tgt x w (hvr.arg hw) (stb_arg hw htp) hta))) (sr rfl rfl rfl ((q_assign rfl rfl)) (sw_nil (post_then (cw_seq (cw_seq (cw_region (sr rfl rfl rfl ((q_move rfl rfl)) (sr rfl rfl rfl ((q_eql rfl rfl rfl)) (sr rfl rfl rfl ((q_move rfl rfl)) (sr rfl rfl rfl ((q_move rfl rfl)) (sr rfl rfl rfl ((q_lss rfl rfl rfl)) (sr rfl rfl rfl ((q_move rfl rfl)) (sr rfl rfl rfl ((q_move rfl rfl)) (sr rfl rfl rfl ((q_gtr rfl rfl rfl)) (sr rfl rfl rfl ((q_or2 rfl rfl rfl)) (sr rfl rfl rfl ((q_and2 rfl rfl rfl)) (sw_nil (post_then ?_))))))))))))))))))
      rw [hE]
      refine cw_cond rfl (fun h5 => ?_) (fun h5 => ?_)
      · skip
        exfalso
        simp at h5
        omega
      · skip
        clear h5
        refine cw_skip (post_then (cw_seq (cw_seq (cw_region (sr rfl rfl rfl ((q_move rfl rfl)) (sr rfl rfl rfl ((q_neq rfl rfl rfl)) (sw_nil (post_then ?_))))))))
        refine cw_cond rfl (fun h6 => ?_) (fun h6 => ?_)
        · skip
          simp at h6
        · skip
          clear h6
          refine cw_skip (post_then (cw_seq (cw_region (sr rfl rfl rfl ((q_move rfl rfl)) (sr rfl rfl rfl ((q_move rfl rfl)) ?_)))))
          refine sr rfl rfl rfl ((q_loadA rfl rfl (by exact .head _) rfl)) ?_
          refine sw_x rfl rfl rfl (e_call (CanCall.mk Tryz.call27) rfl (.cons rfl inferInstance (.cons rfl inferInstance (.cons rfl inferInstance (.nil)))) (fun w hw => refSeqs_spec sp tp p tgt x w (hvr.arg hw) (stb_arg hw htp) hE hfew)) (fun z => ?_)
          refine sw_imp fun hz => ?_
          obtain ⟨sa, ⟨O, L⟩⟩ := z
          dsimp only at hz ⊢
          obtain ⟨hall, hmem⟩ := hz
          refine sw_le (C' := Cl w [] (blk b6 (enc x) 25 :: ownL 30 so.v outs :: ownL 30 sa.v O :: (outs.map sqA ++ L.map rowG))) (fun w' h => h.perm (best_perm _ _ _ _ _)) ?_
          have hne := poss_ne (x := x) hP
          have hOne : O ≠ [] := fun h0 => by
            have := hall.2.length_eq
            rw [h0] at this
            simp only [List.map_nil, List.length_nil, List.length_map] at this
            exact hne (List.eq_nil_of_length_eq_zero this.symm)
          have hO0 : 0 < O.length := List.length_pos_iff.2 hOne
          have htake := Tsk.allS_bf hall hbf
          have hmin := Tsk.allS_len hall hbf (n := m) (by simpa using hend) (by simpa using hlen)
          simp only [List.length_map] at htake hmin
          have hOl : outs.length ≤ O.length := by omega
          refine sr rfl rfl rfl ((q_assign rfl rfl)) (sw_nil (post_then (cw_seq (cw_seq (cw_region (sr rfl rfl rfl ((q_move rfl rfl)) ?_))))))
          refine sr rfl rfl rfl ((q_len rfl (.cons rfl inferInstance (.nil)) (by exact fun w hw => rd_own hw (by exact .tail _ (.tail _ (.head _)))))) ?_
          refine sr rfl rfl rfl ((q_eql rfl rfl rfl)) (sw_nil (post_then ?_))
          refine cw_cond rfl (fun h7 => ?_) (fun h7 => ?_)
          · skip
            exfalso
            exact hOne (by simpa using h7)
          · skip
            clear h7
            refine cw_skip (post_then (cw_seq (cw_seq (cw_region (sr rfl rfl rfl ((q_move rfl rfl)) (sr rfl rfl rfl ((q_neq rfl rfl rfl)) (sr rfl rfl rfl ((q_move rfl rfl)) (sr rfl rfl rfl ((q_move rfl rfl)) ?_))))))))
            refine sr rfl rfl rfl ((q_len rfl (.cons rfl inferInstance (.nil)) (by exact fun w hw => rd_own hw (by exact .tail _ (.head _))))) ?_
            refine sr rfl rfl rfl ((q_move rfl rfl)) (sr rfl rfl rfl ((q_move rfl rfl)) ?_)
            refine sr rfl rfl rfl ((q_len rfl (.cons rfl inferInstance (.nil)) (by exact fun w hw => rd_own hw (by exact .tail _ (.tail _ (.head _)))))) ?_
            refine sr rfl rfl rfl ((q_min rfl (.cons rfl inferInstance (.cons rfl inferInstance (.nil))))) (sr rfl rfl rfl ((q_neq rfl rfl rfl)) (sr rfl rfl rfl ((q_or2 rfl rfl rfl)) (sw_nil (post_then ?_))))
            refine cw_cond rfl (fun h8 => ?_) (fun h8 => ?_)
            · skip
              exfalso
              simp at h8
              omega
            · skip
              clear h8
              refine cw_skip (post_then (cw_seq (cw_seq (cw_region (sr rfl rfl rfl ((q_assign rfl rfl)) (sw_nil (post_then (cw_block ?_))))))))
              refine cw_loop (S := Nat) (fun i => [(0, [], sp.v), (1, [], tp.v), (3, [], .int .i64 m), (6, [], .pointer (some ⟨b6, 0, none⟩)), (9, [], so.v), (12, [], sa.v), (13, [], .int .i64 i)]) (fun _ => Cl w [] (blk b6 (enc x) 25 :: ownL 30 so.v outs :: ownL 30 sa.v O :: (outs.map sqA ++ L.map rowG))) (fun i => i ≤ outs.length) (fun i => outs.length - i) 0 (Nat.zero_le _) (by exact .cons rfl (.cons rfl (.cons rfl (.cons rfl (.cons rfl (.cons rfl (.cons rfl .nil))))))) (fun _ h => h) ?_
              intro i hi
              refine cw_seq (cw_seq (cw_region (sr rfl rfl rfl ((q_move rfl rfl)) (sr rfl rfl rfl ((q_move rfl rfl)) ?_))))
              refine sr rfl rfl rfl ((q_len rfl (.cons rfl inferInstance (.nil)) (by exact fun w hw => rd_own hw (by exact .tail _ (.head _))))) ?_
              refine sr rfl rfl rfl ((q_lss rfl rfl rfl)) (sw_nil (post_then ?_))
              refine cw_cond rfl (fun h9 => ?_) (fun h9 => ?_)
              · skip
                have hi' : i < outs.length := by simp only [decide_eq_true_eq] at h9; omega
                have hkey : keyS (nth outs i) = keyS (nth O i) := by
                  rw [← keyS_nth hi', ← keyS_nth (by omega), ← htake, nth_get (by simp; omega), nth_get (by simp; omega)]
                  simp
                have ec : (nth outs i).cost = (nth O i).cost := congrArg Prod.snd hkey
                have eu : (nth outs i).ul = (nth O i).ul := congrArg Prod.fst hkey
                refine cw_skip (post_then (cw_seq (cw_block (cw_seq ?_))))
                refine cw_region_q mixed_Tryz (by kernel_rfl) ?_
                refine qr rfl rfl rfl ((q_move rfl rfl)) (qr rfl rfl rfl ((q_move rfl rfl)) ?_)
                refine qr rfl rfl rfl ((q_indexN rfl rfl rfl (by exact fun w hw => rd_own hw (by exact .tail _ (.head _))) (by intro hc; omega))) ?_
                refine qr rfl rfl rfl ((q_fieldEl rfl rfl (by exact fun w hw => rd_own hw (by exact .tail _ (.head _))) (by intro hc; omega))) ?_
                refine qr rfl rfl rfl ((q_loadF rfl rfl rfl (by exact fun w hw => rd_own hw (by exact .tail _ (.head _))) (by intro hc; omega) rfl)) ?_
                refine qr rfl rfl rfl ((q_move rfl rfl)) (qr rfl rfl rfl ((q_move rfl rfl)) ?_)
                refine qr rfl rfl rfl ((q_indexN rfl rfl rfl (by exact fun w hw => rd_own hw (by exact .tail _ (.tail _ (.head _)))) (by intro hc; omega))) ?_
                refine qr rfl rfl rfl ((q_fieldEl rfl rfl (by exact fun w hw => rd_own hw (by exact .tail _ (.tail _ (.head _)))) (by intro hc; omega))) ?_
                refine qr rfl rfl rfl ((q_loadF rfl rfl rfl (by exact fun w hw => rd_own hw (by exact .tail _ (.tail _ (.head _)))) (by intro hc; omega) rfl)) ?_
                refine qr rfl rfl rfl ((q_neq rfl rfl rfl)) (qr rfl rfl rfl ((q_move rfl rfl)) (qr rfl rfl rfl ((q_move rfl rfl)) (qr rfl rfl rfl ((q_move rfl rfl)) ?_)))
                refine qr rfl rfl rfl ((q_indexN rfl rfl rfl (by exact fun w hw => rd_own hw (by exact .tail _ (.head _))) (by intro hc; omega))) ?_
                refine qr rfl rfl rfl ((q_fieldEl rfl rfl (by exact fun w hw => rd_own hw (by exact .tail _ (.head _))) (by intro hc; omega))) ?_
                refine qr rfl rfl rfl ((q_loadF rfl rfl rfl (by exact fun w hw => rd_own hw (by exact .tail _ (.head _))) (by intro hc; omega) rfl)) ?_
                refine qr rfl rfl rfl ((q_move rfl rfl)) (qr rfl rfl rfl ((q_move rfl rfl)) ?_)
                refine qr rfl rfl rfl ((q_indexN rfl rfl rfl (by exact fun w hw => rd_own hw (by exact .tail _ (.tail _ (.head _)))) (by intro hc; omega))) ?_
                refine qr rfl rfl rfl ((q_fieldEl rfl rfl (by exact fun w hw => rd_own hw (by exact .tail _ (.tail _ (.head _)))) (by intro hc; omega))) ?_
                refine qr rfl rfl rfl ((q_loadF rfl rfl rfl (by exact fun w hw => rd_own hw (by exact .tail _ (.tail _ (.head _)))) (by intro hc; omega) rfl)) ?_
                refine qw_step rfl rfl rfl (q_call (CanCall.mk Tryz.call23) rfl (.cons rfl inferInstance (.cons rfl inferInstance (.nil))) (fun _ w hw => callq hw (same_true (nth outs i).us.v (nth O i).us.v (nth outs i).ul (nth O i).ul eu w (stb_own (e := 3) hw (.tail _ (.tail _ (.tail _ (List.mem_append_left _ (List.mem_map_of_mem (f := sqA) (nth_mem hi'))))))) (stb_own (e := 3) hw (.tail _ (.tail _ (.tail _ (List.mem_append_right _ (List.mem_map_of_mem (f := rowG) (hmem _ (nth_mem (show i < O.length by omega)))))))))) )) ?_
                refine qr rfl rfl rfl ((q_not rfl rfl)) (qr rfl rfl rfl ((q_or2 rfl rfl rfl)) (qw_end (post_then ?_)))
                refine cw_cond rfl (fun h10 => ?_) (fun h10 => ?_)
                · skip
                  exfalso
                  simp [ec] at h10
                · skip
                  refine cw_skip (post_blk (post_then (cw_region (sr rfl rfl rfl ((q_move rfl rfl)) ?_))))
                  refine sr rfl rfl rfl ((q_add rfl rfl rfl (by intro hc; omega))) ?_
                  refine sr rfl rfl rfl ((q_assign rfl rfl)) (sw_nil ?_)
                  exact post_next (i + 1) (by exact .cons rfl (.cons rfl (.cons rfl (.cons rfl (.cons rfl (.cons rfl (.cons rfl .nil))))))) (fun _ h => h) (by omega) (by omega)
              · skip
                refine cw_exit (post_then_x (post_then_x (post_blk_eq (post_then (cw_seq (cw_region (sr rfl rfl rfl ((q_move rfl rfl)) (sr rfl rfl rfl ((q_move rfl rfl)) ?_))))))))
                refine sr rfl rfl rfl ((q_loadA rfl rfl (by exact .head _) rfl)) ?_
                refine sw_x rfl rfl rfl (e_call (CanCall.mk Tryz.call19) rfl (.cons rfl inferInstance (.cons rfl inferInstance (.cons rfl inferInstance (.nil)))) (fun w hw => choose_yes sp tp p tgt x w (hvr.arg hw) (stb_arg hw htp) hta hE hP hbig)) (fun c => ?_)
                refine sw_imp fun hc => ?_
                obtain ⟨⟨s1, s2⟩, ⟨cells, q⟩⟩ := c
                dsimp only at hc ⊢
                obtain ⟨hT, hb1, hb2, hb3⟩ := hc
                obtain ⟨r, hr⟩ := Tsk.allS_first hall hb1 hb2 hb3
                have hk0 : keyS (nth O 0) = (q.ul, q.cost) := by
                  rw [← keyS_nth hO0, hr]; rfl
                have ec : q.cost = (nth O 0).cost := (congrArg Prod.snd hk0).symm
                have eu : q.ul = (nth O 0).ul := (congrArg Prod.fst hk0).symm
                refine sr rfl rfl rfl ((q_move rfl rfl)) (sr rfl rfl rfl ((q_extract rfl rfl rfl)) (sr rfl rfl rfl ((q_extract rfl rfl rfl)) (sr rfl rfl rfl ((q_extract rfl rfl rfl)) ?_)))
                refine sw_x rfl rfl rfl (e_alloc rfl) (fun b14 => ?_)
                refine sw_eff0 rfl rfl (e_store (i := 0) rfl rfl rfl rfl rfl rfl rfl rfl) (sr rfl rfl rfl ((q_assign rfl rfl)) (sr rfl rfl rfl ((q_assign rfl rfl)) (sw_nil (post_then (cw_seq (cw_c (C' := Cl w [] (blk b14 (enc q) 30 :: ownL 28 s1.v (rowsTo s2 p.length tgt.length tgt.length) :: ownL 3 s2.v cells :: ownL 3 q.us.v q.ul :: blk b6 (enc x) 25 :: ownL 30 so.v outs :: ownL 30 sa.v O :: (outs.map sqA ++ L.map rowG))) (fun w' h => h) ?_))))))
                refine cw_region_q mixed_Tryz (by kernel_rfl) ?_
                refine qr rfl rfl rfl ((q_move rfl rfl)) (qr rfl rfl rfl ((q_eql rfl rfl rfl)) (qr rfl rfl rfl ((q_move rfl rfl)) (qr rfl rfl rfl ((q_fieldAddr rfl rfl)) ?_)))
                refine qr rfl rfl rfl ((q_loadC rfl rfl (by exact .head _) rfl)) ?_
                refine qr rfl rfl rfl ((q_move rfl rfl)) ?_
                refine qr rfl rfl rfl ((q_indexN rfl rfl rfl (by exact fun w hw => rd_own hw (by exact .tail _ (.tail _ (.tail _ (.tail _ (.tail _ (.tail _ (.head _)))))))) (by intro hc; omega))) ?_
                refine qr rfl rfl rfl ((q_fieldEl rfl rfl (by exact fun w hw => rd_own hw (by exact .tail _ (.tail _ (.tail _ (.tail _ (.tail _ (.tail _ (.head _)))))))) (by intro hc; omega))) ?_
                refine qr rfl rfl rfl ((q_loadF rfl rfl rfl (by exact fun w hw => rd_own hw (by exact .tail _ (.tail _ (.tail _ (.tail _ (.tail _ (.tail _ (.head _)))))))) (by intro hc; omega) rfl)) ?_
                refine qr rfl rfl rfl ((q_eql rfl rfl rfl)) (qr rfl rfl rfl ((q_and2 rfl rfl rfl)) (qr rfl rfl rfl ((q_move rfl rfl)) (qr rfl rfl rfl ((q_fieldAddr rfl rfl)) ?_)))
                refine qr rfl rfl rfl ((q_loadC rfl rfl (by exact .head _) rfl)) ?_
                refine qr rfl rfl rfl ((q_move rfl rfl)) ?_
                refine qr rfl rfl rfl ((q_indexN rfl rfl rfl (by exact fun w hw => rd_own hw (by exact .tail _ (.tail _ (.tail _ (.tail _ (.tail _ (.tail _ (.head _)))))))) (by intro hc; omega))) ?_
                refine qr rfl rfl rfl ((q_fieldEl rfl rfl (by exact fun w hw => rd_own hw (by exact .tail _ (.tail _ (.tail _ (.tail _ (.tail _ (.tail _ (.head _)))))))) (by intro hc; omega))) ?_
                refine qr rfl rfl rfl ((q_loadF rfl rfl rfl (by exact fun w hw => rd_own hw (by exact .tail _ (.tail _ (.tail _ (.tail _ (.tail _ (.tail _ (.head _)))))))) (by intro hc; omega) rfl)) ?_
                refine qw_step rfl rfl rfl (q_call (CanCall.mk Tryz.call23) rfl (.cons rfl inferInstance (.cons rfl inferInstance (.nil))) (fun _ w hw => callq hw (same_true q.us.v (nth O 0).us.v q.ul (nth O 0).ul eu w (stb_own (e := 3) hw (by exact .tail _ (.tail _ (.tail _ (.head _))))) (stb_own (e := 3) hw (.tail _ (.tail _ (.tail _ (.tail _ (.tail _ (.tail _ (.tail _ (List.mem_append_right _ (List.mem_map_of_mem (f := rowG) (hmem _ (nth_mem hO0))))))))))))))) ?_
                refine qr rfl rfl rfl ((q_and2 rfl rfl rfl)) (qr rfl rfl rfl ((q_move rfl rfl)) (qw_step rfl rfl rfl (q_call (CanCall.mk Tryz.call18) rfl (.nil) (fun _ w hw => callq hw (known_spec w))) (qr rfl rfl rfl ((q_and2 rfl rfl rfl)) (qr rfl rfl rfl ((q_assign rfl rfl)) (qw_end (post_then (cw_ret (post_ret1 rfl (resOk_tmp rfl) ?_))))))))
                exact fun w' hw => ⟨by simp [ec], cl_drop (F := []) hw⟩
    · skip
      refine sw_x rfl rfl rfl (e_call (vf := fun _ : Unit => .tuple #[SlV.v ⟨none, 0, 0⟩, .int .i64 (bestE p tgt x n)]) (CanCall.mk Tryz.call26) rfl (.cons rfl inferInstance (.cons rfl inferInstance (.cons rfl inferInstance (.cons rfl inferInstance (.nil))))) (fun w hw => best_fail sp tp p tgt x n w (hvr.arg hw) (stb_arg hw htp) hta hB)) (fun u => ?_)
      refine sw_imp fun _ => (sr rfl rfl rfl ((q_move rfl rfl)) (sr rfl rfl rfl ((q_extract rfl rfl rfl)) (sr rfl rfl rfl ((q_extract rfl rfl rfl)) (sr rfl rfl rfl ((q_assign rfl rfl)) (sr rfl rfl rfl ((q_assign rfl rfl)) (sw_nil (post_then (cw_seq (cw_region (sr rfl rfl rfl ((q_move rfl rfl)) (sr rfl rfl rfl ((q_move rfl rfl)) ?_)))))))))))
      refine sr rfl rfl rfl ((q_loadA rfl rfl (by exact .head _) rfl)) ?_
      refine sw_step rfl rfl rfl (q_call (CanCall.mk Tryz.call20) rfl (.cons rfl inferInstance (.cons rfl inferInstance (.cons rfl inferInstance (.nil)))) (fun _ w hw => callq hw (wrong_spec sp tp p tgt x w (hvr.arg hw) (stb_arg hw htp) hta))) (sr rfl rfl rfl ((q_assign rfl rfl)) (sw_nil (post_then (cw_seq (cw_seq (cw_region (sr rfl rfl rfl ((q_move rfl rfl)) (sr rfl rfl rfl ((q_eql rfl rfl rfl)) (sr rfl rfl rfl ((q_move rfl rfl)) (sr rfl rfl rfl ((q_move rfl rfl)) (sr rfl rfl rfl ((q_lss rfl rfl rfl)) (sr rfl rfl rfl ((q_move rfl rfl)) (sr rfl rfl rfl ((q_move rfl rfl)) (sr rfl rfl rfl ((q_gtr rfl rfl rfl)) (sr rfl rfl rfl ((q_or2 rfl rfl rfl)) (sr rfl rfl rfl ((q_and2 rfl rfl rfl)) (sw_nil (post_then ?_))))))))))))))))))
      refine cw_cond rfl (fun h5 => ?_) (fun h5 => ?_)
      · skip
        have hE : beginE p tgt x = 0 := by
          simp only [Bool.and_eq_true, decide_eq_true_eq] at h5
          exact h5.1
        have e2 : bestE p tgt x n = 2 := by
          rw [bestE_at hE, if_pos]
          simp [hE] at h5
          simp [inB]
          omega
        refine cw_region (sr rfl rfl rfl ((q_assign rfl rfl)) (sw_nil (post_then (cw_seq (cw_seq (cw_region (sr rfl rfl rfl ((q_move rfl rfl)) (sr rfl rfl rfl ((q_neq rfl rfl rfl)) (sw_nil (post_then ?_))))))))))
        refine cw_cond rfl (fun h6 => ?_) (fun h6 => ?_)
        · skip
          refine cw_seq (cw_region (sr rfl rfl rfl ((q_move rfl rfl)) (sr rfl rfl rfl ((q_move rfl rfl)) (sr rfl rfl rfl ((q_eql rfl rfl rfl)) (sr rfl rfl rfl ((q_move rfl rfl)) (sr rfl rfl rfl ((q_move rfl rfl)) (sr rfl rfl rfl ((q_lenV rfl (.cons rfl inferInstance (.nil)))) (sr rfl rfl rfl ((q_eql rfl rfl rfl)) (sr rfl rfl rfl ((q_and2 rfl rfl rfl)) (sr rfl rfl rfl ((q_move rfl rfl)) (sw_step rfl rfl rfl (q_call (CanCall.mk Tryz.call18) rfl (.nil) (fun _ w hw => callq hw (known_spec w))) (sr rfl rfl rfl ((q_and2 rfl rfl rfl)) (sr rfl rfl rfl ((q_assign rfl rfl)) (sw_nil (post_then (cw_ret (post_then_r (post_ret1 rfl (resOk_tmp rfl) ?_))))))))))))))))))
          exact fun w' hw => ⟨by simp [e2], (fun w h => Cl.sel (by exact .nil _) w h) _ hw⟩
        · skip
          simp at h6
      · skip
        refine cw_skip (post_then (cw_seq (cw_seq (cw_region (sr rfl rfl rfl ((q_move rfl rfl)) (sr rfl rfl rfl ((q_neq rfl rfl rfl)) (sw_nil (post_then ?_))))))))
        refine cw_cond rfl (fun h6 => ?_) (fun h6 => ?_)
        · skip
          have hE : beginE p tgt x ≠ 0 := by simpa using h6
          refine cw_seq (cw_region (sr rfl rfl rfl ((q_move rfl rfl)) (sr rfl rfl rfl ((q_move rfl rfl)) (sr rfl rfl rfl ((q_eql rfl rfl rfl)) (sr rfl rfl rfl ((q_move rfl rfl)) (sr rfl rfl rfl ((q_move rfl rfl)) (sr rfl rfl rfl ((q_lenV rfl (.cons rfl inferInstance (.nil)))) (sr rfl rfl rfl ((q_eql rfl rfl rfl)) (sr rfl rfl rfl ((q_and2 rfl rfl rfl)) (sr rfl rfl rfl ((q_move rfl rfl)) (sw_step rfl rfl rfl (q_call (CanCall.mk Tryz.call18) rfl (.nil) (fun _ w hw => callq hw (known_spec w))) (sr rfl rfl rfl ((q_and2 rfl rfl rfl)) (sr rfl rfl rfl ((q_assign rfl rfl)) (sw_nil (post_then (cw_ret (post_then_r (post_ret1 rfl (resOk_tmp rfl) ?_))))))))))))))))))
          exact fun w' hw => ⟨by simp [begin_best hE], (fun w h => Cl.sel (by exact .nil _) w h) _ hw⟩
        · skip
          have hE : beginE p tgt x = 0 := by simpa using h6
          have hfew : fewB p tgt 200 = true := by
            rcases hf with hf | hf
            · exact absurd hE hf
            · exact hf
          have hn : inB n 1 50 = true := by
            simp [hE] at h5
            simp [inB]
            omega
          have hP : possP p tgt = false := by
            rw [bestE_at hE, hn] at hB
            simpa using hB
          have e5 : bestE p tgt x n = 5 := by rw [bestE_at hE, hn, hP]; rfl
          refine cw_skip (post_then (cw_seq (cw_region (sr rfl rfl rfl ((q_move rfl rfl)) (sr rfl rfl rfl ((q_move rfl rfl)) ?_)))))
          refine sr rfl rfl rfl ((q_loadA rfl rfl (by exact .head _) rfl)) ?_
          refine sw_x rfl rfl rfl (e_call (CanCall.mk Tryz.call27) rfl (.cons rfl inferInstance (.cons rfl inferInstance (.cons rfl inferInstance (.nil)))) (fun w hw => refSeqs_spec sp tp p tgt x w (hvr.arg hw) (stb_arg hw htp) hE hfew)) (fun z => ?_)
          refine sw_imp fun hz => ?_
          obtain ⟨sa, ⟨O, L⟩⟩ := z
          dsimp only at hz ⊢
          have hO : O = [] := by
            have := hz.1.2.length_eq
            have h0 : (tsk p tgt x).tl (tsk p tgt x).T = [] := poss_nil hP
            rw [h0] at this
            simp only [List.map_nil, List.length_nil, List.length_map] at this
            exact List.eq_nil_of_length_eq_zero this
          subst hO
          refine sw_le (C' := Cl w [] (ownL 30 sa.v ([] : List Sq) :: L.map rowG)) (fun w' h => cl_drop (F := ownL 30 sa.v ([] : List Sq) :: L.map rowG) h) (sr rfl rfl rfl ((q_assign rfl rfl)) (sw_nil (post_then (cw_seq (cw_seq (cw_region (sr rfl rfl rfl ((q_move rfl rfl)) ?_)))))))
          refine sr rfl rfl rfl ((q_len rfl (.cons rfl inferInstance (.nil)) (by exact fun w hw => rd_own hw (by exact .head _)))) ?_
          refine sr rfl rfl rfl ((q_eql rfl rfl rfl)) (sw_nil (post_then ?_))
          refine cw_cond rfl (fun h7 => ?_) (fun h7 => ?_)
          · skip
            refine cw_seq (cw_region (sr rfl rfl rfl ((q_move rfl rfl)) (sr rfl rfl rfl ((q_eql rfl rfl rfl)) (sr rfl rfl rfl ((q_move rfl rfl)) (sr rfl rfl rfl ((q_move rfl rfl)) (sr rfl rfl rfl ((q_lenV rfl (.cons rfl inferInstance (.nil)))) (sr rfl rfl rfl ((q_eql rfl rfl rfl)) (sr rfl rfl rfl ((q_and2 rfl rfl rfl)) (sr rfl rfl rfl ((q_move rfl rfl)) (sw_step rfl rfl rfl (q_call (CanCall.mk Tryz.call18) rfl (.nil) (fun _ w hw => callq hw (known_spec w))) (sr rfl rfl rfl ((q_and2 rfl rfl rfl)) (sr rfl rfl rfl ((q_assign rfl rfl)) (sw_nil (post_then (cw_ret (post_then_r (post_ret1 rfl (resOk_tmp rfl) ?_)))))))))))))))))
            exact fun w' hw => ⟨by simp [e5], cl_drop (F := []) hw⟩
          · skip
            simp at h7
end Go.Proofs.YtomjbfeafodfbaaGreat
