import Derived.Test.YtomjbfeafodfbaaGreatWMany4

set_option autoImplicit false
set_option linter.unusedSimpArgs false
set_option linter.unusedVariables false
set_option maxRecDepth 100000
namespace Go.Proofs.YtomjbfeafodfbaaGreat
open Go.Sx
open Enc (enc val)
structure EX where
  su : SlV
  st : SlV
  a : SlV
  b : SlV
  c : SlV
  d : SlV
  e : SlV
  f : SlV
def EX.U (y : EX) : List Un := exU y.a y.b y.c y.d y.e y.f
def EX.H (y : EX) : List Asn := [ownL 51 y.st.v exT, ownL 49 y.su.v y.U, ownL 3 y.f.v [(5 : Int)], ownL 3 y.e.v [(0 : Int)], ownL 3 y.d.v [(0 : Int)], ownL 3 y.c.v [(5 : Int)], ownL 3 y.b.v [(4 : Int)], ownL 3 y.a.v [(0 : Int)]]
theorem example_spec (w : World) : Calls Tryz.prog 63 #[] w fun e w' => ∃ y : EX, e = .returned (.tuple #[y.su.v, y.st.v, val exW]) ∧ True ∧ Cl w [] y.H w' := by
  refine calls_cw (vs := []) Tryz.func63 rfl Tryz.ntmps63 rfl (Cl.start0 w) (cw_seq (cw_region (sr rfl rfl rfl ((q_assign rfl rfl)) (sr rfl rfl rfl ((q_assign rfl rfl)) ?_))))
  refine sw_x rfl rfl rfl (e_alloc rfl) (fun b2 => ?_)
  refine sw_nil (post_then (cw_seq (cw_region ?_)))
  refine sw_x rfl rfl rfl (e_build1 (α := Int) rfl rfl rfl rfl) (fun s4 => ?_)
  refine sw_x rfl rfl rfl (e_build1 (α := Int) rfl rfl rfl rfl) (fun s5 => ?_)
  refine sr rfl rfl rfl ((q_build rfl (.cons rfl inferInstance (.cons rfl inferInstance (.cons rfl inferInstance (.cons rfl inferInstance (.cons rfl inferInstance (.cons rfl inferInstance (.nil))))))) rfl)) ?_
  refine sw_x rfl rfl rfl (e_build1 (α := Int) rfl rfl rfl rfl) (fun s7 => ?_)
  refine sw_x rfl rfl rfl (e_build1 (α := Int) rfl rfl rfl rfl) (fun s8 => ?_)
  refine sr rfl rfl rfl ((q_build rfl (.cons rfl inferInstance (.cons rfl inferInstance (.cons rfl inferInstance (.cons rfl inferInstance (.cons rfl inferInstance (.cons rfl inferInstance (.cons rfl inferInstance (.nil)))))))) rfl)) ?_
  refine sw_x rfl rfl rfl (e_build1 (α := Int) rfl rfl rfl rfl) (fun s10 => ?_)
  refine sw_x rfl rfl rfl (e_build1 (α := Int) rfl rfl rfl rfl) (fun s11 => ?_)
  refine sr rfl rfl rfl ((q_build rfl (.cons rfl inferInstance (.cons rfl inferInstance (.cons rfl inferInstance (.cons rfl inferInstance (.cons rfl inferInstance (.cons rfl inferInstance (.cons rfl inferInstance (.nil)))))))) rfl)) ?_
  refine sw_x rfl rfl rfl (e_buildL (α := Un) (l := exU s4 s5 s7 s8 s10 s11) rfl (.cons rfl inferInstance (.cons rfl inferInstance (.cons rfl inferInstance (.nil)))) rfl rfl rfl rfl) (fun s13 => ?_)
  refine sr rfl rfl rfl ((q_assign rfl rfl)) (sw_nil (post_then (cw_seq (cw_region (sr rfl rfl rfl ((q_move rfl rfl)) ?_)))))
  refine sr rfl rfl rfl ((q_build (cells := [.string exA, .string ByteArray.empty, .string ByteArray.empty, .int .i64 100, .int .i64 10]) rfl (.cons rfl inferInstance (.cons rfl inferInstance (.cons rfl inferInstance (.nil)))) (by rfl))) ?_
  refine sr rfl rfl rfl ((q_build (cells := [.string exB, .string ByteArray.empty, .string ByteArray.empty, .int .i64 100, .int .i64 10]) rfl (.cons rfl inferInstance (.cons rfl inferInstance (.cons rfl inferInstance (.nil)))) (by rfl))) ?_
  refine sw_x rfl rfl rfl (e_buildL (α := Wan) (l := exT) rfl (.cons rfl inferInstance (.cons rfl inferInstance (.nil))) rfl rfl rfl rfl) (fun s17 => ?_)
  refine sr rfl rfl rfl ((q_build (cells := enc exW) rfl (.cons rfl inferInstance (.cons rfl inferInstance (.cons rfl inferInstance (.cons rfl inferInstance (.nil))))) (by rfl))) ?_
  refine sr rfl rfl rfl ((q_assign rfl rfl)) (sr rfl rfl rfl ((q_assign rfl rfl)) (sw_eff0 rfl rfl (e_store (i := 8) rfl rfl rfl rfl rfl rfl rfl rfl) (sw_nil (post_then (cw_ret ?_)))))
  refine post_ret3 rfl (resOk_tmp rfl) (resOk_tmp rfl) (resOk_blk (x := exW) rfl (by exact .tail _ (.tail _ (.tail _ (.tail _ (.tail _ (.tail _ (.tail _ (.tail _ (.head _))))))))) (by rfl)) ?_
  exact fun w' hw => ⟨⟨s13, s17, s4, s5, s7, s8, s10, s11⟩, rfl, trivial, (fun w h => Cl.sel (by exact .take 0 rfl (.take 0 rfl (.take 0 rfl (.take 0 rfl (.take 0 rfl (.take 0 rfl (.take 0 rfl (.take 0 rfl (.nil _))))))))) w h) _ hw⟩
theorem ex_un {w : World} {H : List Asn} {w0 : World} (y : EX) (hw : Cl w0 [] H w) (hm : ∀ A ∈ y.H, A ∈ H) : VoRd w y.su y.U ∧ Stb w [] (RdL y.st.v exT) := by
  have h1 := stb_own (e := 49) hw (hm _ (.tail _ (.head _)))
  have h2 := stb_own (e := 51) hw (hm _ (.head _))
  have hf := stb_own (e := 3) hw (hm _ (.tail _ (.tail _ (.head _))))
  have he := stb_own (e := 3) hw (hm _ (.tail _ (.tail _ (.tail _ (.head _)))))
  have hd := stb_own (e := 3) hw (hm _ (.tail _ (.tail _ (.tail _ (.tail _ (.head _))))))
  have hc := stb_own (e := 3) hw (hm _ (.tail _ (.tail _ (.tail _ (.tail _ (.tail _ (.head _)))))))
  have hb := stb_own (e := 3) hw (hm _ (.tail _ (.tail _ (.tail _ (.tail _ (.tail _ (.tail _ (.head _))))))))
  have ha := stb_own (e := 3) hw (hm _ (.tail _ (.tail _ (.tail _ (.tail _ (.tail _ (.tail _ (.tail _ (.head _)))))))))
  refine ⟨⟨h1, fun u hu => ?_⟩, h2⟩
  simp only [EX.U, exU, List.mem_cons, List.not_mem_nil, or_false] at hu
  have sA : exA.size ≤ 140737488355328 := by decide
  have sB : exB.size ≤ 140737488355328 := by decide
  have sE : ByteArray.empty.size ≤ 140737488355328 := by decide
  rcases hu with rfl | rfl | rfl
  · exact ⟨sA, sE, sE, ha, hb⟩
  · exact ⟨sB, sE, sE, hc, hd⟩
  · exact ⟨sA, sE, sE, he, hf⟩
theorem ex_wa : ∀ t ∈ exT, WaRd t := by
  intro t ht
  simp only [exT, List.mem_cons, List.not_mem_nil, or_false] at ht
  rcases ht with rfl | rfl <;> exact ⟨by decide, by decide, by decide⟩
theorem mt_own {w0 w : World} {fp : List Nat} {H : List Asn} (hw : Cl w0 fp H w) {s : SlV} {vs : List SlV} {ls : List (List Int)} {e : TypeId} (hl : ownL e s.v vs ∈ H) (hn : vs.length = ls.length) (hr : ∀ i, i < ls.length → ∃ e2, ownL e2 (nth vs i).v (nth ls i) ∈ H) : Stb w [] (fun w' => Mt w' s.v vs ls) := by
  have h1 := stb_own hw hl
  have h2 : ∀ i, i < ls.length → Stb w [] (RdL (nth vs i).v (nth ls i)) := fun i hi => by
    obtain ⟨e2, h⟩ := hr i hi
    exact stb_own hw h
  exact ⟨fun w' k => ⟨h1.stb w' k, hn, fun i hi => (h2 i hi).stb w' k⟩⟩
theorem ex_rows {w : World} {so sc : SlV} (h1 : Stb w [] (RdL so.v (rowsTo sc 3 2 2))) (h2 : Stb w [] (RdL sc.v [(0 : Int), 0, 20, 0, 0, 0])) : Stb w [] (fun w' => Mt w' so.v (rowsTo sc 3 2 2) [[0, 0, 20], [0, 0, 0]]) := by
  have r0 : Stb w [] (RdL (sc.row 1 0 3).v [(0 : Int), 0, 20]) := stb_row (α := Int) h2 (by decide) (by decide)
  have r1 : Stb w [] (RdL (sc.row 1 3 6).v [(0 : Int), 0, 0]) := stb_row (α := Int) h2 (by decide) (by decide)
  refine ⟨fun w' k => ⟨h1.stb w' k, rowsTo_len _ _ _ _, fun i hi => ?_⟩⟩
  match i, hi with
  | 0, _ => rw [rowsTo_nth _ _ _ _ _ (by decide)]; exact r0.stb w' k
  | 1, _ => rw [rowsTo_nth _ _ _ _ _ (by decide)]; exact r1.stb w' k
def exP : CutP := ⟨[[1], [1], [9]], [[1], [8]], 1⟩
theorem exP_D : (exP.D exP.m 0).getD 0 = 1 := by decide +kernel
theorem exP_pth : exP.pth exP.m 0 = [2, 1] := by decide +kernel
theorem exP_E : cutE exP.fl exP.pl exP.L = 0 := by decide +kernel
theorem exP_ok : exP.Ok where
  fv f hf := by
    have hf' : f < 3 := hf
    match f, hf' with
    | 0, _ => decide
    | 1, _ => decide
    | 2, _ => decide
  pv p hp := by
    have hp' : p < 2 := hp
    match p, hp' with
    | 0, _ => decide
    | 1, _ => decide
  eq f p hf hp := by
    have hf' : f < 3 := hf
    have hp' : p < 2 := hp
    match f, hf', p, hp' with
    | 0, _, 0, _ => rfl
    | 1, _, 0, _ => rfl
    | 2, _, 0, _ => rfl
    | 0, _, 1, _ => rfl
    | 1, _, 1, _ => rfl
    | 2, _, 1, _ => rfl
  n2 := by decide
  m2 := by decide
  l1 := by decide
theorem same_true (sa sb : Value) (a b : List Int) (h : a = b) (w : World) (ha : Stb w [] (RdL sa a)) (hb : Stb w [] (RdL sb b)) : Calls Tryz.prog 23 #[sa, sb] w fun e w' => e = .returned (.bool true) ∧ Cl w [] [] w' := by
  have := same_spec sa sb a b w ha hb
  rwa [decide_eq_true h] at this
theorem sameL_true (sa sb : Value) (va vb : List SlV) (a b : List (List Int)) (h : a = b) (w : World) (ha : Stb w [] (fun w' => Mt w' sa va a)) (hb : Stb w [] (fun w' => Mt w' sb vb b)) : Calls Tryz.prog 24 #[sa, sb] w fun e w' => e = .returned (.bool true) ∧ Cl w [] [] w' := by
  have := sameLists_spec sa sb va vb a b w ha hb
  rwa [decide_eq_true h] at this
theorem known_spec (w : World) : Calls Tryz.prog 18 #[] w fun e w' => e = .returned (.bool true) ∧ Cl w [] [] w' := by
  refine calls_cw (vs := []) Tryz.func18 rfl Tryz.ntmps18 rfl (Cl.start0 w) (cw_seq (cw_region (sr rfl rfl rfl ((q_assign rfl rfl)) (sw_nil (post_then (cw_seq (cw_region ?_)))))))
  refine sw_x rfl rfl rfl (e_call (CanCall.mk Tryz.call63) rfl (.nil) (fun w hw => example_spec w)) (fun y => ?_)
  refine sw_imp fun _ => ?_
  rw [List.append_nil]
  refine sr rfl rfl rfl ((q_move rfl rfl)) (sr rfl rfl rfl ((q_extract rfl rfl rfl)) (sr rfl rfl rfl ((q_extract rfl rfl rfl)) (sr rfl rfl rfl ((q_extract rfl rfl rfl)) ?_)))
  refine sw_x rfl rfl rfl (e_alloc rfl) (fun b3 => ?_)
  refine sr rfl rfl rfl ((q_assign rfl rfl)) (sr rfl rfl rfl ((q_assign rfl rfl)) (sw_eff0 rfl rfl (e_store (i := 0) rfl rfl rfl rfl rfl rfl rfl rfl) (sw_nil (post_then (cw_seq (cw_region (sr rfl rfl rfl ((q_move rfl rfl)) (sr rfl rfl rfl ((q_move rfl rfl)) ?_))))))))
  refine sr rfl rfl rfl ((q_loadA rfl rfl (by exact .head _) rfl)) ?_
  refine sw_x rfl rfl rfl (e_call (CanCall.mk Tryz.call19) rfl (.cons rfl inferInstance (.cons rfl inferInstance (.cons rfl inferInstance (.nil)))) (fun w1 hw => choose_yes y.su y.st y.U exT exW w1 (ex_un y hw (fun A hA => .tail _ hA)).1 (ex_un y hw (fun A hA => .tail _ hA)).2 ex_wa (ex_begin _ _ _ _ _ _) (ex_poss _ _ _ _ _ _) (show (3 + 1) ^ 2 ≤ 500000000 by decide))) (fun z => ?_)
  refine sw_imp fun hz => ?_
  obtain ⟨⟨so, sc⟩, ⟨cells, ⟨qs, qc, ql⟩⟩⟩ := z
  obtain ⟨h1, h2⟩ := hz
  dsimp only at h1 h2
  obtain rfl := ex_cells _ _ _ _ _ _ h1
  obtain ⟨rfl, rfl⟩ := ex_best _ _ _ _ _ _ h2
  clear h1 h2
  dsimp only
  refine sr rfl rfl rfl ((q_move rfl rfl)) (sr rfl rfl rfl ((q_extract rfl rfl rfl)) (sr rfl rfl rfl ((q_extract rfl rfl rfl)) (sr rfl rfl rfl ((q_extract rfl rfl rfl)) ?_)))
  refine sw_x rfl rfl rfl (e_alloc rfl) (fun b4 => ?_)
  refine sw_eff0 rfl rfl (e_store (i := 0) rfl rfl rfl rfl rfl rfl rfl rfl) (sr rfl rfl rfl ((q_assign rfl rfl)) (sr rfl rfl rfl ((q_assign rfl rfl)) (sw_nil (post_then (cw_seq (cw_region (sr rfl rfl rfl ((q_move rfl rfl)) (sr rfl rfl rfl ((q_move rfl rfl)) ?_))))))))
  refine sr rfl rfl rfl ((q_loadA rfl rfl (by exact .tail _ (.tail _ (.tail _ (.tail _ (.head _))))) rfl)) ?_
  refine sw_x rfl rfl rfl (e_call (CanCall.mk Tryz.call26) rfl (.cons rfl inferInstance (.cons rfl inferInstance (.cons rfl inferInstance (.cons rfl inferInstance (.nil))))) (fun w1 hw => best_yes y.su y.st y.U exT exW 5 w1 (ex_un y hw (fun A hA => .tail _ (.tail _ (.tail _ (.tail _ (.tail _ hA)))))).1 (ex_un y hw (fun A hA => .tail _ (.tail _ (.tail _ (.tail _ (.tail _ hA)))))).2 ex_wa (ex_begin _ _ _ _ _ _) (by omega) (ex_poss _ _ _ _ _ _) (show (3 + 1) ^ 2 ≤ 500000000 by decide))) (fun z => ?_)
  refine sw_imp fun hz => ?_
  obtain ⟨so2, ⟨outs, il⟩⟩ := z
  obtain ⟨h1, h2, h3⟩ := hz
  dsimp only at h1 h2 h3 ⊢
  obtain ⟨q1, ⟨u2, c2, l2⟩, rfl, hq⟩ := ex_bests _ _ _ _ _ _ h1 h2
  obtain rfl : c2 = 20 := hq
  clear h1 h2 h3
  refine sw_le (C' := Cl w [] [ownL 30 so2.v [q1, ⟨u2, 20, l2⟩], blk b4 [qs.v, .int .i64 0] 30, ownL 28 so.v (rowsTo sc 3 2 2), ownL 3 sc.v [(0 : Int), 0, 20, 0, 0, 0], ownL 3 qs.v [(0 : Int), 1]]) (fun w h => Cl.sel (by exact .take 0 rfl (.take 2 rfl (.take 2 rfl (.take 2 rfl (.take 2 rfl (.nil _)))))) w h) ?_
  refine sr rfl rfl rfl ((q_move rfl rfl)) (sr rfl rfl rfl ((q_extract rfl rfl rfl)) (sr rfl rfl rfl ((q_extract rfl rfl rfl)) (sr rfl rfl rfl ((q_assign rfl rfl)) (sr rfl rfl rfl ((q_assign rfl rfl)) (sw_nil (post_then (cw_seq (cw_region ?_))))))))
  refine sw_x rfl rfl rfl (e_build1 (α := Int) rfl rfl rfl rfl) (fun s41 => ?_)
  refine sw_x rfl rfl rfl (e_build1 (α := Int) rfl rfl rfl rfl) (fun s42 => ?_)
  refine sw_x rfl rfl rfl (e_build1 (α := Int) rfl rfl rfl rfl) (fun s43 => ?_)
  refine sw_x rfl rfl rfl (e_buildL (α := SlV) (l := [s41, s42, s43]) rfl (.cons rfl inferInstance (.cons rfl inferInstance (.cons rfl inferInstance (.nil)))) rfl rfl rfl rfl) (fun s44 => ?_)
  refine sw_x rfl rfl rfl (e_build1 (α := Int) rfl rfl rfl rfl) (fun s45 => ?_)
  refine sw_x rfl rfl rfl (e_build1 (α := Int) rfl rfl rfl rfl) (fun s46 => ?_)
  refine sw_x rfl rfl rfl (e_buildL (α := SlV) (l := [s45, s46]) rfl (.cons rfl inferInstance (.cons rfl inferInstance (.nil))) rfl rfl rfl rfl) (fun s47 => ?_)
  refine sw_x rfl rfl rfl (e_call (CanCall.mk Tryz.call30) rfl (.cons rfl inferInstance (.cons rfl inferInstance (.cons rfl inferInstance (.nil)))) (fun w1 hw => cut_yes s44 s47 [s41, s42, s43] [s45, s46] exP w1 (mt_own hw (e := 28) (by exact .tail _ (.tail _ (.tail _ (.head _)))) rfl (fun i hi => by match i, hi with | 0, _ => exact ⟨3, (by exact .tail _ (.tail _ (.tail _ (.tail _ (.tail _ (.tail _ (.head _)))))))⟩ | 1, _ => exact ⟨3, (by exact .tail _ (.tail _ (.tail _ (.tail _ (.tail _ (.head _))))))⟩ | 2, _ => exact ⟨3, (by exact .tail _ (.tail _ (.tail _ (.tail _ (.head _)))))⟩)) (mt_own hw (e := 28) (by exact .head _) rfl (fun i hi => by match i, hi with | 0, _ => exact ⟨3, (by exact .tail _ (.tail _ (.head _)))⟩ | 1, _ => exact ⟨3, (by exact .tail _ (.head _))⟩)) exP_E exP_ok (by decide) (by decide))) (fun z => ?_)
  refine sw_imp fun hz => ?_
  obtain ⟨sk, lk⟩ := z
  dsimp only at hz ⊢
  rw [exP_pth] at hz
  subst hz
  rw [exP_D]
  refine sw_le (C' := Cl w [] [ownL 3 sk.v [(2 : Int), 1], ownL 30 so2.v [q1, ⟨u2, 20, l2⟩], blk b4 [qs.v, .int .i64 0] 30, ownL 28 so.v (rowsTo sc 3 2 2), ownL 3 sc.v [(0 : Int), 0, 20, 0, 0, 0], ownL 3 qs.v [(0 : Int), 1]]) (fun w h => Cl.sel (by exact .take 0 rfl (.take 7 rfl (.take 7 rfl (.take 7 rfl (.take 7 rfl (.take 7 rfl (.nil _))))))) w h) ?_
  refine sr rfl rfl rfl ((q_move rfl rfl)) (sr rfl rfl rfl ((q_extract rfl rfl rfl)) (sr rfl rfl rfl ((q_extract rfl rfl rfl)) (sr rfl rfl rfl ((q_extract rfl rfl rfl)) (sr rfl rfl rfl ((q_assign rfl rfl)) (sr rfl rfl rfl ((q_assign rfl rfl)) (sr rfl rfl rfl ((q_assign rfl rfl)) (sw_nil (post_then (cw_seq (cw_region ?_))))))))))
  refine sw_x rfl rfl rfl (e_buildL (α := Int) (l := [0, 1, 2]) rfl (.cons rfl inferInstance (.cons rfl inferInstance (.cons rfl inferInstance (.nil)))) rfl rfl rfl rfl) (fun s52 => ?_)
  refine sw_x rfl rfl rfl (e_buildL (α := Int) (l := [0, 3]) rfl (.cons rfl inferInstance (.cons rfl inferInstance (.nil))) rfl rfl rfl rfl) (fun s53 => ?_)
  refine sw_x rfl rfl rfl (e_buildL (α := Int) (l := [1, 2]) rfl (.cons rfl inferInstance (.cons rfl inferInstance (.nil))) rfl rfl rfl rfl) (fun s54 => ?_)
  refine sw_x rfl rfl rfl (e_build1 (α := Int) rfl rfl rfl rfl) (fun s55 => ?_)
  refine sw_x rfl rfl rfl (e_buildL (α := SlV) (l := [s52, s53, s54, s55]) rfl (.cons rfl inferInstance (.cons rfl inferInstance (.cons rfl inferInstance (.cons rfl inferInstance (.nil))))) rfl rfl rfl rfl) (fun s56 => ?_)
  refine sr rfl rfl rfl ((q_assign rfl rfl)) (sw_nil (post_then (cw_seq (cw_region (sr rfl rfl rfl ((q_move rfl rfl)) ?_)))))
  have hsets : ∀ {w1 : World} {H : List Asn}, Cl w [] H w1 → ownL 28 s56.v [s52, s53, s54, s55] ∈ H → ownL 3 s52.v [(0 : Int), 1, 2] ∈ H → ownL 3 s53.v [(0 : Int), 3] ∈ H → ownL 3 s54.v [(1 : Int), 2] ∈ H → ownL 3 s55.v [(3 : Int)] ∈ H → Stb w1 [] (fun w' => Mt w' s56.v [s52, s53, s54, s55] exS) := fun hw m0 m1 m2 m3 m4 => mt_own hw (e := 28) m0 rfl (fun i hi => by
    have hi' : i < 4 := hi
    match i, hi' with
    | 0, _ => exact ⟨3, m1⟩
    | 1, _ => exact ⟨3, m2⟩
    | 2, _ => exact ⟨3, m3⟩
    | 3, _ => exact ⟨3, m4⟩)
  refine sw_x rfl rfl rfl (e_call (CanCall.mk Tryz.call42) rfl (.cons rfl inferInstance (.cons rfl inferInstance (.nil))) (fun w1 hw => greedy_yes 4 (by omega) s56 [s52, s53, s54, s55] exS (by decide) w1 (hsets hw (by exact .head _) (by exact .tail _ (.tail _ (.tail _ (.tail _ (.head _))))) (by exact .tail _ (.tail _ (.tail _ (.head _)))) (by exact .tail _ (.tail _ (.head _))) (by exact .tail _ (.head _))) exS_cov exS_poss)) (fun z => ?_)
  refine sw_imp fun hz => ?_
  obtain ⟨sa, ⟨la, ka⟩⟩ := z
  dsimp only at hz ⊢
  obtain rfl := exS_k hz.ok hz.full
  obtain rfl : la = [0, 1] := srt_two (by rw [← exS_out]; exact hz.perm) hz.srt
  clear hz
  refine sr rfl rfl rfl ((q_move rfl rfl)) (sr rfl rfl rfl ((q_extract rfl rfl rfl)) (sr rfl rfl rfl ((q_extract rfl rfl rfl)) (sr rfl rfl rfl ((q_assign rfl rfl)) (sr rfl rfl rfl ((q_assign rfl rfl)) (sw_nil (post_then (cw_seq (cw_region (sr rfl rfl rfl ((q_move rfl rfl)) ?_)))))))))
  refine sw_x rfl rfl rfl (e_call (CanCall.mk Tryz.call34) rfl (.cons rfl inferInstance (.cons rfl inferInstance (.nil))) (fun w1 hw => price_yes 4 (by omega) s56 [s52, s53, s54, s55] exS w1 (hsets hw (by exact .tail _ (.head _)) (by exact .tail _ (.tail _ (.tail _ (.tail _ (.tail _ (.head _)))))) (by exact .tail _ (.tail _ (.tail _ (.tail _ (.head _))))) (by exact .tail _ (.tail _ (.tail _ (.head _)))) (by exact .tail _ (.tail _ (.head _)))) exS_cov (by decide) (by rw [exS_wid]; decide) exS_poss)) (fun z => ?_)
  refine sw_imp fun hz => ?_
  obtain ⟨sp, ⟨lp, ⟨kp, lq⟩⟩⟩ := z
  dsimp only at hz ⊢
  obtain ⟨hz1, hz2⟩ := hz
  obtain rfl := exS_k hz2.ok hz2.full
  rw [exS_sh] at hz1
  obtain rfl : lp = [9240, 9240, 9240, 27720] := hz1
  clear hz2
  rw [exS_wid, exS_scale]
  refine sr rfl rfl rfl ((q_move rfl rfl)) (sr rfl rfl rfl ((q_extract rfl rfl rfl)) (sr rfl rfl rfl ((q_extract rfl rfl rfl)) (sr rfl rfl rfl ((q_extract rfl rfl rfl)) (sr rfl rfl rfl ((q_assign rfl rfl)) (sr rfl rfl rfl ((q_assign rfl rfl)) (sr rfl rfl rfl ((q_assign rfl rfl)) (sw_nil (post_then (cw_seq (cw_region (sr rfl rfl rfl ((q_move rfl rfl)) (sr rfl rfl rfl ((q_move rfl rfl)) (sr rfl rfl rfl ((q_move rfl rfl)) ?_)))))))))))))
  refine sw_step rfl rfl rfl (q_call (v := .tuple #[.int .i64 2, .bool true]) (CanCall.mk Tryz.call39) rfl (.cons rfl inferInstance (.cons rfl inferInstance (.cons rfl inferInstance (.cons rfl inferInstance (.nil))))) (fun _ w1 hw => callq hw (by have := proves_yes 4 (by omega) s56 [s52, s53, s54, s55] exS sp [9240, 9240, 9240, 27720] 50820 w1 (hsets hw (by exact .tail _ (.tail _ (.head _))) (by exact .tail _ (.tail _ (.tail _ (.tail _ (.tail _ (.tail _ (.head _))))))) (by exact .tail _ (.tail _ (.tail _ (.tail _ (.tail _ (.head _)))))) (by exact .tail _ (.tail _ (.tail _ (.tail _ (.head _))))) (by exact .tail _ (.tail _ (.tail _ (.head _))))) (stb_own (e := 3) hw (by exact .head _)) exS_cov; rw [exS_prov.1, exS_prov.2] at this; exact this))) ?_
  refine sr rfl rfl rfl ((q_move rfl rfl)) (sr rfl rfl rfl ((q_extract rfl rfl rfl)) (sr rfl rfl rfl ((q_extract rfl rfl rfl)) (sr rfl rfl rfl ((q_assign rfl rfl)) (sr rfl rfl rfl ((q_assign rfl rfl)) (sw_nil (post_then (cw_seq (cw_seq (cw_region (sr rfl rfl rfl ((q_move rfl rfl)) (sr rfl rfl rfl ((q_neq rfl rfl rfl)) (sr rfl rfl rfl ((q_move rfl rfl)) (sr rfl rfl rfl ((q_move rfl rfl)) (sr rfl rfl rfl ((q_neq rfl rfl rfl)) (sr rfl rfl rfl ((q_or2 rfl rfl rfl)) (sr rfl rfl rfl ((q_move rfl rfl)) (sr rfl rfl rfl ((q_move rfl rfl)) (sr rfl rfl rfl ((q_neq rfl rfl rfl)) (sr rfl rfl rfl ((q_or2 rfl rfl rfl)) (sr rfl rfl rfl ((q_move rfl rfl)) (sr rfl rfl rfl ((q_move rfl rfl)) (sr rfl rfl rfl ((q_neq rfl rfl rfl)) (sr rfl rfl rfl ((q_or2 rfl rfl rfl)) (sr rfl rfl rfl ((q_move rfl rfl)) (sr rfl rfl rfl ((q_move rfl rfl)) (sr rfl rfl rfl ((q_neq rfl rfl rfl)) (sr rfl rfl rfl ((q_or2 rfl rfl rfl)) (sr rfl rfl rfl ((q_move rfl rfl)) (sr rfl rfl rfl ((q_move rfl rfl)) (sr rfl rfl rfl ((q_not rfl rfl)) (sr rfl rfl rfl ((q_or2 rfl rfl rfl)) (sr rfl rfl rfl ((q_move rfl rfl)) (sr rfl rfl rfl ((q_move rfl rfl)) ?_)))))))))))))))))))))))))))))))))
  refine sr rfl rfl rfl ((q_len rfl (.cons rfl inferInstance (.nil)) (by exact fun w hw => rd_own hw (by exact .tail _ (.tail _ (.tail _ (.tail _ (.tail _ (.tail _ (.tail _ (.tail _ (.head _)))))))))))) ?_
  refine sr rfl rfl rfl ((q_neq rfl rfl rfl)) (sr rfl rfl rfl ((q_or2 rfl rfl rfl)) (sw_nil (post_then ?_)))
  refine cw_cond rfl (fun h => ?_) (fun h => ?_)
  · skip
    simp at h
  · skip
    clear h
    have hn2 : (nth [q1, (⟨u2, 20, l2⟩ : Sq)] 1).cost = 20 := rfl
    refine cw_skip (post_then (cw_seq (cw_region (sr rfl rfl rfl ((q_fieldAddr rfl rfl)) ?_))))
    refine sr rfl rfl rfl ((q_loadC rfl rfl (by exact .tail _ (.tail _ (.tail _ (.tail _ (.tail _ (.tail _ (.tail _ (.tail _ (.tail _ (.head _)))))))))) rfl)) ?_
    refine sw_x rfl rfl rfl (e_buildL (α := Int) (l := [0, 1]) rfl (.cons rfl inferInstance (.cons rfl inferInstance (.nil))) rfl rfl rfl rfl) (fun s104 => ?_)
    refine sw_step rfl rfl rfl (q_call (v := .bool true) (CanCall.mk Tryz.call23) rfl (.cons rfl inferInstance (.cons rfl inferInstance (.nil))) (fun _ w1 hw => callq hw (same_true _ _ [0, 1] [0, 1] rfl w1 (stb_own (e := 3) hw (by exact .tail _ (.tail _ (.tail _ (.tail _ (.tail _ (.tail _ (.tail _ (.tail _ (.tail _ (.tail _ (.tail _ (.tail _ (.tail _ (.head _))))))))))))))) (stb_own (e := 3) hw (by exact .head _))))) ?_
    refine sr rfl rfl rfl ((q_move rfl rfl)) (sr rfl rfl rfl ((q_fieldAddr rfl rfl)) ?_)
    refine sr rfl rfl rfl ((q_loadC rfl rfl (by exact .tail _ (.tail _ (.tail _ (.tail _ (.tail _ (.tail _ (.tail _ (.tail _ (.tail _ (.tail _ (.head _))))))))))) rfl)) ?_
    refine sr rfl rfl rfl ((q_eql rfl rfl rfl)) (sr rfl rfl rfl ((q_and2 rfl rfl rfl)) (sr rfl rfl rfl ((q_move rfl rfl)) (sr rfl rfl rfl ((q_move rfl rfl)) ?_)))
    refine sw_xc rfl (by first | (simp [AllT]; done) | simp [AllT, *]) rfl rfl (e_buildLc (α := Int) (l := [0, 0, 20]) rfl (.cons rfl inferInstance (.cons rfl inferInstance (.cons rfl inferInstance (.nil)))) rfl rfl rfl rfl) (fun s113 => ?_)
    refine sw_xc rfl (by first | (simp [AllT]; done) | simp [AllT, *]) rfl rfl (e_buildLc (α := Int) (l := [0, 0, 0]) rfl (.cons rfl inferInstance (.cons rfl inferInstance (.cons rfl inferInstance (.nil)))) rfl rfl rfl rfl) (fun s114 => ?_)
    refine sw_xc rfl (by first | (simp [AllT]; done) | simp [AllT, *]) rfl rfl (e_buildLc (α := SlV) (l := [s113, s114]) rfl (.cons rfl inferInstance (.cons rfl inferInstance (.nil))) rfl rfl rfl rfl) (fun s115 => ?_)
    refine sw_step rfl rfl rfl (q_call (v := .bool true) (CanCall.mk Tryz.call24) rfl (.cons rfl inferInstance (.cons rfl inferInstance (.nil))) (fun _ w1 hw => callq hw (sameL_true _ _ (rowsTo sc 3 2 2) [s113, s114] [[0, 0, 20], [0, 0, 0]] [[0, 0, 20], [0, 0, 0]] rfl w1 (ex_rows (stb_own (e := 28) hw (by exact .tail _ (.tail _ (.tail _ (.tail _ (.tail _ (.tail _ (.tail _ (.tail _ (.tail _ (.tail _ (.tail _ (.tail _ (.tail _ (.tail _ (.head _)))))))))))))))) (stb_own (e := 3) hw (by exact .tail _ (.tail _ (.tail _ (.tail _ (.tail _ (.tail _ (.tail _ (.tail _ (.tail _ (.tail _ (.tail _ (.tail _ (.tail _ (.tail _ (.tail _ (.head _)))))))))))))))))) (mt_own hw (e := 28) (by exact .head _) rfl (fun i hi => by match i, hi with | 0, _ => exact ⟨3, (by exact .tail _ (.tail _ (.head _)))⟩ | 1, _ => exact ⟨3, (by exact .tail _ (.head _))⟩))))) ?_
    refine sr rfl rfl rfl ((q_and2 rfl rfl rfl)) (sr rfl rfl rfl ((q_move rfl rfl)) (sr rfl rfl rfl ((q_move rfl rfl)) ?_))
    refine sr rfl rfl rfl ((q_indexN rfl rfl rfl (by exact fun w hw => rd_own hw (by exact .tail _ (.tail _ (.tail _ (.tail _ (.tail _ (.tail _ (.tail _ (.tail _ (.tail _ (.tail _ (.tail _ (.tail _ (.head _)))))))))))))) (by intro hc; (simp only [List.length_set, List.length_append, List.length_cons, List.length_nil, List.length_replicate, List.length_take, List.length_drop, List.length_map]; omega)))) ?_
    refine sr rfl rfl rfl ((q_fieldEl rfl rfl (by exact fun w hw => rd_own hw (by exact .tail _ (.tail _ (.tail _ (.tail _ (.tail _ (.tail _ (.tail _ (.tail _ (.tail _ (.tail _ (.tail _ (.tail _ (.head _)))))))))))))) (by intro hc; (simp only [List.length_set, List.length_append, List.length_cons, List.length_nil, List.length_replicate, List.length_take, List.length_drop, List.length_map]; omega)))) ?_
    refine sr rfl rfl rfl ((q_loadF rfl rfl rfl (by exact fun w hw => rd_own hw (by exact .tail _ (.tail _ (.tail _ (.tail _ (.tail _ (.tail _ (.tail _ (.tail _ (.tail _ (.tail _ (.tail _ (.tail _ (.head _)))))))))))))) (by intro hc; (simp only [List.length_set, List.length_append, List.length_cons, List.length_nil, List.length_replicate, List.length_take, List.length_drop, List.length_map]; omega)) rfl)) ?_
    refine sr rfl rfl rfl ((q_eql rfl rfl rfl)) (sr rfl rfl rfl ((q_and2 rfl rfl rfl)) (sr rfl rfl rfl ((q_move rfl rfl)) (sr rfl rfl rfl ((q_move rfl rfl)) ?_)))
    refine sw_xc rfl (by first | (simp [AllT]; done) | simp [AllT, *]) rfl rfl (e_buildLc (α := Int) (l := [2, 1]) rfl (.cons rfl inferInstance (.cons rfl inferInstance (.nil))) rfl rfl rfl rfl) (fun s127 => ?_)
    refine sw_step rfl rfl rfl (q_call (v := .bool true) (CanCall.mk Tryz.call23) rfl (.cons rfl inferInstance (.cons rfl inferInstance (.nil))) (fun _ w1 hw => callq hw (same_true _ _ [2, 1] [2, 1] rfl w1 (stb_own (e := 3) hw (by exact .tail _ (.tail _ (.tail _ (.tail _ (.tail _ (.tail _ (.tail _ (.tail _ (.tail _ (.tail _ (.tail _ (.tail _ (.head _)))))))))))))) (stb_own (e := 3) hw (by exact .head _))))) ?_
    refine sr rfl rfl rfl ((q_and2 rfl rfl rfl)) (sr rfl rfl rfl ((q_move rfl rfl)) (sr rfl rfl rfl ((q_move rfl rfl)) (sr rfl rfl rfl ((q_eql rfl rfl rfl)) (sr rfl rfl rfl ((q_and2 rfl rfl rfl)) (sr rfl rfl rfl ((q_move rfl rfl)) (sr rfl rfl rfl ((q_move rfl rfl)) ?_))))))
    refine sw_xc rfl (by first | (simp [AllT]; done) | simp [AllT, *]) rfl rfl (e_buildLc (α := Int) (l := [0, 1]) rfl (.cons rfl inferInstance (.cons rfl inferInstance (.nil))) rfl rfl rfl rfl) (fun s136 => ?_)
    refine sw_step rfl rfl rfl (q_call (v := .bool true) (CanCall.mk Tryz.call23) rfl (.cons rfl inferInstance (.cons rfl inferInstance (.nil))) (fun _ w1 hw => callq hw (same_true _ _ [0, 1] [0, 1] rfl w1 (stb_own (e := 3) hw (by exact .tail _ (.tail _ (.tail _ (.tail _ (.tail _ (.tail _ (.tail _ (.head _))))))))) (stb_own (e := 3) hw (by exact .head _))))) ?_
    refine sr rfl rfl rfl ((q_and2 rfl rfl rfl)) (sr rfl rfl rfl ((q_move rfl rfl)) (sr rfl rfl rfl ((q_move rfl rfl)) (sr rfl rfl rfl ((q_eql rfl rfl rfl)) (sr rfl rfl rfl ((q_and2 rfl rfl rfl)) (sr rfl rfl rfl ((q_move rfl rfl)) (sr rfl rfl rfl ((q_move rfl rfl)) (sr rfl rfl rfl ((q_eql rfl rfl rfl)) (sr rfl rfl rfl ((q_and2 rfl rfl rfl)) (sr rfl rfl rfl ((q_assign rfl rfl)) (sw_nil (post_then (cw_ret (post_ret1 rfl (resOk_tmp rfl) ?_)))))))))))))
    exact fun w' hw => ⟨rfl, (fun w h => Cl.sel (by exact .nil _) w h) _ hw⟩
end Go.Proofs.YtomjbfeafodfbaaGreat

set_option autoImplicit false
set_option maxRecDepth 100000
namespace Go.Proofs.YtomjbfeafodfbaaGreat
open Go.Sx
open Enc (enc val)
structure RG where
  k : Nat
  so : SlV
structure RX where
  j : Nat
  pr : List Int
theorem msOf_ok {n : Nat} {ls : List (List Int)} (hs : ∀ s ∈ ls, setB n s = true) : MsOk n (msOf ls) := fun m hm => by
  obtain ⟨s, h1, rfl⟩ := List.mem_map.1 hm
  exact (mask_bits (h1 |> hs s)).1
theorem msOf_nth {ls : List (List Int)} {i : Nat} (h : i < ls.length) : nth (msOf ls) i = mask (nth ls i) := by
  rw [nth_get (by simpa [msOf] using h), nth_get h]; simp [msOf]
structure GEnd (n : Nat) (ms : List Nat) (k : Nat) : Prop where
  ok : GOk n ms k
  full : fr (giter n ms k).g (fullN n) = 0
def priceL (sh : List Int) : List Int := sh.map fun k => 27720 / k
theorem priceL_nth {sh : List Int} {j : Nat} (h : j < sh.length) : nth (priceL sh) j = 27720 / nth sh j := by
  rw [nth_get (by simpa [priceL] using h), nth_get h]; simp [priceL]
theorem refGreedy_no (n : Nat) (hn : n ≤ 30) (sv : SlV) (vs : List SlV) (ls : List (List Int)) (h8 : ls.length ≤ 8) (hs : ∀ s ∈ ls, setB n s = true) (w : World) (hm : Stb w [] (fun w' => Mt w' sv.v vs ls)) (hP : possN n (msOf ls) = false) :
    Calls Tryz.prog 37 #[.int .i64 n, sv.v] w fun e w' => e = .returned (.tuple #[.slice none 0 0, .slice none 0 0, .bool false]) ∧ Cl w [] [] w' := by
  have h1 := stb_map hm fun _ h => h.l
  have n1 := hm.here.n
  have hmo := msOf_ok hs
  have hml : (msOf ls).length = ls.length := by simp [msOf]
  refine calls_cw (vs := [_, _]) Tryz.func37 rfl Tryz.ntmps37 rfl (Cl.start0 w) (cw_seq (cw_region (sr rfl rfl rfl ((q_assign rfl rfl)) (sr rfl rfl rfl ((q_assign rfl rfl)) (sr rfl rfl rfl ((q_assign rfl rfl)) (sw_nil (post_then (cw_seq (cw_region (sr rfl rfl rfl ((q_move rfl rfl)) ?_))))))))))
  refine sw_x rfl rfl rfl (e_make (α := Bool) (zero := false) rfl rfl rfl rfl rfl (by omega) (by omega) (by decide)) (fun s18 => ?_)
  refine sr rfl rfl rfl ((q_assign rfl rfl)) (sw_nil (post_then (cw_seq (cw_region (sr rfl rfl rfl ((q_move rfl rfl)) ?_)))))
  refine sw_x rfl rfl rfl (e_make (α := Int) (zero := 0) rfl rfl rfl rfl rfl (by omega) (by omega) (by decide)) (fun s20 => ?_)
  rw [Int.toNat_natCast, cvL_zero]
  refine sr rfl rfl rfl ((q_assign rfl rfl)) (sw_nil (post_then (cw_seq (cw_region (sr rfl rfl rfl ((q_assign rfl rfl)) (sw_nil (post_then (cw_seq (cw_region (sr rfl rfl rfl ((q_move rfl rfl)) (sr rfl rfl rfl ((q_assign rfl rfl)) (sw_nil (post_then (cw_seq (cw_block (cw_c (C' := Cl w [] [ownL 3 (SlV.v ⟨none, 0, 0⟩) ([] : List Int), ownL 4 s18.v (cvL n 0), ownL 3 s20.v (List.replicate n (0 : Int))]) (fun w' hw => (hw.perm (.swap _ _ _)).addNil (α := Int) 3) ?_))))))))))))))))
  refine cw_loop (S := RG) (fun y => [(1, [], sv.v), (7, [], s18.v), (8, [], s20.v), (9, [], y.so.v), (10, [], .int .i64 (fr (giter n (msOf ls) y.k).g (fullN n)))]) (fun y => Cl w [] [ownL 3 y.so.v (giter n (msOf ls) y.k).out, ownL 4 s18.v (cvL n (giter n (msOf ls) y.k).g), ownL 3 s20.v (priceL (giter n (msOf ls) y.k).sh)]) (fun y => GOk n (msOf ls) y.k) (fun y => fr (giter n (msOf ls) y.k).g (fullN n)) ⟨0, ⟨none, 0, 0⟩⟩ (fun j hj => by simp only at hj; omega) ?_ ?_ ?_
  · have e0 : fr (giter n (msOf ls) 0).g (fullN n) = n := fr_full (by omega)
    simp only [e0]
    exact (by exact .cons rfl (.cons rfl (.cons rfl (.cons rfl (.cons rfl .nil)))))
  · intro w' hw
    have e0 : priceL (giter n (msOf ls) 0).sh = List.replicate n 0 := by simp [priceL, giter]
    rw [e0]
    exact hw
  rintro ⟨k, so⟩ hG
  dsimp only at hG ⊢
  have hgf := fr_le (giter n (msOf ls) k).g (fullN n)
  have hsh := giter_sh n (msOf ls) k
  have hol := giter_out n (msOf ls) k
  have hkn := giter_bd (by omega) hmo hG
  generalize hst : giter n (msOf ls) k = st at *
  obtain ⟨g, out, sh⟩ := st
  dsimp only at hgf hsh hol ⊢
  have hcl := cvL_len n g
  have hprl : (priceL sh).length = n := by simpa [priceL] using hsh
  refine cw_seq (cw_seq (cw_region (sr rfl rfl rfl ((q_move rfl rfl)) (sr rfl rfl rfl ((q_gtr rfl rfl rfl)) (sw_nil (post_then ?_))))))
  refine cw_cond rfl (fun h => ?_) (fun h => ?_)
  · skip
    have h0 : fr g (fullN n) ≠ 0 := by simp only [decide_eq_true_eq] at h; omega
    refine cw_skip (post_then (cw_block (cw_seq (cw_region (sr rfl rfl rfl ((q_assign rfl rfl)) (sr rfl rfl rfl ((q_assign rfl rfl)) (sw_nil (post_then (cw_seq (cw_seq (cw_region (sr rfl rfl rfl ((q_assign rfl rfl)) (sw_nil (post_then (cw_block ?_)))))))))))))))
    refine cw_loop (S := Nat) (fun j => [(1, [], sv.v), (7, [], s18.v), (8, [], s20.v), (9, [], so.v), (10, [], .int .i64 (fr g (fullN n))), (11, [], .int .i64 (bestTo (msOf ls) g j).1), (12, [], .int .i64 (bestTo (msOf ls) g j).2), (13, [], .int .i64 j)]) (fun _ => Cl w [] [ownL 3 so.v out, ownL 4 s18.v (cvL n g), ownL 3 s20.v (priceL sh)]) (fun j => j ≤ ls.length) (fun j => ls.length - j) 0 (Nat.zero_le _) (by exact .cons rfl (.cons rfl (.cons rfl (.cons rfl (.cons rfl (.cons rfl (.cons rfl (.cons rfl .nil)))))))) (fun _ h => h) ?_
    intro j hj
    refine cw_seq (cw_seq (cw_region (sr rfl rfl rfl ((q_move rfl rfl)) (sr rfl rfl rfl ((q_move rfl rfl)) ?_))))
    refine sr rfl rfl rfl ((q_len rfl (.cons rfl inferInstance (.nil)) (by exact fun w hw => Stb.cl (by assumption) hw))) ?_
    refine sr rfl rfl rfl ((q_lss rfl rfl rfl)) (sw_nil (post_then ?_))
    refine cw_cond rfl (fun h2 => ?_) (fun h2 => ?_)
    · skip
      have hj' : j < ls.length := by simp only [decide_eq_true_eq] at h2; omega
      have hrow := stb_map hm fun _ h => h.r j hj'
      have hsb := hs _ (nth_mem hj')
      have ems := msOf_nth hj'
      refine cw_skip (post_then (cw_seq (cw_block (cw_seq (cw_region (sr rfl rfl rfl ((q_move rfl rfl)) (sr rfl rfl rfl ((q_move rfl rfl)) (sr rfl rfl rfl ((q_move rfl rfl)) ?_))))))))
      refine sr rfl rfl rfl ((q_indexN rfl rfl rfl (by exact fun w hw => Stb.cl (by assumption) hw) (by intro hc; omega))) ?_
      refine sr rfl rfl rfl ((q_loadEl rfl rfl rfl (by exact fun w hw => Stb.cl (by assumption) hw) (by intro hc; omega))) ?_
      refine sw_step rfl rfl rfl (q_call (CanCall.mk Tryz.call80) rfl (.cons rfl inferInstance (.cons rfl inferInstance (.nil))) (fun _ w hw => callq hw (fresh_spec _ _ n g hn (nth ls j) hsb w (by exact stb_own hw (by exact .tail _ (.head _))) (stb_arg hw hrow)))) ?_
      refine sr rfl rfl rfl ((q_assign rfl rfl)) (sw_nil (post_then (cw_seq (cw_region (sr rfl rfl rfl ((q_move rfl rfl)) (sr rfl rfl rfl ((q_move rfl rfl)) (sr rfl rfl rfl ((q_gtr rfl rfl rfl)) (sw_nil (post_then ?_)))))))))
      refine cw_cut (S := Unit) (fun _ => [(1, [], sv.v), (7, [], s18.v), (8, [], s20.v), (9, [], so.v), (10, [], .int .i64 (fr g (fullN n))), (11, [], .int .i64 (bestTo (msOf ls) g (j + 1)).1), (12, [], .int .i64 (bestTo (msOf ls) g (j + 1)).2), (13, [], .int .i64 j)]) (fun _ => Cl w [] [ownL 3 so.v out, ownL 4 s18.v (cvL n g), ownL 3 s20.v (priceL sh)]) (fun _ => True) ?_ ?_
      · refine cw_cond rfl (fun h3 => ?_) (fun h3 => ?_)
        · skip
          have h4 : bestTo (msOf ls) g (j + 1) = ((j : Int), fr g (mask (nth ls j))) := by
            rw [bestTo, ems, if_pos (by simp only [decide_eq_true_eq] at h3; omega)]
          refine cw_region (sr rfl rfl rfl ((q_move rfl rfl)) (sr rfl rfl rfl ((q_move rfl rfl)) (sr rfl rfl rfl ((q_assign rfl rfl)) (sr rfl rfl rfl ((q_assign rfl rfl)) (sw_nil ?_)))))
          refine post_meet () ?_ (fun _ h => h) trivial
          rw [h4]
          exact (by exact .cons rfl (.cons rfl (.cons rfl (.cons rfl (.cons rfl (.cons rfl (.cons rfl (.cons rfl .nil))))))))
        · skip
          have h4 : bestTo (msOf ls) g (j + 1) = bestTo (msOf ls) g j := by
            rw [bestTo, ems, if_neg (by simp only [decide_eq_false_iff_not] at h3; omega)]
          refine cw_skip ?_
          refine post_meet () ?_ (fun _ h => h) trivial
          rw [h4]
          exact (by exact .cons rfl (.cons rfl (.cons rfl (.cons rfl (.cons rfl (.cons rfl (.cons rfl (.cons rfl .nil))))))))
      · intro _ _
        refine post_blk (post_then (cw_region (sr rfl rfl rfl ((q_move rfl rfl)) ?_)))
        refine sr rfl rfl rfl ((q_add rfl rfl rfl (by intro hc; omega))) ?_
        refine sr rfl rfl rfl ((q_assign rfl rfl)) (sw_nil ?_)
        exact post_next (j + 1) (by exact .cons rfl (.cons rfl (.cons rfl (.cons rfl (.cons rfl (.cons rfl (.cons rfl (.cons rfl .nil)))))))) (fun _ h => h) (by omega) (by omega)
    · skip
      have hj' : j = ls.length := by simp only [decide_eq_false_iff_not] at h2; omega
      subst hj'
      have hbest := bestTo_spec (msOf ls) g (msOf ls).length
      rw [hml] at hbest
      refine cw_exit (post_then_x (post_then_x (post_blk_eq (post_then (cw_seq (cw_seq (cw_region (sr rfl rfl rfl ((q_move rfl rfl)) (sr rfl rfl rfl ((q_lss rfl rfl rfl)) (sw_nil (post_then ?_)))))))))))
      refine cw_cond rfl (fun h3 => ?_) (fun h3 => ?_)
      · skip
        simp only [decide_eq_true_eq] at h3
        have hno : bestTo (msOf ls) g ls.length = (-1, 0) ∧ ∀ j, j < ls.length → fr g (nth (msOf ls) j) = 0 := by
          rcases hbest with hb | ⟨i, _, hb, _⟩
          · exact hb
          · rw [hb] at h3; simp only at h3; omega
        have hPf : possN n (msOf ls) = false := by
          cases hp : possN n (msOf ls)
          · rfl
          · obtain ⟨i, i1, i2, i3⟩ := best_pos (by omega) hp h0
            rw [best, hml, hno.1] at i2
            simp only [Prod.mk.injEq] at i2
            omega
        refine cw_seq (cw_region (sr rfl rfl rfl ((q_assign rfl rfl)) (sr rfl rfl rfl ((q_assign rfl rfl)) (sr rfl rfl rfl ((q_assign rfl rfl)) (sw_nil (post_then (cw_ret (post_then_r (post_blk_r (post_then_r (post_blk_r (post_then_r (post_ret3 rfl (resOk_tmp rfl) (resOk_tmp rfl) (resOk_tmp rfl) ?_)))))))))))))
        exact fun w' hw => ⟨rfl, (fun w h => Cl.sel (by exact .nil _) w h) _ hw⟩
      · skip
        simp only [decide_eq_false_iff_not] at h3
        obtain ⟨i, hi, hb, hpos⟩ : ∃ i, i < ls.length ∧ bestTo (msOf ls) g ls.length = ((i : Int), fr g (nth (msOf ls) i)) ∧ 0 < fr g (nth (msOf ls) i) := by
          rcases hbest with hb | ⟨i, b1, b2, b3, _⟩
          · rw [hb.1] at h3; simp at h3
          · exact ⟨i, b1, b2, b3⟩
        rw [hb]
        dsimp only
        have ems := msOf_nth hi
        have hfa := fr_after (g := g) (n := n) (hmo _ (nth_mem (i := i) (by omega)))
        have hrow := stb_map hm fun _ h => h.r i hi
        have hrl := rd_len hrow.here
        have hsb := mask_bits (hs _ (nth_mem hi))
        rw [ems] at hpos hfa ⊢
        have hf1 := fr_le g (mask (nth ls i))
        refine cw_skip (post_then (cw_seq (cw_region (sr rfl rfl rfl ((q_move rfl rfl)) (sr rfl rfl rfl ((q_move rfl rfl)) ?_)))))
        refine sw_x rfl rfl rfl (e_build1 (α := Int) rfl rfl rfl rfl) (fun s45 => ?_)
        refine sw_x rfl rfl rfl (e_append (i := 1) rfl (.cons rfl inferInstance (.cons rfl inferInstance (.nil))) rfl rfl (by exact fun w hw => rd_own hw (by exact .head _)) (by simp only [List.length_set, List.length_append, List.length_cons, List.length_nil, List.length_replicate, List.length_take, List.length_drop, List.length_map]; omega) rfl) (fun s46 => ?_)
        refine sr rfl rfl rfl ((q_assign rfl rfl)) (sw_nil (post_then (cw_seq (cw_region (sr rfl rfl rfl ((q_move rfl rfl)) (sr rfl rfl rfl ((q_move rfl rfl)) ?_))))))
        refine sr rfl rfl rfl ((q_sub rfl rfl rfl (by intro hc; omega))) ?_
        refine sr rfl rfl rfl ((q_assign rfl rfl)) (sw_nil (post_then (cw_seq (cw_region (sr rfl rfl rfl ((q_assign rfl rfl)) (sw_nil (post_then (cw_block ?_))))))))
        refine cw_loop (S := RX) (fun y => [(1, [], sv.v), (7, [], s18.v), (8, [], s20.v), (9, [], s46.v), (10, [], .int .i64 (fr (g ||| mask (nth ls i)) (fullN n))), (11, [], .int .i64 i), (12, [], .int .i64 (fr g (mask (nth ls i)))), (15, [], .int .i64 y.j)]) (fun y => Cl w [] [ownL 3 s46.v (out ++ [(i : Int)]), ownL 4 s18.v (cvL n (g ||| maskTo (nth ls i) y.j)), ownL 3 s20.v y.pr]) (fun y => y.j ≤ (nth ls i).length ∧ y.pr.length = n ∧ ∀ x, x < n → nth y.pr x = if (maskTo (nth ls i) y.j).testBit x = true ∧ g.testBit x = false then 27720 / (fr g (mask (nth ls i)) : Int) else nth (priceL sh) x) (fun y => (nth ls i).length - y.j) ⟨0, priceL sh⟩ ⟨Nat.zero_le _, hprl, fun x hx => by simp [maskTo]⟩ ?_ ?_ ?_
        · exact Le.cons rfl (Le.cons rfl (Le.cons rfl (Le.cons rfl (Le.cons' rfl (by rw [← hfa]; congr 1; omega) (Le.cons rfl (Le.cons rfl (Le.cons rfl Le.nil)))))))
        · intro w' hw
          have e0 : g ||| maskTo (nth ls i) 0 = g := by simp [maskTo]
          rw [e0]
          exact (fun w h => Cl.sel (by exact .take 1 rfl (.take 1 rfl (.take 1 rfl (.nil _)))) w h) _ hw
        rintro ⟨q, pr⟩ ⟨hq, hpl, hpv⟩
        dsimp only at hq hpl hpv ⊢
        refine cw_seq (cw_seq (cw_region (sr rfl rfl rfl ((q_move rfl rfl)) (sr rfl rfl rfl ((q_move rfl rfl)) (sr rfl rfl rfl ((q_move rfl rfl)) ?_)))))
        refine sr rfl rfl rfl ((q_indexN rfl rfl rfl (by exact fun w hw => Stb.cl (by assumption) hw) (by intro hc; omega))) ?_
        refine sr rfl rfl rfl ((q_loadEl rfl rfl rfl (by exact fun w hw => Stb.cl (by assumption) hw) (by intro hc; omega))) ?_
        refine sr rfl rfl rfl ((q_len rfl (.cons rfl inferInstance (.nil)) (by exact fun w hw => Stb.cl (by assumption) hw))) ?_
        refine sr rfl rfl rfl ((q_lss rfl rfl rfl)) (sw_nil (post_then ?_))
        refine cw_cond rfl (fun h4 => ?_) (fun h4 => ?_)
        · skip
          have hq' : q < (nth ls i).length := by simp only [decide_eq_true_eq] at h4; omega
          have hel := hsb.2 _ (nth_mem hq')
          have hcl2 := cvL_len n (g ||| maskTo (nth ls i) q)
          refine cw_skip (post_then (cw_seq (cw_block (cw_seq (cw_region (sr rfl rfl rfl ((q_move rfl rfl)) (sr rfl rfl rfl ((q_move rfl rfl)) ?_)))))))
          refine sr rfl rfl rfl ((q_indexN rfl rfl rfl (by exact fun w hw => Stb.cl (by assumption) hw) (by intro hc; omega))) ?_
          refine sr rfl rfl rfl ((q_loadEl rfl rfl rfl (by exact fun w hw => Stb.cl (by assumption) hw) (by intro hc; omega))) ?_
          refine sr rfl rfl rfl ((q_move rfl rfl)) ?_
          refine sr rfl rfl rfl ((q_indexN rfl rfl rfl (by exact fun w hw => Stb.cl (by assumption) hw) (by intro hc; omega))) ?_
          refine sr rfl rfl rfl ((q_loadEl rfl rfl rfl (by exact fun w hw => Stb.cl (by assumption) hw) (by intro hc; omega))) ?_
          refine sr rfl rfl rfl ((q_assign rfl rfl)) (sw_nil (post_then (cw_seq (cw_region (sr rfl rfl rfl ((q_move rfl rfl)) (sr rfl rfl rfl ((q_move rfl rfl)) ?_))))))
          refine sr rfl rfl rfl ((q_index rfl rfl rfl (by exact fun w hw => rd_own hw (by exact .tail _ (.head _))) (by intro hc; omega))) ?_
          refine sr rfl rfl rfl ((q_loadEl rfl rfl rfl (by exact fun w hw => rd_own hw (by exact .tail _ (.head _))) (by intro hc; omega))) ?_
          refine sr rfl rfl rfl ((q_not rfl rfl)) (sw_nil (post_then ?_))
          refine cw_cut (S := List Int) (fun _ => [(1, [], sv.v), (7, [], s18.v), (8, [], s20.v), (9, [], s46.v), (10, [], .int .i64 (fr (g ||| mask (nth ls i)) (fullN n))), (11, [], .int .i64 i), (12, [], .int .i64 (fr g (mask (nth ls i)))), (15, [], .int .i64 q)]) (fun pr => Cl w [] [ownL 3 s46.v (out ++ [(i : Int)]), ownL 4 s18.v (cvL n (g ||| maskTo (nth ls i) (q + 1))), ownL 3 s20.v pr]) (fun pr => pr.length = n ∧ ∀ x, x < n → nth pr x = if (maskTo (nth ls i) (q + 1)).testBit x = true ∧ g.testBit x = false then 27720 / (fr g (mask (nth ls i)) : Int) else nth (priceL sh) x) ?_ ?_
          · have hbit := cvL_nth (n := n) (i := (nth (nth ls i) q).toNat) (by omega) (g ||| maskTo (nth ls i) q)
            rw [hbit]
            have ea : g ||| maskTo (nth ls i) (q + 1) = g ||| maskTo (nth ls i) q ||| 2 ^ (nth (nth ls i) q).toNat := by rw [maskTo, Nat.or_assoc]
            refine cw_cond rfl (fun h5 => ?_) (fun h5 => ?_)
            · skip
              have h6 : (g ||| maskTo (nth ls i) q).testBit (nth (nth ls i) q).toNat = false := by rw [Bool.not_eq_true'] at h5; exact h5
              rw [Nat.testBit_or, Bool.or_eq_false_iff] at h6
              refine cw_seq (cw_region (sr rfl rfl rfl ((q_move rfl rfl)) (sr rfl rfl rfl ((q_move rfl rfl)) ?_)))
              refine sr rfl rfl rfl ((q_index rfl rfl rfl (by exact fun w hw => rd_own hw (by exact .tail _ (.head _))) (by intro hc; omega))) ?_
              refine sw_eff0 rfl rfl (e_storeEl1 (i := 1) rfl rfl rfl rfl rfl (by omega)) ?_
              refine sw_nil (post_then (cw_region (sr rfl rfl rfl ((q_move rfl rfl)) (sr rfl rfl rfl ((q_move rfl rfl)) (sr rfl rfl rfl ((q_move rfl rfl)) ?_)))))
              refine sr rfl rfl rfl ((q_quo rfl rfl rfl (by intro hc; omega))) ?_
              refine sr rfl rfl rfl ((q_index rfl rfl rfl (by exact fun w hw => rd_own hw (by exact .tail _ (.tail _ (.head _)))) (by intro hc; omega))) ?_
              refine sw_eff0 rfl rfl (e_storeEl1 (i := 2) rfl rfl rfl rfl rfl (by omega)) ?_
              refine sw_nil ?_
              refine post_meet (pr.set (nth (nth ls i) q).toNat (27720 / (fr g (mask (nth ls i)) : Int))) (by exact .cons rfl (.cons rfl (.cons rfl (.cons rfl (.cons rfl (.cons rfl (.cons rfl (.cons rfl .nil)))))))) (fun w3 hw3 => ?_) ⟨by simp [hpl], fun x hx => ?_⟩
              · rw [ea, ← cvL_set (by omega)]
                exact hw3
              · rw [nth_setP _ _ _ _ (by omega)]
                rw [maskTo, Nat.testBit_or, Nat.testBit_two_pow]
                by_cases e : x = (nth (nth ls i) q).toNat
                · rw [if_pos e, if_pos ⟨by rw [e]; simp, by rw [e]; exact h6.1⟩]
                · rw [if_neg e, hpv x hx]
                  have e2 : ¬ (nth (nth ls i) q).toNat = x := fun h => e h.symm
                  simp [e2]
            · skip
              have h6 : (g ||| maskTo (nth ls i) q).testBit (nth (nth ls i) q).toNat = true := by rw [Bool.not_eq_false'] at h5; exact h5
              refine cw_skip ?_
              refine post_meet pr (by exact .cons rfl (.cons rfl (.cons rfl (.cons rfl (.cons rfl (.cons rfl (.cons rfl (.cons rfl .nil)))))))) (fun w3 hw3 => ?_) ⟨hpl, fun x hx => ?_⟩
              · rw [ea, cvL_same h6]
                exact hw3
              · rw [hpv x hx, maskTo, Nat.testBit_or, Nat.testBit_two_pow]
                rw [Nat.testBit_or, Bool.or_eq_true] at h6
                by_cases e2 : (nth (nth ls i) q).toNat = x
                · subst e2
                  rcases h6 with h6 | h6 <;> simp [h6]
                · simp [e2]
          · rintro pr2 ⟨hpl2, hpv2⟩
            refine post_blk (post_then (cw_region (sr rfl rfl rfl ((q_move rfl rfl)) ?_)))
            refine sr rfl rfl rfl ((q_add rfl rfl rfl (by intro hc; omega))) ?_
            refine sr rfl rfl rfl ((q_assign rfl rfl)) (sw_nil ?_)
            exact post_next ⟨q + 1, pr2⟩ (by exact .cons rfl (.cons rfl (.cons rfl (.cons rfl (.cons rfl (.cons rfl (.cons rfl (.cons rfl .nil)))))))) (fun _ h => h) ⟨by simp only; omega, hpl2, hpv2⟩ (by simp only; omega)
        · skip
          have hq' : q = (nth ls i).length := by simp only [decide_eq_false_iff_not] at h4; omega
          subst hq'
          refine cw_exit (post_then_x (post_then_x (post_blk_eq (post_blk ?_))))
          have hst2 : giter n (msOf ls) (k + 1) = ⟨g ||| mask (nth ls i), out ++ [(i : Int)], shUp n g (mask (nth ls i)) (fr g (mask (nth ls i))) sh n⟩ := by
            rw [giter, hst]
            simp only [gstep, best, hml, hb, Int.toNat_natCast, ems]
          have hpe : pr = priceL (shUp n g (mask (nth ls i)) (fr g (mask (nth ls i))) sh n) := by
            have hl2 := shUp_len n g (mask (nth ls i)) (fr g (mask (nth ls i))) sh n
            apply List.ext_getElem
            · simp only [priceL, List.length_map]; omega
            · intro x x1 x2
              have h7 := hpv x (by omega)
              have h8 := priceL_nth (sh := shUp n g (mask (nth ls i)) (fr g (mask (nth ls i))) sh n) (j := x) (by omega)
              rw [nth_get x2] at h8
              rw [nth_get x1] at h7
              rw [h7, h8, shUp_nth n g (mask (nth ls i)) _ sh (by omega) n (Nat.le_refl _)]
              rw [priceL_nth (by omega)]
              have hx : x < n := by omega
              simp only [hx, true_and]
              have em : mask (nth ls i) = maskTo (nth ls i) (nth ls i).length := rfl
              rw [← em]
              split <;> rfl
          refine post_next ⟨k + 1, s46⟩ ?_ (fun w3 hw3 => ?_) ?_ ?_
          · simp only [hst2]
            exact (by exact .cons rfl (.cons rfl (.cons rfl (.cons rfl (.cons rfl .nil)))))
          · simp only [hst2]
            rw [← hpe]
            exact hw3
          · intro j hj
            by_cases e : j = k
            · subst e; rw [hst]; exact ⟨h0, i, by omega, by rw [best, hml]; exact hb, by rw [ems]; exact hpos⟩
            · exact hG j (by simp only at hj; omega)
          · simp only [hst2, hst]
            omega
  · skip
    have h0 : fr g (fullN n) = 0 := by simp only [decide_eq_false_iff_not] at h; omega
    have hend : GEnd n (msOf ls) k := ⟨hG, by rw [hst]; exact h0⟩
    have hPt : possN n (msOf ls) = true := poss_of_done (by omega) hend.ok hend.full
    rw [hP] at hPt
    cases hPt
theorem refGreedy_yes (n : Nat) (hn : n ≤ 30) (sv : SlV) (vs : List SlV) (ls : List (List Int)) (h8 : ls.length ≤ 8) (hs : ∀ s ∈ ls, setB n s = true) (w : World) (hm : Stb w [] (fun w' => Mt w' sv.v vs ls)) (hP : possN n (msOf ls) = true) :
    Calls Tryz.prog 37 #[.int .i64 n, sv.v] w fun e w' => ∃ y : (SlV × SlV) × Nat, e = .returned (.tuple #[y.1.1.v, y.1.2.v, .bool true]) ∧ GEnd n (msOf ls) y.2 ∧ Cl w [] [ownL 3 y.1.1.v (giter n (msOf ls) y.2).out, ownL 3 y.1.2.v (priceL (giter n (msOf ls) y.2).sh)] w' := by
  have h1 := stb_map hm fun _ h => h.l
  have n1 := hm.here.n
  have hmo := msOf_ok hs
  have hml : (msOf ls).length = ls.length := by simp [msOf]
  refine calls_cw (vs := [_, _]) Tryz.func37 rfl Tryz.ntmps37 rfl (Cl.start0 w) (cw_seq (cw_region (sr rfl rfl rfl ((q_assign rfl rfl)) (sr rfl rfl rfl ((q_assign rfl rfl)) (sr rfl rfl rfl ((q_assign rfl rfl)) (sw_nil (post_then (cw_seq (cw_region (sr rfl rfl rfl ((q_move rfl rfl)) ?_))))))))))
  refine sw_x rfl rfl rfl (e_make (α := Bool) (zero := false) rfl rfl rfl rfl rfl (by omega) (by omega) (by decide)) (fun s18 => ?_)
  refine sr rfl rfl rfl ((q_assign rfl rfl)) (sw_nil (post_then (cw_seq (cw_region (sr rfl rfl rfl ((q_move rfl rfl)) ?_)))))
  refine sw_x rfl rfl rfl (e_make (α := Int) (zero := 0) rfl rfl rfl rfl rfl (by omega) (by omega) (by decide)) (fun s20 => ?_)
  rw [Int.toNat_natCast, cvL_zero]
  refine sr rfl rfl rfl ((q_assign rfl rfl)) (sw_nil (post_then (cw_seq (cw_region (sr rfl rfl rfl ((q_assign rfl rfl)) (sw_nil (post_then (cw_seq (cw_region (sr rfl rfl rfl ((q_move rfl rfl)) (sr rfl rfl rfl ((q_assign rfl rfl)) (sw_nil (post_then (cw_seq (cw_block (cw_c (C' := Cl w [] [ownL 3 (SlV.v ⟨none, 0, 0⟩) ([] : List Int), ownL 4 s18.v (cvL n 0), ownL 3 s20.v (List.replicate n (0 : Int))]) (fun w' hw => (hw.perm (.swap _ _ _)).addNil (α := Int) 3) ?_))))))))))))))))
  refine cw_loop (S := RG) (fun y => [(1, [], sv.v), (7, [], s18.v), (8, [], s20.v), (9, [], y.so.v), (10, [], .int .i64 (fr (giter n (msOf ls) y.k).g (fullN n)))]) (fun y => Cl w [] [ownL 3 y.so.v (giter n (msOf ls) y.k).out, ownL 4 s18.v (cvL n (giter n (msOf ls) y.k).g), ownL 3 s20.v (priceL (giter n (msOf ls) y.k).sh)]) (fun y => GOk n (msOf ls) y.k) (fun y => fr (giter n (msOf ls) y.k).g (fullN n)) ⟨0, ⟨none, 0, 0⟩⟩ (fun j hj => by simp only at hj; omega) ?_ ?_ ?_
  · have e0 : fr (giter n (msOf ls) 0).g (fullN n) = n := fr_full (by omega)
    simp only [e0]
    exact (by exact .cons rfl (.cons rfl (.cons rfl (.cons rfl (.cons rfl .nil)))))
  · intro w' hw
    have e0 : priceL (giter n (msOf ls) 0).sh = List.replicate n 0 := by simp [priceL, giter]
    rw [e0]
    exact hw
  rintro ⟨k, so⟩ hG
  dsimp only at hG ⊢
  have hgf := fr_le (giter n (msOf ls) k).g (fullN n)
  have hsh := giter_sh n (msOf ls) k
  have hol := giter_out n (msOf ls) k
  have hkn := giter_bd (by omega) hmo hG
  generalize hst : giter n (msOf ls) k = st at *
  obtain ⟨g, out, sh⟩ := st
  dsimp only at hgf hsh hol ⊢
  have hcl := cvL_len n g
  have hprl : (priceL sh).length = n := by simpa [priceL] using hsh
  refine cw_seq (cw_seq (cw_region (sr rfl rfl rfl ((q_move rfl rfl)) (sr rfl rfl rfl ((q_gtr rfl rfl rfl)) (sw_nil (post_then ?_))))))
  refine cw_cond rfl (fun h => ?_) (fun h => ?_)
  · skip
    have h0 : fr g (fullN n) ≠ 0 := by simp only [decide_eq_true_eq] at h; omega
    refine cw_skip (post_then (cw_block (cw_seq (cw_region (sr rfl rfl rfl ((q_assign rfl rfl)) (sr rfl rfl rfl ((q_assign rfl rfl)) (sw_nil (post_then (cw_seq (cw_seq (cw_region (sr rfl rfl rfl ((q_assign rfl rfl)) (sw_nil (post_then (cw_block ?_)))))))))))))))
    refine cw_loop (S := Nat) (fun j => [(1, [], sv.v), (7, [], s18.v), (8, [], s20.v), (9, [], so.v), (10, [], .int .i64 (fr g (fullN n))), (11, [], .int .i64 (bestTo (msOf ls) g j).1), (12, [], .int .i64 (bestTo (msOf ls) g j).2), (13, [], .int .i64 j)]) (fun _ => Cl w [] [ownL 3 so.v out, ownL 4 s18.v (cvL n g), ownL 3 s20.v (priceL sh)]) (fun j => j ≤ ls.length) (fun j => ls.length - j) 0 (Nat.zero_le _) (by exact .cons rfl (.cons rfl (.cons rfl (.cons rfl (.cons rfl (.cons rfl (.cons rfl (.cons rfl .nil)))))))) (fun _ h => h) ?_
    intro j hj
    refine cw_seq (cw_seq (cw_region (sr rfl rfl rfl ((q_move rfl rfl)) (sr rfl rfl rfl ((q_move rfl rfl)) ?_))))
    refine sr rfl rfl rfl ((q_len rfl (.cons rfl inferInstance (.nil)) (by exact fun w hw => Stb.cl (by assumption) hw))) ?_
    refine sr rfl rfl rfl ((q_lss rfl rfl rfl)) (sw_nil (post_then ?_))
    refine cw_cond rfl (fun h2 => ?_) (fun h2 => ?_)
    · skip
      have hj' : j < ls.length := by simp only [decide_eq_true_eq] at h2; omega
      have hrow := stb_map hm fun _ h => h.r j hj'
      have hsb := hs _ (nth_mem hj')
      have ems := msOf_nth hj'
      refine cw_skip (post_then (cw_seq (cw_block (cw_seq (cw_region (sr rfl rfl rfl ((q_move rfl rfl)) (sr rfl rfl rfl ((q_move rfl rfl)) (sr rfl rfl rfl ((q_move rfl rfl)) ?_))))))))
      refine sr rfl rfl rfl ((q_indexN rfl rfl rfl (by exact fun w hw => Stb.cl (by assumption) hw) (by intro hc; omega))) ?_
      refine sr rfl rfl rfl ((q_loadEl rfl rfl rfl (by exact fun w hw => Stb.cl (by assumption) hw) (by intro hc; omega))) ?_
      refine sw_step rfl rfl rfl (q_call (CanCall.mk Tryz.call80) rfl (.cons rfl inferInstance (.cons rfl inferInstance (.nil))) (fun _ w hw => callq hw (fresh_spec _ _ n g hn (nth ls j) hsb w (by exact stb_own hw (by exact .tail _ (.head _))) (stb_arg hw hrow)))) ?_
      refine sr rfl rfl rfl ((q_assign rfl rfl)) (sw_nil (post_then (cw_seq (cw_region (sr rfl rfl rfl ((q_move rfl rfl)) (sr rfl rfl rfl ((q_move rfl rfl)) (sr rfl rfl rfl ((q_gtr rfl rfl rfl)) (sw_nil (post_then ?_)))))))))
      refine cw_cut (S := Unit) (fun _ => [(1, [], sv.v), (7, [], s18.v), (8, [], s20.v), (9, [], so.v), (10, [], .int .i64 (fr g (fullN n))), (11, [], .int .i64 (bestTo (msOf ls) g (j + 1)).1), (12, [], .int .i64 (bestTo (msOf ls) g (j + 1)).2), (13, [], .int .i64 j)]) (fun _ => Cl w [] [ownL 3 so.v out, ownL 4 s18.v (cvL n g), ownL 3 s20.v (priceL sh)]) (fun _ => True) ?_ ?_
      · refine cw_cond rfl (fun h3 => ?_) (fun h3 => ?_)
        · skip
          have h4 : bestTo (msOf ls) g (j + 1) = ((j : Int), fr g (mask (nth ls j))) := by
            rw [bestTo, ems, if_pos (by simp only [decide_eq_true_eq] at h3; omega)]
          refine cw_region (sr rfl rfl rfl ((q_move rfl rfl)) (sr rfl rfl rfl ((q_move rfl rfl)) (sr rfl rfl rfl ((q_assign rfl rfl)) (sr rfl rfl rfl ((q_assign rfl rfl)) (sw_nil ?_)))))
          refine post_meet () ?_ (fun _ h => h) trivial
          rw [h4]
          exact (by exact .cons rfl (.cons rfl (.cons rfl (.cons rfl (.cons rfl (.cons rfl (.cons rfl (.cons rfl .nil))))))))
        · skip
          have h4 : bestTo (msOf ls) g (j + 1) = bestTo (msOf ls) g j := by
            rw [bestTo, ems, if_neg (by simp only [decide_eq_false_iff_not] at h3; omega)]
          refine cw_skip ?_
          refine post_meet () ?_ (fun _ h => h) trivial
          rw [h4]
          exact (by exact .cons rfl (.cons rfl (.cons rfl (.cons rfl (.cons rfl (.cons rfl (.cons rfl (.cons rfl .nil))))))))
      · intro _ _
        refine post_blk (post_then (cw_region (sr rfl rfl rfl ((q_move rfl rfl)) ?_)))
        refine sr rfl rfl rfl ((q_add rfl rfl rfl (by intro hc; omega))) ?_
        refine sr rfl rfl rfl ((q_assign rfl rfl)) (sw_nil ?_)
        exact post_next (j + 1) (by exact .cons rfl (.cons rfl (.cons rfl (.cons rfl (.cons rfl (.cons rfl (.cons rfl (.cons rfl .nil)))))))) (fun _ h => h) (by omega) (by omega)
    · skip
      have hj' : j = ls.length := by simp only [decide_eq_false_iff_not] at h2; omega
      subst hj'
      have hbest := bestTo_spec (msOf ls) g (msOf ls).length
      rw [hml] at hbest
      refine cw_exit (post_then_x (post_then_x (post_blk_eq (post_then (cw_seq (cw_seq (cw_region (sr rfl rfl rfl ((q_move rfl rfl)) (sr rfl rfl rfl ((q_lss rfl rfl rfl)) (sw_nil (post_then ?_)))))))))))
      refine cw_cond rfl (fun h3 => ?_) (fun h3 => ?_)
      · skip
        simp only [decide_eq_true_eq] at h3
        have hno : bestTo (msOf ls) g ls.length = (-1, 0) ∧ ∀ j, j < ls.length → fr g (nth (msOf ls) j) = 0 := by
          rcases hbest with hb | ⟨i, _, hb, _⟩
          · exact hb
          · rw [hb] at h3; simp only at h3; omega
        have hPf : possN n (msOf ls) = false := by
          cases hp : possN n (msOf ls)
          · rfl
          · obtain ⟨i, i1, i2, i3⟩ := best_pos (by omega) hp h0
            rw [best, hml, hno.1] at i2
            simp only [Prod.mk.injEq] at i2
            omega
        rw [hP] at hPf
        cases hPf
      · skip
        simp only [decide_eq_false_iff_not] at h3
        obtain ⟨i, hi, hb, hpos⟩ : ∃ i, i < ls.length ∧ bestTo (msOf ls) g ls.length = ((i : Int), fr g (nth (msOf ls) i)) ∧ 0 < fr g (nth (msOf ls) i) := by
          rcases hbest with hb | ⟨i, b1, b2, b3, _⟩
          · rw [hb.1] at h3; simp at h3
          · exact ⟨i, b1, b2, b3⟩
        rw [hb]
        dsimp only
        have ems := msOf_nth hi
        have hfa := fr_after (g := g) (n := n) (hmo _ (nth_mem (i := i) (by omega)))
        have hrow := stb_map hm fun _ h => h.r i hi
        have hrl := rd_len hrow.here
        have hsb := mask_bits (hs _ (nth_mem hi))
        rw [ems] at hpos hfa ⊢
        have hf1 := fr_le g (mask (nth ls i))
        refine cw_skip (post_then (cw_seq (cw_region (sr rfl rfl rfl ((q_move rfl rfl)) (sr rfl rfl rfl ((q_move rfl rfl)) ?_)))))
        refine sw_x rfl rfl rfl (e_build1 (α := Int) rfl rfl rfl rfl) (fun s45 => ?_)
        refine sw_x rfl rfl rfl (e_append (i := 1) rfl (.cons rfl inferInstance (.cons rfl inferInstance (.nil))) rfl rfl (by exact fun w hw => rd_own hw (by exact .head _)) (by simp only [List.length_set, List.length_append, List.length_cons, List.length_nil, List.length_replicate, List.length_take, List.length_drop, List.length_map]; omega) rfl) (fun s46 => ?_)
        refine sr rfl rfl rfl ((q_assign rfl rfl)) (sw_nil (post_then (cw_seq (cw_region (sr rfl rfl rfl ((q_move rfl rfl)) (sr rfl rfl rfl ((q_move rfl rfl)) ?_))))))
        refine sr rfl rfl rfl ((q_sub rfl rfl rfl (by intro hc; omega))) ?_
        refine sr rfl rfl rfl ((q_assign rfl rfl)) (sw_nil (post_then (cw_seq (cw_region (sr rfl rfl rfl ((q_assign rfl rfl)) (sw_nil (post_then (cw_block ?_))))))))
        refine cw_loop (S := RX) (fun y => [(1, [], sv.v), (7, [], s18.v), (8, [], s20.v), (9, [], s46.v), (10, [], .int .i64 (fr (g ||| mask (nth ls i)) (fullN n))), (11, [], .int .i64 i), (12, [], .int .i64 (fr g (mask (nth ls i)))), (15, [], .int .i64 y.j)]) (fun y => Cl w [] [ownL 3 s46.v (out ++ [(i : Int)]), ownL 4 s18.v (cvL n (g ||| maskTo (nth ls i) y.j)), ownL 3 s20.v y.pr]) (fun y => y.j ≤ (nth ls i).length ∧ y.pr.length = n ∧ ∀ x, x < n → nth y.pr x = if (maskTo (nth ls i) y.j).testBit x = true ∧ g.testBit x = false then 27720 / (fr g (mask (nth ls i)) : Int) else nth (priceL sh) x) (fun y => (nth ls i).length - y.j) ⟨0, priceL sh⟩ ⟨Nat.zero_le _, hprl, fun x hx => by simp [maskTo]⟩ ?_ ?_ ?_
        · exact Le.cons rfl (Le.cons rfl (Le.cons rfl (Le.cons rfl (Le.cons' rfl (by rw [← hfa]; congr 1; omega) (Le.cons rfl (Le.cons rfl (Le.cons rfl Le.nil)))))))
        · intro w' hw
          have e0 : g ||| maskTo (nth ls i) 0 = g := by simp [maskTo]
          rw [e0]
          exact (fun w h => Cl.sel (by exact .take 1 rfl (.take 1 rfl (.take 1 rfl (.nil _)))) w h) _ hw
        rintro ⟨q, pr⟩ ⟨hq, hpl, hpv⟩
        dsimp only at hq hpl hpv ⊢
        refine cw_seq (cw_seq (cw_region (sr rfl rfl rfl ((q_move rfl rfl)) (sr rfl rfl rfl ((q_move rfl rfl)) (sr rfl rfl rfl ((q_move rfl rfl)) ?_)))))
        refine sr rfl rfl rfl ((q_indexN rfl rfl rfl (by exact fun w hw => Stb.cl (by assumption) hw) (by intro hc; omega))) ?_
        refine sr rfl rfl rfl ((q_loadEl rfl rfl rfl (by exact fun w hw => Stb.cl (by assumption) hw) (by intro hc; omega))) ?_
        refine sr rfl rfl rfl ((q_len rfl (.cons rfl inferInstance (.nil)) (by exact fun w hw => Stb.cl (by assumption) hw))) ?_
        refine sr rfl rfl rfl ((q_lss rfl rfl rfl)) (sw_nil (post_then ?_))
        refine cw_cond rfl (fun h4 => ?_) (fun h4 => ?_)
        · skip
          have hq' : q < (nth ls i).length := by simp only [decide_eq_true_eq] at h4; omega
          have hel := hsb.2 _ (nth_mem hq')
          have hcl2 := cvL_len n (g ||| maskTo (nth ls i) q)
          refine cw_skip (post_then (cw_seq (cw_block (cw_seq (cw_region (sr rfl rfl rfl ((q_move rfl rfl)) (sr rfl rfl rfl ((q_move rfl rfl)) ?_)))))))
          refine sr rfl rfl rfl ((q_indexN rfl rfl rfl (by exact fun w hw => Stb.cl (by assumption) hw) (by intro hc; omega))) ?_
          refine sr rfl rfl rfl ((q_loadEl rfl rfl rfl (by exact fun w hw => Stb.cl (by assumption) hw) (by intro hc; omega))) ?_
          refine sr rfl rfl rfl ((q_move rfl rfl)) ?_
          refine sr rfl rfl rfl ((q_indexN rfl rfl rfl (by exact fun w hw => Stb.cl (by assumption) hw) (by intro hc; omega))) ?_
          refine sr rfl rfl rfl ((q_loadEl rfl rfl rfl (by exact fun w hw => Stb.cl (by assumption) hw) (by intro hc; omega))) ?_
          refine sr rfl rfl rfl ((q_assign rfl rfl)) (sw_nil (post_then (cw_seq (cw_region (sr rfl rfl rfl ((q_move rfl rfl)) (sr rfl rfl rfl ((q_move rfl rfl)) ?_))))))
          refine sr rfl rfl rfl ((q_index rfl rfl rfl (by exact fun w hw => rd_own hw (by exact .tail _ (.head _))) (by intro hc; omega))) ?_
          refine sr rfl rfl rfl ((q_loadEl rfl rfl rfl (by exact fun w hw => rd_own hw (by exact .tail _ (.head _))) (by intro hc; omega))) ?_
          refine sr rfl rfl rfl ((q_not rfl rfl)) (sw_nil (post_then ?_))
          refine cw_cut (S := List Int) (fun _ => [(1, [], sv.v), (7, [], s18.v), (8, [], s20.v), (9, [], s46.v), (10, [], .int .i64 (fr (g ||| mask (nth ls i)) (fullN n))), (11, [], .int .i64 i), (12, [], .int .i64 (fr g (mask (nth ls i)))), (15, [], .int .i64 q)]) (fun pr => Cl w [] [ownL 3 s46.v (out ++ [(i : Int)]), ownL 4 s18.v (cvL n (g ||| maskTo (nth ls i) (q + 1))), ownL 3 s20.v pr]) (fun pr => pr.length = n ∧ ∀ x, x < n → nth pr x = if (maskTo (nth ls i) (q + 1)).testBit x = true ∧ g.testBit x = false then 27720 / (fr g (mask (nth ls i)) : Int) else nth (priceL sh) x) ?_ ?_
          · have hbit := cvL_nth (n := n) (i := (nth (nth ls i) q).toNat) (by omega) (g ||| maskTo (nth ls i) q)
            rw [hbit]
            have ea : g ||| maskTo (nth ls i) (q + 1) = g ||| maskTo (nth ls i) q ||| 2 ^ (nth (nth ls i) q).toNat := by rw [maskTo, Nat.or_assoc]
            refine cw_cond rfl (fun h5 => ?_) (fun h5 => ?_)
            · skip
              have h6 : (g ||| maskTo (nth ls i) q).testBit (nth (nth ls i) q).toNat = false := by rw [Bool.not_eq_true'] at h5; exact h5
              rw [Nat.testBit_or, Bool.or_eq_false_iff] at h6
              refine cw_seq (cw_region (sr rfl rfl rfl ((q_move rfl rfl)) (sr rfl rfl rfl ((q_move rfl rfl)) ?_)))
              refine sr rfl rfl rfl ((q_index rfl rfl rfl (by exact fun w hw => rd_own hw (by exact .tail _ (.head _))) (by intro hc; omega))) ?_
              refine sw_eff0 rfl rfl (e_storeEl1 (i := 1) rfl rfl rfl rfl rfl (by omega)) ?_
              refine sw_nil (post_then (cw_region (sr rfl rfl rfl ((q_move rfl rfl)) (sr rfl rfl rfl ((q_move rfl rfl)) (sr rfl rfl rfl ((q_move rfl rfl)) ?_)))))
              refine sr rfl rfl rfl ((q_quo rfl rfl rfl (by intro hc; omega))) ?_
              refine sr rfl rfl rfl ((q_index rfl rfl rfl (by exact fun w hw => rd_own hw (by exact .tail _ (.tail _ (.head _)))) (by intro hc; omega))) ?_
              refine sw_eff0 rfl rfl (e_storeEl1 (i := 2) rfl rfl rfl rfl rfl (by omega)) ?_
              refine sw_nil ?_
              refine post_meet (pr.set (nth (nth ls i) q).toNat (27720 / (fr g (mask (nth ls i)) : Int))) (by exact .cons rfl (.cons rfl (.cons rfl (.cons rfl (.cons rfl (.cons rfl (.cons rfl (.cons rfl .nil)))))))) (fun w3 hw3 => ?_) ⟨by simp [hpl], fun x hx => ?_⟩
              · rw [ea, ← cvL_set (by omega)]
                exact hw3
              · rw [nth_setP _ _ _ _ (by omega)]
                rw [maskTo, Nat.testBit_or, Nat.testBit_two_pow]
                by_cases e : x = (nth (nth ls i) q).toNat
                · rw [if_pos e, if_pos ⟨by rw [e]; simp, by rw [e]; exact h6.1⟩]
                · rw [if_neg e, hpv x hx]
                  have e2 : ¬ (nth (nth ls i) q).toNat = x := fun h => e h.symm
                  simp [e2]
            · skip
              have h6 : (g ||| maskTo (nth ls i) q).testBit (nth (nth ls i) q).toNat = true := by rw [Bool.not_eq_false'] at h5; exact h5
              refine cw_skip ?_
              refine post_meet pr (by exact .cons rfl (.cons rfl (.cons rfl (.cons rfl (.cons rfl (.cons rfl (.cons rfl (.cons rfl .nil)))))))) (fun w3 hw3 => ?_) ⟨hpl, fun x hx => ?_⟩
              · rw [ea, cvL_same h6]
                exact hw3
              · rw [hpv x hx, maskTo, Nat.testBit_or, Nat.testBit_two_pow]
                rw [Nat.testBit_or, Bool.or_eq_true] at h6
                by_cases e2 : (nth (nth ls i) q).toNat = x
                · subst e2
                  rcases h6 with h6 | h6 <;> simp [h6]
                · simp [e2]
          · rintro pr2 ⟨hpl2, hpv2⟩
            refine post_blk (post_then (cw_region (sr rfl rfl rfl ((q_move rfl rfl)) ?_)))
            refine sr rfl rfl rfl ((q_add rfl rfl rfl (by intro hc; omega))) ?_
            refine sr rfl rfl rfl ((q_assign rfl rfl)) (sw_nil ?_)
            exact post_next ⟨q + 1, pr2⟩ (by exact .cons rfl (.cons rfl (.cons rfl (.cons rfl (.cons rfl (.cons rfl (.cons rfl (.cons rfl .nil)))))))) (fun _ h => h) ⟨by simp only; omega, hpl2, hpv2⟩ (by simp only; omega)
        · skip
          have hq' : q = (nth ls i).length := by simp only [decide_eq_false_iff_not] at h4; omega
          subst hq'
          refine cw_exit (post_then_x (post_then_x (post_blk_eq (post_blk ?_))))
          have hst2 : giter n (msOf ls) (k + 1) = ⟨g ||| mask (nth ls i), out ++ [(i : Int)], shUp n g (mask (nth ls i)) (fr g (mask (nth ls i))) sh n⟩ := by
            rw [giter, hst]
            simp only [gstep, best, hml, hb, Int.toNat_natCast, ems]
          have hpe : pr = priceL (shUp n g (mask (nth ls i)) (fr g (mask (nth ls i))) sh n) := by
            have hl2 := shUp_len n g (mask (nth ls i)) (fr g (mask (nth ls i))) sh n
            apply List.ext_getElem
            · simp only [priceL, List.length_map]; omega
            · intro x x1 x2
              have h7 := hpv x (by omega)
              have h8 := priceL_nth (sh := shUp n g (mask (nth ls i)) (fr g (mask (nth ls i))) sh n) (j := x) (by omega)
              rw [nth_get x2] at h8
              rw [nth_get x1] at h7
              rw [h7, h8, shUp_nth n g (mask (nth ls i)) _ sh (by omega) n (Nat.le_refl _)]
              rw [priceL_nth (by omega)]
              have hx : x < n := by omega
              simp only [hx, true_and]
              have em : mask (nth ls i) = maskTo (nth ls i) (nth ls i).length := rfl
              rw [← em]
              split <;> rfl
          refine post_next ⟨k + 1, s46⟩ ?_ (fun w3 hw3 => ?_) ?_ ?_
          · simp only [hst2]
            exact (by exact .cons rfl (.cons rfl (.cons rfl (.cons rfl (.cons rfl .nil)))))
          · simp only [hst2]
            rw [← hpe]
            exact hw3
          · intro j hj
            by_cases e : j = k
            · subst e; rw [hst]; exact ⟨h0, i, by omega, by rw [best, hml]; exact hb, by rw [ems]; exact hpos⟩
            · exact hG j (by simp only at hj; omega)
          · simp only [hst2, hst]
            omega
  · skip
    have h0 : fr g (fullN n) = 0 := by simp only [decide_eq_false_iff_not] at h; omega
    have hend : GEnd n (msOf ls) k := ⟨hG, by rw [hst]; exact h0⟩
    have hPt : possN n (msOf ls) = true := poss_of_done (by omega) hend.ok hend.full
    refine cw_exit (post_then_x (post_then_x (post_blk_eq (post_then (cw_seq (cw_region (sr rfl rfl rfl ((q_move rfl rfl)) (sr rfl rfl rfl ((q_move rfl rfl)) (sr rfl rfl rfl ((q_assign rfl rfl)) (sr rfl rfl rfl ((q_assign rfl rfl)) (sr rfl rfl rfl ((q_assign rfl rfl)) (sw_nil (post_then (cw_ret (post_ret3 rfl (resOk_tmp rfl) (resOk_tmp rfl) (resOk_tmp rfl) ?_)))))))))))))))
    refine fun w' hw => ⟨((so, s20), k), rfl, hend, ?_⟩
    simp only [hst]
    exact (fun w h => Cl.sel (by exact .take 0 rfl (.take 1 rfl (.nil _))) w h) _ hw
end Go.Proofs.YtomjbfeafodfbaaGreat

set_option autoImplicit false
set_option maxRecDepth 100000
namespace Go.Proofs.YtomjbfeafodfbaaGreat
open Go.Sx
open Enc (enc val)
theorem widest_spec (n : Nat) (hn : n ≤ 30) (sv : SlV) (vs : List SlV) (ls : List (List Int)) (hs : ∀ s ∈ ls, setB n s = true) (w : World) (hm : Stb w [] (fun w' => Mt w' sv.v vs ls)) : Calls Tryz.prog 36 #[.int .i64 n, sv.v] w fun e w' => e = .returned (.int .i64 (wid (msOf ls))) ∧ Cl w [] [] w' := by
  have h1 := stb_map hm fun _ h => h.l
  have hL := rd_len h1.here
  have n1 := hm.here.n
  have hml : (msOf ls).length = ls.length := by simp [msOf]
  refine calls_cw (vs := [_, _]) Tryz.func36 rfl Tryz.ntmps36 rfl (Cl.start0 w) (cw_seq (cw_region (sr rfl rfl rfl ((q_assign rfl rfl)) (sw_nil (post_then (cw_seq (cw_region (sr rfl rfl rfl ((q_assign rfl rfl)) (sw_nil (post_then (cw_seq (cw_seq (cw_region (sr rfl rfl rfl ((q_assign rfl rfl)) (sw_nil (post_then (cw_block ?_)))))))))))))))))
  refine cw_loop (S := Nat) (fun k => [(0, [], .int .i64 n), (1, [], sv.v), (5, [], .int .i64 (widTo (msOf ls) k)), (6, [], .int .i64 k)]) (fun _ => Cl w [] []) (fun k => k ≤ ls.length) (fun k => ls.length - k) 0 (Nat.zero_le _) (by exact .cons rfl (.cons rfl (.cons rfl (.cons rfl .nil)))) (fun _ h => h) ?_
  intro k hk
  refine cw_seq (cw_seq (cw_region (sr rfl rfl rfl ((q_move rfl rfl)) (sr rfl rfl rfl ((q_move rfl rfl)) ?_))))
  refine sr rfl rfl rfl ((q_len rfl (.cons rfl inferInstance (.nil)) (by exact fun w hw => Stb.cl (by assumption) hw))) ?_
  refine sr rfl rfl rfl ((q_lss rfl rfl rfl)) (sw_nil (post_then ?_))
  refine cw_cond rfl (fun h => ?_) (fun h => ?_)
  · skip
    have hk' : k < ls.length := by simp only [decide_eq_true_eq] at h; omega
    have hrow := stb_map hm fun _ h => h.r k hk'
    have hsb := hs _ (nth_mem hk')
    have ems := msOf_nth hk'
    refine cw_skip (post_then (cw_seq (cw_block (cw_region_a (Cl w [] []) [] mixed_Tryz ?_))))
    refine aw_pure 0 rfl (by kernel_rfl) (by kernel_rfl) (by kernel_rfl) (by kernel_rfl) (by kernel_rfl) rfl rfl rfl (q_move rfl rfl) ?_
    refine aw_pure 1 rfl (by kernel_rfl) (by kernel_rfl) (by kernel_rfl) (by kernel_rfl) (by kernel_rfl) rfl rfl rfl (q_move rfl rfl) ?_
    refine aw_pure 3 rfl (by kernel_rfl) (by kernel_rfl) (by kernel_rfl) (by kernel_rfl) (by kernel_rfl) rfl rfl rfl (q_move rfl rfl) ?_
    refine aw_pure 4 rfl (by kernel_rfl) (by kernel_rfl) (by kernel_rfl) (by kernel_rfl) (by kernel_rfl) rfl rfl rfl (q_move rfl rfl) ?_
    refine aw_take 5 (fun w h => Cl.sel (by exact .nil _) w h) rfl (by kernel_rfl) (by kernel_rfl) (by kernel_rfl) (by kernel_rfl) (by kernel_rfl) (by kernel_rfl) rfl rfl rfl (q_indexN rfl rfl rfl (by exact fun w hw => Stb.cl (by assumption) hw) (by intro hc; omega)) ?_
    refine aw_take 6 (fun w h => Cl.sel (by exact .nil _) w h) rfl (by kernel_rfl) (by kernel_rfl) (by kernel_rfl) (by kernel_rfl) (by kernel_rfl) (by kernel_rfl) rfl rfl rfl (q_loadEl rfl rfl rfl (by exact fun w hw => Stb.cl (by assumption) hw) (by intro hc; omega)) ?_
    refine aw_x 2 (by kernel_rfl) rfl rfl rfl rfl (e_make (α := Bool) (zero := false) rfl rfl rfl rfl rfl (by omega) (by omega) (by decide)) (by intro hb; exact fun _ => (fun w h => Cl.sel (by exact .nil _) w h)) (fun s15 => ?_)
    rw [Int.toNat_natCast, cvL_zero]
    refine aw_q 7 (by kernel_rfl) rfl rfl rfl rfl (q_call (CanCall.mk Tryz.call80) rfl (.cons rfl inferInstance (.cons rfl inferInstance (.nil))) (fun _ w hw => callq hw (fresh_spec _ _ n 0 hn (nth ls k) hsb w (by exact stb_own hw (by exact .head _)) (stb_arg hw hrow)))) (by intro hb; exact (fun w h => Cl.sel (by exact .nil _) w h)) ?_
    refine aw_pure 8 rfl (by kernel_rfl) (by kernel_rfl) (by kernel_rfl) (by kernel_rfl) (by kernel_rfl) rfl rfl rfl (q_max rfl (.cons rfl inferInstance (.cons rfl inferInstance (.nil)))) ?_
    refine aw_pure 9 rfl (by kernel_rfl) (by kernel_rfl) (by kernel_rfl) (by kernel_rfl) (by kernel_rfl) rfl rfl rfl (q_assign rfl rfl) ?_
    refine aw_end (by kernel_rfl) ?_
    refine post_blk (post_then (cw_region (sr rfl rfl rfl ((q_move rfl rfl)) ?_)))
    refine sr rfl rfl rfl ((q_add rfl rfl rfl (by intro hc; omega))) ?_
    refine sr rfl rfl rfl ((q_assign rfl rfl)) (sw_nil ?_)
    have ewk : ((widTo (msOf ls) (k + 1) : Nat) : Int) = max (widTo (msOf ls) k : Int) (fr 0 (mask (nth ls k)) : Int) := by simp only [widTo, ems]; omega
    refine post_next (k + 1) ?_ (fun _ h => h.tail) (by omega) (by omega)
    rw [ewk]
    exact (by exact .cons rfl (.cons rfl (.cons rfl (.cons rfl .nil))))
  · skip
    have hk' : k = ls.length := by simp only [decide_eq_false_iff_not] at h; omega
    subst hk'
    refine cw_exit (post_then_x (post_then_x (post_blk_eq (post_then (cw_seq (cw_region (sr rfl rfl rfl ((q_move rfl rfl)) (sr rfl rfl rfl ((q_assign rfl rfl)) (sw_nil (post_then (cw_ret (post_ret1 rfl (resOk_tmp rfl) ?_))))))))))))
    exact fun w' hw => ⟨by rw [wid, hml], hw⟩
theorem scale_spec (m : Nat) (hm : m ≤ 1000) (w : World) : Calls Tryz.prog 38 #[.int .i64 m] w fun e w' => e = .returned (.int .i64 (scaleTo m)) ∧ Cl w [] [] w' := by
  refine calls_cw (vs := [_]) Tryz.func38 rfl Tryz.ntmps38 rfl (Cl.start0 w) (cw_seq (cw_region (sr rfl rfl rfl ((q_assign rfl rfl)) (sw_nil (post_then (cw_seq (cw_region (sr rfl rfl rfl ((q_assign rfl rfl)) (sw_nil (post_then (cw_seq (cw_seq (cw_region (sr rfl rfl rfl ((q_assign rfl rfl)) (sw_nil (post_then (cw_block ?_)))))))))))))))))
  refine cw_loop (S := Nat) (fun k => [(0, [], .int .i64 m), (3, [], .int .i64 (scaleTo k)), (4, [], .int .i64 ((k : Int) + 1))]) (fun _ => Cl w [] []) (fun k => k ≤ m) (fun k => m - k) 0 (Nat.zero_le _) (by exact .cons rfl (.cons rfl (.cons rfl .nil))) (fun _ h => h) ?_
  intro k hk
  have hsb := scaleTo_bd k
  have hq1 : (0 : Int) ≤ 27720 / ((k : Int) + 1) := Int.ediv_nonneg (by decide) (by omega)
  have hq2 : (27720 : Int) / ((k : Int) + 1) ≤ 27720 := Int.ediv_le_self _ (by decide)
  refine cw_seq (cw_seq (cw_region (sr rfl rfl rfl ((q_move rfl rfl)) (sr rfl rfl rfl ((q_move rfl rfl)) (sr rfl rfl rfl ((q_leq rfl rfl rfl)) (sw_nil (post_then ?_)))))))
  refine cw_cond rfl (fun h => ?_) (fun h => ?_)
  · skip
    have hk' : k < m := by simp only [decide_eq_true_eq] at h; omega
    refine cw_skip (post_then (cw_seq (cw_block (cw_region (sr rfl rfl rfl ((q_move rfl rfl)) (sr rfl rfl rfl ((q_move rfl rfl)) ?_))))))
    refine sr rfl rfl rfl ((q_quo rfl rfl rfl (by intro hc; omega))) ?_
    refine sr rfl rfl rfl ((q_add rfl rfl rfl (by intro hc; omega))) ?_
    refine sr rfl rfl rfl ((q_assign rfl rfl)) (sw_nil (post_blk (post_then (cw_region (sr rfl rfl rfl ((q_move rfl rfl)) ?_)))))
    refine sr rfl rfl rfl ((q_add rfl rfl rfl (by intro hc; omega))) ?_
    refine sr rfl rfl rfl ((q_assign rfl rfl)) (sw_nil ?_)
    exact post_next (k + 1) (by exact .cons rfl (.cons rfl (.cons rfl .nil))) (fun _ h => h) (by omega) (by omega)
  · skip
    have hk' : k = m := by simp only [decide_eq_false_iff_not] at h; omega
    subst hk'
    refine cw_exit (post_then_x (post_then_x (post_blk_eq (post_then (cw_seq (cw_region (sr rfl rfl rfl ((q_move rfl rfl)) (sr rfl rfl rfl ((q_assign rfl rfl)) (sw_nil (post_then (cw_ret (post_ret1 rfl (resOk_tmp rfl) ?_))))))))))))
    exact fun w' hw => ⟨rfl, hw⟩
theorem refGreedy_any (n : Nat) (hn : n ≤ 30) (sv : SlV) (vs : List SlV) (ls : List (List Int)) (h8 : ls.length ≤ 8) (hs : ∀ s ∈ ls, setB n s = true) (w : World) (hm : Stb w [] (fun w' => Mt w' sv.v vs ls)) :
    Calls Tryz.prog 37 #[.int .i64 n, sv.v] w fun e w' => ∃ y : SlV × SlV, e = .returned (.tuple #[y.1.v, y.2.v, .bool (possN n (msOf ls))]) ∧ True ∧ Cl w [] [] w' := by
  cases hP : possN n (msOf ls) with
  | false => exact (refGreedy_no n hn sv vs ls h8 hs w hm hP).mono fun e w' ⟨he, hc⟩ => ⟨(⟨none, 0, 0⟩, ⟨none, 0, 0⟩), he, trivial, hc⟩
  | true => exact (refGreedy_yes n hn sv vs ls h8 hs w hm hP).mono fun e w' ⟨y, he, _, hc⟩ => ⟨y.1, he, trivial, hc.tail.tail⟩
theorem needed_spec (n : Int) (hn : n ≤ 30 ∨ 1000 < n) (sv : SlV) (vs : List SlV) (ls : List (List Int)) (h8 : ls.length ≤ 8 ∨ 1000 < ls.length) (w : World) (hm : Stb w [] (fun w' => Mt w' sv.v vs ls)) : Calls Tryz.prog 35 #[.int .i64 n, sv.v] w fun e w' => e = .returned (.int .i64 (greedyE n ls)) ∧ Cl w [] [] w' := by
  have h1 := stb_map hm fun _ h => h.l
  have n1 := hm.here.n
  refine calls_cw (vs := [_, _]) Tryz.func35 rfl Tryz.ntmps35 rfl (Cl.start0 w) (cw_seq (cw_region (sr rfl rfl rfl ((q_assign rfl rfl)) (sw_nil (post_then (cw_seq (cw_seq (cw_region (sr rfl rfl rfl ((q_move rfl rfl)) (sr rfl rfl rfl ((q_gtr rfl rfl rfl)) (sr rfl rfl rfl ((q_move rfl rfl)) (sr rfl rfl rfl ((q_move rfl rfl)) ?_))))))))))))
  refine sr rfl rfl rfl ((q_len rfl (.cons rfl inferInstance (.nil)) (by exact fun w hw => Stb.cl (by assumption) hw))) ?_
  refine sr rfl rfl rfl ((q_gtr rfl rfl rfl)) (sr rfl rfl rfl ((q_or2 rfl rfl rfl)) (sw_nil (post_then ?_)))
  refine cw_cond rfl (fun h => ?_) (fun h => ?_)
  · skip
    have h2 : 1000 < n ∨ (1000 : Int) < ls.length := by simp only [Bool.or_eq_true, decide_eq_true_eq] at h; omega
    have h3 : covE n ls 1000 = 4 := by rw [covE, if_pos h2]
    refine cw_seq (cw_region (sr rfl rfl rfl ((q_assign rfl rfl)) (sw_nil (post_then (cw_ret (post_then_r (post_ret1 rfl (resOk_tmp rfl) ?_)))))))
    exact fun w' hw => ⟨by rw [greedyE, h3]; rfl, (fun w h => Cl.sel (by exact .nil _) w h) _ hw⟩
  · skip
    have h2 : ¬ (1000 < n ∨ (1000 : Int) < ls.length) := by simp only [Bool.or_eq_false_iff, decide_eq_false_iff_not] at h; omega
    have e0 : covE n ls 1000 = if n < 0 ∨ ls.all (setB n) = false then 2 else 0 := by rw [covE, if_neg h2]
    refine cw_skip (post_then (cw_seq (cw_seq (cw_region (sr rfl rfl rfl ((q_move rfl rfl)) (sr rfl rfl rfl ((q_lss rfl rfl rfl)) (sr rfl rfl rfl ((q_move rfl rfl)) (sr rfl rfl rfl ((q_move rfl rfl)) (sr rfl rfl rfl ((q_move rfl rfl)) ?_)))))))))
    refine sw_step rfl rfl rfl (q_call (CanCall.mk Tryz.call79) rfl (.cons rfl inferInstance (.cons rfl inferInstance (.nil))) (fun _ w hw => callq hw (refSets_spec n (by simp [AllT] at *; omega) sv vs ls w (stb_arg hw hm)))) ?_
    refine sr rfl rfl rfl ((q_not rfl rfl)) (sr rfl rfl rfl ((q_or2 rfl rfl rfl)) (sw_nil (post_then ?_)))
    refine cw_cond rfl (fun h3 => ?_) (fun h3 => ?_)
    · skip
      have h4 : covE n ls 1000 = 2 := by
        rw [e0, if_pos]
        rw [Bool.or_eq_true, decide_eq_true_eq, Bool.not_eq_true'] at h3
        exact h3
      refine cw_seq (cw_region (sr rfl rfl rfl ((q_assign rfl rfl)) (sw_nil (post_then (cw_ret (post_then_r (post_ret1 rfl (resOk_tmp rfl) ?_)))))))
      exact fun w' hw => ⟨by rw [greedyE, h4]; rfl, (fun w h => Cl.sel (by exact .nil _) w h) _ hw⟩
    · skip
      rw [Bool.or_eq_false_iff, decide_eq_false_iff_not, Bool.not_eq_false'] at h3
      have h4 : covE n ls 1000 = 0 := by
        rw [e0, if_neg]
        rintro (h5 | h5)
        · exact h3.1 h5
        · rw [h3.2] at h5; cases h5
      obtain ⟨m, rfl⟩ : ∃ m : Nat, n = m := ⟨n.toNat, by omega⟩
      have h5 : greedyE m ls = if possN m (msOf ls) then 0 else 5 := by rw [greedyE, h4, if_neg (by simp)]; rfl
      refine cw_skip (post_then (cw_seq (cw_seq (cw_region (sr rfl rfl rfl ((q_move rfl rfl)) (sr rfl rfl rfl ((q_move rfl rfl)) ?_))))))
      refine sw_x rfl rfl rfl (e_call (CanCall.mk Tryz.call37) rfl (.cons rfl inferInstance (.cons rfl inferInstance (.nil))) (fun w hw => refGreedy_any m (by omega) sv vs ls (by omega) (fun s hs => List.all_eq_true.1 h3.2 s hs) w (stb_arg hw hm))) (fun x26 => ?_)
      refine sw_imp (fun hx26 => ?_)
      refine sr rfl rfl rfl ((q_move rfl rfl)) (sr rfl rfl rfl ((q_extract rfl rfl rfl)) (sr rfl rfl rfl ((q_extract rfl rfl rfl)) (sr rfl rfl rfl ((q_extract rfl rfl rfl)) (sr rfl rfl rfl ((q_assign rfl rfl)) (sr rfl rfl rfl ((q_assign rfl rfl)) (sr rfl rfl rfl ((q_assign rfl rfl)) (sw_nil (post_then (cw_seq (cw_region (sr rfl rfl rfl ((q_move rfl rfl)) (sr rfl rfl rfl ((q_not rfl rfl)) (sw_nil (post_then ?_))))))))))))))
      refine cw_cond rfl (fun h6 => ?_) (fun h6 => ?_)
      · skip
        refine cw_seq (cw_region (sr rfl rfl rfl ((q_assign rfl rfl)) (sw_nil (post_then (cw_ret (post_then_r (post_ret1 rfl (resOk_tmp rfl) ?_)))))))
        exact fun w' hw => ⟨by rw [h5]; rw [Bool.not_eq_true'] at h6; rw [h6]; rfl, (fun w h => Cl.sel (by exact .nil _) w h) _ hw⟩
      · skip
        refine cw_skip (post_then (cw_seq (cw_region (sr rfl rfl rfl ((q_assign rfl rfl)) (sw_nil (post_then (cw_ret (post_ret1 rfl (resOk_tmp rfl) ?_))))))))
        exact fun w' hw => ⟨by rw [h5]; rw [Bool.not_eq_false'] at h6; rw [h6]; rfl, (fun w h => Cl.sel (by exact .nil _) w h) _ hw⟩
def setsOk (n : Int) (ls : List (List Int)) (most : Int) : Bool := decide (((ls.length : Int) ≤ most ∨ 1000 < ls.length) ∧ ls.length ≤ 1100 ∧ (n ≤ 30 ∨ 1000 < n)) && ls.all fun s => decide (s.length ≤ 40)
theorem sets_spec (n : Int) (sv : SlV) (vs : List SlV) (ls : List (List Int)) (most : Int) (w : World) (hm : Stb w [] (fun w' => Mt w' sv.v vs ls)) : Calls Tryz.prog 33 #[.int .i64 n, sv.v, .int .i64 most] w fun e w' => e = .returned (.bool (setsOk n ls most)) ∧ Cl w [] [] w' := by
  have h1 := stb_map hm fun _ h => h.l
  have n1 := hm.here.n
  have hL := rd_len h1.here
  refine calls_cw (vs := [_, _, _]) Tryz.func33 rfl Tryz.ntmps33 rfl (Cl.start0 w) (cw_seq (cw_region (sr rfl rfl rfl ((q_assign rfl rfl)) (sw_nil (post_then (cw_seq (cw_seq (cw_region (sr rfl rfl rfl ((q_move rfl rfl)) ?_)))))))))
  refine sr rfl rfl rfl ((q_len rfl (.cons rfl inferInstance (.nil)) (by exact fun w hw => Stb.cl (by assumption) hw))) ?_
  refine sr rfl rfl rfl ((q_move rfl rfl)) (sr rfl rfl rfl ((q_gtr rfl rfl rfl)) (sr rfl rfl rfl ((q_move rfl rfl)) (sr rfl rfl rfl ((q_move rfl rfl)) ?_)))
  refine sr rfl rfl rfl ((q_len rfl (.cons rfl inferInstance (.nil)) (by exact fun w hw => Stb.cl (by assumption) hw))) ?_
  refine sr rfl rfl rfl ((q_leq rfl rfl rfl)) (sr rfl rfl rfl ((q_and2 rfl rfl rfl)) (sr rfl rfl rfl ((q_move rfl rfl)) (sr rfl rfl rfl ((q_move rfl rfl)) ?_)))
  refine sr rfl rfl rfl ((q_len rfl (.cons rfl inferInstance (.nil)) (by exact fun w hw => Stb.cl (by assumption) hw))) ?_
  refine sr rfl rfl rfl ((q_gtr rfl rfl rfl)) (sr rfl rfl rfl ((q_or2 rfl rfl rfl)) (sr rfl rfl rfl ((q_move rfl rfl)) (sr rfl rfl rfl ((q_move rfl rfl)) (sr rfl rfl rfl ((q_gtr rfl rfl rfl)) (sr rfl rfl rfl ((q_move rfl rfl)) (sr rfl rfl rfl ((q_move rfl rfl)) (sr rfl rfl rfl ((q_leq rfl rfl rfl)) (sr rfl rfl rfl ((q_and2 rfl rfl rfl)) (sr rfl rfl rfl ((q_or2 rfl rfl rfl)) (sw_nil (post_then ?_)))))))))))
  refine cw_cond rfl (fun h => ?_) (fun h => ?_)
  · skip
    have h2 : ¬ (((ls.length : Int) ≤ most ∨ 1000 < ls.length) ∧ ls.length ≤ 1100 ∧ (n ≤ 30 ∨ 1000 < n)) := by
      simp only [Bool.or_eq_true, Bool.and_eq_true, decide_eq_true_eq, n1] at h
      omega
    refine cw_seq (cw_region (sr rfl rfl rfl ((q_assign rfl rfl)) (sw_nil (post_then (cw_ret (post_then_r (post_ret1 rfl (resOk_tmp rfl) ?_)))))))
    exact fun w' hw => ⟨by rw [setsOk, decide_eq_false h2]; rfl, hw⟩
  · skip
    have h2 : (((ls.length : Int) ≤ most ∨ 1000 < ls.length) ∧ ls.length ≤ 1100 ∧ (n ≤ 30 ∨ 1000 < n)) := by
      simp only [Bool.or_eq_false_iff, Bool.and_eq_false_iff, decide_eq_false_iff_not, n1] at h
      omega
    refine cw_skip (post_then (cw_seq (cw_seq (cw_region (sr rfl rfl rfl ((q_assign rfl rfl)) (sw_nil (post_then (cw_block ?_))))))))
    refine cw_loop (S := Nat) (fun k => [(1, [], sv.v), (7, [], .int .i64 k)]) (fun _ => Cl w [] []) (fun k => k ≤ ls.length ∧ ∀ j, j < k → (nth ls j).length ≤ 40) (fun k => ls.length - k) 0 ⟨Nat.zero_le _, fun j hj => by omega⟩ (by exact .cons rfl (.cons rfl .nil)) (fun _ h => h) ?_
    rintro k ⟨hk, he⟩
    refine cw_seq (cw_seq (cw_region (sr rfl rfl rfl ((q_move rfl rfl)) (sr rfl rfl rfl ((q_move rfl rfl)) ?_))))
    refine sr rfl rfl rfl ((q_len rfl (.cons rfl inferInstance (.nil)) (by exact fun w hw => Stb.cl (by assumption) hw))) ?_
    refine sr rfl rfl rfl ((q_lss rfl rfl rfl)) (sw_nil (post_then ?_))
    refine cw_cond rfl (fun h3 => ?_) (fun h3 => ?_)
    · skip
      have hk' : k < ls.length := by simp only [decide_eq_true_eq] at h3; omega
      have hr := stb_map hm fun _ h => h.r k hk'
      refine cw_skip (post_then (cw_seq (cw_block (cw_seq (cw_region (sr rfl rfl rfl ((q_move rfl rfl)) (sr rfl rfl rfl ((q_move rfl rfl)) ?_)))))))
      refine sr rfl rfl rfl ((q_indexN rfl rfl rfl (by exact fun w hw => Stb.cl (by assumption) hw) (by intro hc; omega))) ?_
      refine sr rfl rfl rfl ((q_loadEl rfl rfl rfl (by exact fun w hw => Stb.cl (by assumption) hw) (by intro hc; omega))) ?_
      refine sr rfl rfl rfl ((q_len rfl (.cons rfl inferInstance (.nil)) (by exact fun w hw => Stb.cl (by assumption) hw))) ?_
      refine sr rfl rfl rfl ((q_gtr rfl rfl rfl)) (sw_nil (post_then ?_))
      refine cw_cond rfl (fun h4 => ?_) (fun h4 => ?_)
      · skip
        have h5 : (ls.all fun s => decide (s.length ≤ 40)) = false := List.all_eq_false.2 ⟨nth ls k, nth_mem hk', by simp only [decide_eq_true_eq] at h4 ⊢; omega⟩
        refine cw_seq (cw_region (sr rfl rfl rfl ((q_assign rfl rfl)) (sw_nil (post_then (cw_ret (post_blk_r (post_then_r (post_then_r (post_blk_r (post_then_r (post_ret1 rfl (resOk_tmp rfl) ?_)))))))))))
        exact fun w' hw => ⟨by rw [setsOk, h5, Bool.and_false], hw⟩
      · skip
        refine cw_skip (post_blk (post_then (cw_region (sr rfl rfl rfl ((q_move rfl rfl)) ?_))))
        refine sr rfl rfl rfl ((q_add rfl rfl rfl (by intro hc; omega))) ?_
        refine sr rfl rfl rfl ((q_assign rfl rfl)) (sw_nil ?_)
        refine post_next (k + 1) (by exact .cons rfl (.cons rfl .nil)) (fun _ h => h) ⟨by omega, fun j hj => ?_⟩ (by omega)
        by_cases e : j = k
        · subst e; simp only [decide_eq_false_iff_not] at h4; omega
        · exact he j (by omega)
    · skip
      have hk' : k = ls.length := by simp only [decide_eq_false_iff_not] at h3; omega
      subst hk'
      have h5 : (ls.all fun s => decide (s.length ≤ 40)) = true := List.all_eq_true.2 fun s hs => by
        obtain ⟨q, hq, rfl⟩ := List.getElem_of_mem hs
        have := he q hq
        rw [nth_get hq] at this
        simpa using this
      refine cw_exit (post_then_x (post_then_x (post_blk_eq (post_then (cw_seq (cw_region (sr rfl rfl rfl ((q_assign rfl rfl)) (sw_nil (post_then (cw_ret (post_ret1 rfl (resOk_tmp rfl) ?_)))))))))))
      exact fun w' hw => ⟨by rw [setsOk, decide_eq_true h2, h5]; rfl, hw⟩
end Go.Proofs.YtomjbfeafodfbaaGreat

set_option autoImplicit false
set_option maxRecDepth 100000
namespace Go.Proofs.YtomjbfeafodfbaaGreat
open Go.Sx
open Enc (enc val)
theorem prcB_no {n : Nat} {ms : List Nat} {prices : List Int} {scale : Int} (h : prcB n prices scale = false) : provB n ms prices scale = false ∧ provV n ms prices scale = 0 := by
  have : provB n ms prices scale = false := by rw [provB, h]; rfl
  exact ⟨this, by rw [provV, this]; rfl⟩
theorem refProves_spec (n : Nat) (hn : n ≤ 30) (sv : SlV) (vs : List SlV) (ls : List (List Int)) (hs : ∀ s ∈ ls, setB n s = true) (sp : SlV) (prices : List Int) (scale : Int) (w : World) (hm : Stb w [] (fun w' => Mt w' sv.v vs ls)) (hp : Stb w [] (RdL sp.v prices)) :
    Calls Tryz.prog 40 #[.int .i64 n, sv.v, sp.v, .int .i64 scale] w fun e w' => e = .returned (.tuple #[.int .i64 (provV n (msOf ls) prices scale), .bool (provB n (msOf ls) prices scale)]) ∧ Cl w [] [] w' := by
  have h1 := stb_map hm fun _ h => h.l
  have hL := rd_len h1.here
  have n1 := hm.here.n
  have hL2 := rd_len hp.here
  refine calls_cw (vs := [_, _, _, _]) Tryz.func40 rfl Tryz.ntmps40 rfl (Cl.start0 w) (cw_seq (cw_region (sr rfl rfl rfl ((q_assign rfl rfl)) (sr rfl rfl rfl ((q_assign rfl rfl)) (sw_nil (post_then (cw_seq (cw_seq (cw_region (sr rfl rfl rfl ((q_move rfl rfl)) ?_))))))))))
  refine sr rfl rfl rfl ((q_len rfl (.cons rfl inferInstance (.nil)) (by exact fun w hw => Stb.cl (by assumption) hw))) ?_
  refine sr rfl rfl rfl ((q_move rfl rfl)) (sr rfl rfl rfl ((q_neq rfl rfl rfl)) (sr rfl rfl rfl ((q_move rfl rfl)) (sr rfl rfl rfl ((q_move rfl rfl)) (sw_step rfl rfl rfl (q_call (CanCall.mk Tryz.call84) rfl (.cons rfl inferInstance (.cons rfl inferInstance (.cons rfl inferInstance (.nil)))) (fun _ w hw => callq hw (refIn_spec _ _ _ w))) (sr rfl rfl rfl ((q_not rfl rfl)) (sr rfl rfl rfl ((q_or2 rfl rfl rfl)) (sw_nil (post_then ?_))))))))
  refine cw_cond rfl (fun h => ?_) (fun h => ?_)
  · skip
    have h2 : prcB n prices scale = false := by
      simp only [Bool.or_eq_true, Bool.not_eq_true', decide_eq_false_iff_not] at h
      rcases h with h | h
      · simp only [prcB]
        rw [decide_eq_false (by omega)]; rfl
      · simp only [prcB, h, Bool.and_false, Bool.false_and]
    have h3 := prcB_no (ms := msOf ls) h2
    refine cw_seq (cw_region (sr rfl rfl rfl ((q_assign rfl rfl)) (sr rfl rfl rfl ((q_assign rfl rfl)) (sw_nil (post_then (cw_ret (post_then_r (post_ret2 rfl (resOk_tmp rfl) (resOk_tmp rfl) ?_))))))))
    exact fun w' hw => ⟨by rw [h3.1, h3.2], hw⟩
  · skip
    simp only [Bool.or_eq_false_iff, Bool.not_eq_false', decide_eq_true_eq] at h
    have hpl : prices.length = n := by omega
    have hsc : 1 ≤ scale ∧ scale ≤ 1000000000000 := by have := h.2; simp only [inB, Bool.and_eq_true, decide_eq_true_eq] at this; exact this
    refine cw_skip (post_then (cw_seq (cw_region (sr rfl rfl rfl ((q_assign rfl rfl)) (sw_nil (post_then (cw_seq (cw_seq (cw_region (sr rfl rfl rfl ((q_assign rfl rfl)) (sw_nil (post_then (cw_block ?_)))))))))))))
    refine cw_loop (S := Nat) (fun k => [(0, [], .int .i64 n), (1, [], sv.v), (2, [], sp.v), (3, [], .int .i64 scale), (10, [], .int .i64 (sumTo prices k)), (11, [], .int .i64 k)]) (fun _ => Cl w [] []) (fun k => k ≤ n ∧ (∀ j, j < k → inB (nth prices j) 0 1000000000 = true) ∧ 0 ≤ sumTo prices k ∧ sumTo prices k ≤ 1000000000 * k) (fun k => n - k) 0 ⟨Nat.zero_le _, fun j hj => by omega, by simp [sumTo]⟩ (by exact .cons rfl (.cons rfl (.cons rfl (.cons rfl (.cons rfl (.cons rfl .nil)))))) (fun _ h => h) ?_
    rintro k ⟨hk, he, hs1, hs2⟩
    refine cw_seq (cw_seq (cw_region (sr rfl rfl rfl ((q_move rfl rfl)) (sr rfl rfl rfl ((q_move rfl rfl)) (sr rfl rfl rfl ((q_lss rfl rfl rfl)) (sw_nil (post_then ?_)))))))
    refine cw_cond rfl (fun h2 => ?_) (fun h2 => ?_)
    · skip
      have hk' : k < n := by simp only [decide_eq_true_eq] at h2; omega
      refine cw_skip (post_then (cw_seq (cw_block (cw_seq (cw_seq (cw_region (sr rfl rfl rfl ((q_move rfl rfl)) (sr rfl rfl rfl ((q_move rfl rfl)) ?_))))))))
      refine sr rfl rfl rfl ((q_indexN rfl rfl rfl (by exact fun w hw => Stb.cl (by assumption) hw) (by intro hc; omega))) ?_
      refine sr rfl rfl rfl ((q_loadEl rfl rfl rfl (by exact fun w hw => Stb.cl (by assumption) hw) (by intro hc; omega))) ?_
      refine sw_step rfl rfl rfl (q_call (CanCall.mk Tryz.call84) rfl (.cons rfl inferInstance (.cons rfl inferInstance (.cons rfl inferInstance (.nil)))) (fun _ w hw => callq hw (refIn_spec _ _ _ w))) (sr rfl rfl rfl ((q_not rfl rfl)) (sw_nil (post_then ?_)))
      refine cw_cond rfl (fun h3 => ?_) (fun h3 => ?_)
      · skip
        have h4 : prcB n prices scale = false := by
          have : (prices.all fun p => inB p 0 1000000000) = false := List.all_eq_false.2 ⟨nth prices k, nth_mem (by omega), by simpa using h3⟩
          simp only [prcB, this, Bool.and_false]
        have h5 := prcB_no (ms := msOf ls) h4
        refine cw_seq (cw_region (sr rfl rfl rfl ((q_assign rfl rfl)) (sr rfl rfl rfl ((q_assign rfl rfl)) (sw_nil (post_then (cw_ret (post_then_r (post_blk_r (post_then_r (post_then_r (post_blk_r (post_then_r (post_ret2 rfl (resOk_tmp rfl) (resOk_tmp rfl) ?_)))))))))))))
        exact fun w' hw => ⟨by rw [h5.1, h5.2], hw⟩
      · skip
        have h4 : inB (nth prices k) 0 1000000000 = true := by simpa using h3
        have h5 : 0 ≤ nth prices k ∧ nth prices k ≤ 1000000000 := by simpa [inB] using h4
        refine cw_skip (post_then (cw_region (sr rfl rfl rfl ((q_move rfl rfl)) (sr rfl rfl rfl ((q_move rfl rfl)) (sr rfl rfl rfl ((q_move rfl rfl)) ?_)))))
        refine sr rfl rfl rfl ((q_indexN rfl rfl rfl (by exact fun w hw => Stb.cl (by assumption) hw) (by intro hc; omega))) ?_
        refine sr rfl rfl rfl ((q_loadEl rfl rfl rfl (by exact fun w hw => Stb.cl (by assumption) hw) (by intro hc; omega))) ?_
        refine sr rfl rfl rfl ((q_add rfl rfl rfl (by intro hc; omega))) ?_
        refine sr rfl rfl rfl ((q_assign rfl rfl)) (sw_nil (post_blk (post_then (cw_region (sr rfl rfl rfl ((q_move rfl rfl)) ?_)))))
        refine sr rfl rfl rfl ((q_add rfl rfl rfl (by intro hc; omega))) ?_
        refine sr rfl rfl rfl ((q_assign rfl rfl)) (sw_nil ?_)
        refine post_next (k + 1) (by exact .cons rfl (.cons rfl (.cons rfl (.cons rfl (.cons rfl (.cons rfl .nil)))))) (fun _ h => h) ⟨by omega, fun j hj => ?_, by simp only [sumTo]; omega, by simp only [sumTo]; omega⟩ (by omega)
        by_cases e : j = k
        · subst e; exact h4
        · exact he j (by omega)
    · skip
      have hk' : k = n := by simp only [decide_eq_false_iff_not] at h2; omega
      subst hk'
      have hpb : ∀ j, 0 ≤ nth prices j ∧ nth prices j ≤ 1000000000 := nth_bd (by omega) fun v hv => by
        obtain ⟨q, hq, rfl⟩ := List.getElem_of_mem hv
        have := he q (by omega)
        rw [nth_get hq] at this
        simpa [inB] using this
      have hprc : prcB k prices scale = true := by
        have : (prices.all fun p => inB p 0 1000000000) = true := List.all_eq_true.2 fun v hv => by
          obtain ⟨q, hq, rfl⟩ := List.getElem_of_mem hv
          have := he q (by omega)
          rwa [nth_get hq] at this
        simp only [prcB, this, h.2, Bool.and_true, decide_eq_true_eq]
        exact hpl
      refine cw_exit (post_then_x (post_then_x (post_blk_eq (post_then (cw_seq (cw_seq (cw_region (sr rfl rfl rfl ((q_assign rfl rfl)) (sw_nil (post_then (cw_block ?_)))))))))))
      refine cw_loop (S := Nat) (fun i => [(0, [], .int .i64 k), (1, [], sv.v), (2, [], sp.v), (3, [], .int .i64 scale), (10, [], .int .i64 (sumTo prices k)), (12, [], .int .i64 i)]) (fun _ => Cl w [] []) (fun i => i ≤ ls.length ∧ ∀ j, j < i → psum prices (mask (nth ls j)) k ≤ scale) (fun i => ls.length - i) 0 ⟨Nat.zero_le _, fun j hj => by omega⟩ (by exact .cons rfl (.cons rfl (.cons rfl (.cons rfl (.cons rfl (.cons rfl .nil)))))) (fun _ h => h) ?_
      rintro i ⟨hi, hsum⟩
      refine cw_seq (cw_seq (cw_region (sr rfl rfl rfl ((q_move rfl rfl)) (sr rfl rfl rfl ((q_move rfl rfl)) ?_))))
      refine sr rfl rfl rfl ((q_len rfl (.cons rfl inferInstance (.nil)) (by exact fun w hw => Stb.cl (by assumption) hw))) ?_
      refine sr rfl rfl rfl ((q_lss rfl rfl rfl)) (sw_nil (post_then ?_))
      refine cw_cond rfl (fun h3 => ?_) (fun h3 => ?_)
      · skip
        have hi' : i < ls.length := by simp only [decide_eq_true_eq] at h3; omega
        have hrow := stb_map hm fun _ h => h.r i hi'
        have hrl := rd_len hrow.here
        have hsb := mask_bits (hs _ (nth_mem hi'))
        refine cw_skip (post_then (cw_seq (cw_block (cw_seq (cw_region (sr rfl rfl rfl ((q_move rfl rfl)) ?_))))))
        refine sw_x rfl rfl rfl (e_make (α := Bool) (zero := false) rfl rfl rfl rfl rfl (by omega) (by omega) (by decide)) (fun s50 => ?_)
        rw [Int.toNat_natCast, cvL_zero]
        refine sr rfl rfl rfl ((q_assign rfl rfl)) (sw_nil (post_then (cw_seq (cw_region (sr rfl rfl rfl ((q_assign rfl rfl)) (sw_nil (post_then (cw_seq (cw_seq (cw_region (sr rfl rfl rfl ((q_assign rfl rfl)) (sw_nil (post_then (cw_block ?_))))))))))))))
        refine cw_loop (S := Nat) (fun q => [(0, [], .int .i64 k), (1, [], sv.v), (2, [], sp.v), (3, [], .int .i64 scale), (10, [], .int .i64 (sumTo prices k)), (12, [], .int .i64 i), (13, [], s50.v), (14, [], .int .i64 (psum prices (maskTo (nth ls i) q) k)), (15, [], .int .i64 q)]) (fun q => Cl w [] [ownL 4 s50.v (cvL k (maskTo (nth ls i) q))]) (fun q => q ≤ (nth ls i).length) (fun q => (nth ls i).length - q) 0 (Nat.zero_le _) ?_ (fun _ h => h) ?_
        · have e0 : psum prices (maskTo (nth ls i) 0) k = 0 := by
            have : ∀ q, psum prices 0 q = 0 := by
              intro q
              induction q with
              | zero => rfl
              | succ q ih => simp [psum, ih]
            exact this k
          rw [e0]
          exact (by exact .cons rfl (.cons rfl (.cons rfl (.cons rfl (.cons rfl (.cons rfl (.cons rfl (.cons rfl (.cons rfl .nil)))))))))
        intro q hq
        have hb1 := psum_bd hpb (maskTo (nth ls i) q) k
        refine cw_seq (cw_seq (cw_region (sr rfl rfl rfl ((q_move rfl rfl)) (sr rfl rfl rfl ((q_move rfl rfl)) (sr rfl rfl rfl ((q_move rfl rfl)) ?_)))))
        refine sr rfl rfl rfl ((q_indexN rfl rfl rfl (by exact fun w hw => Stb.cl (by assumption) hw) (by intro hc; omega))) ?_
        refine sr rfl rfl rfl ((q_loadEl rfl rfl rfl (by exact fun w hw => Stb.cl (by assumption) hw) (by intro hc; omega))) ?_
        refine sr rfl rfl rfl ((q_len rfl (.cons rfl inferInstance (.nil)) (by exact fun w hw => Stb.cl (by assumption) hw))) ?_
        refine sr rfl rfl rfl ((q_lss rfl rfl rfl)) (sw_nil (post_then ?_))
        refine cw_cond rfl (fun h4 => ?_) (fun h4 => ?_)
        · skip
          have hq' : q < (nth ls i).length := by simp only [decide_eq_true_eq] at h4; omega
          have hel := hsb.2 _ (nth_mem hq')
          have hcl := cvL_len k (maskTo (nth ls i) q)
          have hb2 := hpb (nth (nth ls i) q).toNat
          have hput := psum_put (l := prices) (m := maskTo (nth ls i) q) (x := (nth (nth ls i) q).toNat) (k := k) (by omega)
          refine cw_skip (post_then (cw_seq (cw_block (cw_seq (cw_region (sr rfl rfl rfl ((q_move rfl rfl)) (sr rfl rfl rfl ((q_move rfl rfl)) ?_)))))))
          refine sr rfl rfl rfl ((q_indexN rfl rfl rfl (by exact fun w hw => Stb.cl (by assumption) hw) (by intro hc; omega))) ?_
          refine sr rfl rfl rfl ((q_loadEl rfl rfl rfl (by exact fun w hw => Stb.cl (by assumption) hw) (by intro hc; omega))) ?_
          refine sr rfl rfl rfl ((q_move rfl rfl)) ?_
          refine sr rfl rfl rfl ((q_indexN rfl rfl rfl (by exact fun w hw => Stb.cl (by assumption) hw) (by intro hc; omega))) ?_
          refine sr rfl rfl rfl ((q_loadEl rfl rfl rfl (by exact fun w hw => Stb.cl (by assumption) hw) (by intro hc; omega))) ?_
          refine sr rfl rfl rfl ((q_assign rfl rfl)) (sw_nil (post_then (cw_seq (cw_region (sr rfl rfl rfl ((q_move rfl rfl)) (sr rfl rfl rfl ((q_move rfl rfl)) ?_))))))
          refine sr rfl rfl rfl ((q_index rfl rfl rfl (by exact fun w hw => rd_own hw (by exact .head _)) (by intro hc; omega))) ?_
          refine sr rfl rfl rfl ((q_loadEl rfl rfl rfl (by exact fun w hw => rd_own hw (by exact .head _)) (by intro hc; omega))) ?_
          refine sr rfl rfl rfl ((q_not rfl rfl)) (sw_nil (post_then ?_))
          refine cw_cut (S := Unit) (fun _ => [(0, [], .int .i64 k), (1, [], sv.v), (2, [], sp.v), (3, [], .int .i64 scale), (10, [], .int .i64 (sumTo prices k)), (12, [], .int .i64 i), (13, [], s50.v), (14, [], .int .i64 (psum prices (maskTo (nth ls i) (q + 1)) k)), (15, [], .int .i64 q)]) (fun _ => Cl w [] [ownL 4 s50.v (cvL k (maskTo (nth ls i) (q + 1)))]) (fun _ => True) ?_ ?_
          · have hb := cvL_nth (n := k) (i := (nth (nth ls i) q).toNat) (by omega) (maskTo (nth ls i) q)
            rw [hb]
            refine cw_cond rfl (fun h5 => ?_) (fun h5 => ?_)
            · skip
              have h6 : (maskTo (nth ls i) q).testBit (nth (nth ls i) q).toNat = false := by rw [Bool.not_eq_true'] at h5; exact h5
              have e5 : psum prices (maskTo (nth ls i) (q + 1)) k = psum prices (maskTo (nth ls i) q) k + nth prices (nth (nth ls i) q).toNat := by rw [maskTo, hput, if_neg (by rw [h6]; decide)]
              refine cw_seq (cw_region (sr rfl rfl rfl ((q_move rfl rfl)) (sr rfl rfl rfl ((q_move rfl rfl)) ?_)))
              refine sr rfl rfl rfl ((q_index rfl rfl rfl (by exact fun w hw => rd_own hw (by exact .head _)) (by intro hc; omega))) ?_
              refine sw_eff0 rfl rfl (e_storeEl1 (i := 0) rfl rfl rfl rfl rfl (by omega)) ?_
              refine sw_nil (post_then (cw_region (sr rfl rfl rfl ((q_move rfl rfl)) (sr rfl rfl rfl ((q_move rfl rfl)) (sr rfl rfl rfl ((q_move rfl rfl)) ?_)))))
              refine sr rfl rfl rfl ((q_index rfl rfl rfl (by exact fun w hw => Stb.cl (by assumption) hw) (by intro hc; omega))) ?_
              refine sr rfl rfl rfl ((q_loadEl rfl rfl rfl (by exact fun w hw => Stb.cl (by assumption) hw) (by intro hc; omega))) ?_
              refine sr rfl rfl rfl ((q_add rfl rfl rfl (by intro hc; omega))) ?_
              refine sr rfl rfl rfl ((q_assign rfl rfl)) (sw_nil ?_)
              refine post_meet () ?_ (fun w3 hw3 => ?_) trivial
              · rw [e5]
                exact (by exact .cons rfl (.cons rfl (.cons rfl (.cons rfl (.cons rfl (.cons rfl (.cons rfl (.cons rfl (.cons rfl .nil)))))))))
              · rw [maskTo, ← cvL_set (by omega)]
                exact hw3
            · skip
              have h6 : (maskTo (nth ls i) q).testBit (nth (nth ls i) q).toNat = true := by rw [Bool.not_eq_false'] at h5; exact h5
              have e5 : psum prices (maskTo (nth ls i) (q + 1)) k = psum prices (maskTo (nth ls i) q) k := by rw [maskTo, hput, if_pos h6, Int.add_zero]
              refine cw_skip ?_
              refine post_meet () ?_ (fun w3 hw3 => ?_) trivial
              · rw [e5]
                exact (by exact .cons rfl (.cons rfl (.cons rfl (.cons rfl (.cons rfl (.cons rfl (.cons rfl (.cons rfl (.cons rfl .nil)))))))))
              · rw [maskTo, cvL_same h6]
                exact hw3
          · intro _ _
            refine post_blk (post_then (cw_region (sr rfl rfl rfl ((q_move rfl rfl)) ?_)))
            refine sr rfl rfl rfl ((q_add rfl rfl rfl (by intro hc; omega))) ?_
            refine sr rfl rfl rfl ((q_assign rfl rfl)) (sw_nil ?_)
            exact post_next (q + 1) (by exact .cons rfl (.cons rfl (.cons rfl (.cons rfl (.cons rfl (.cons rfl (.cons rfl (.cons rfl (.cons rfl .nil))))))))) (fun _ h => h) (by omega) (by omega)
        · skip
          have hq' : q = (nth ls i).length := by simp only [decide_eq_false_iff_not] at h4; omega
          subst hq'
          refine cw_exit (post_then_x (post_then_x (post_blk_eq (post_then (cw_seq (cw_region (sr rfl rfl rfl ((q_move rfl rfl)) (sr rfl rfl rfl ((q_move rfl rfl)) (sr rfl rfl rfl ((q_gtr rfl rfl rfl)) (sw_nil (post_then ?_)))))))))))
          refine cw_cond rfl (fun h5 => ?_) (fun h5 => ?_)
          · skip
            have h6 : provB k (msOf ls) prices scale = false := by
              have : ((msOf ls).all fun m => decide (psum prices m k ≤ scale)) = false := List.all_eq_false.2 ⟨mask (nth ls i), by rw [← msOf_nth hi']; exact nth_mem (by simpa [msOf] using hi'), by simp only [decide_eq_true_eq] at h5 ⊢; have em : mask (nth ls i) = maskTo (nth ls i) (nth ls i).length := rfl; rw [em]; omega⟩
              rw [provB, this, Bool.and_false]
            refine cw_seq (cw_region (sr rfl rfl rfl ((q_assign rfl rfl)) (sr rfl rfl rfl ((q_assign rfl rfl)) (sw_nil (post_then (cw_ret (post_blk_r (post_then_r (post_then_r (post_blk_r (post_then_r (post_ret2 rfl (resOk_tmp rfl) (resOk_tmp rfl) ?_))))))))))))
            exact fun w' hw => ⟨by rw [provV, h6]; rfl, hw.tail⟩
          · skip
            refine cw_skip (post_blk (post_then (cw_region (sr rfl rfl rfl ((q_move rfl rfl)) ?_))))
            refine sr rfl rfl rfl ((q_add rfl rfl rfl (by intro hc; omega))) ?_
            refine sr rfl rfl rfl ((q_assign rfl rfl)) (sw_nil ?_)
            refine post_next (i + 1) (by exact .cons rfl (.cons rfl (.cons rfl (.cons rfl (.cons rfl (.cons rfl .nil)))))) (fun _ h => h.tail) ⟨by omega, fun j hj => ?_⟩ (by omega)
            by_cases e : j = i
            · subst e; simp only [decide_eq_false_iff_not] at h5; have em : mask (nth ls j) = maskTo (nth ls j) (nth ls j).length := rfl; rw [em]; omega
            · exact hsum j (by omega)
      · skip
        have hi' : i = ls.length := by simp only [decide_eq_false_iff_not] at h3; omega
        subst hi'
        have h6 : provB k (msOf ls) prices scale = true := by
          rw [provB, hprc, Bool.true_and, List.all_eq_true]
          intro m hm2
          obtain ⟨s, hs2, rfl⟩ := List.mem_map.1 hm2
          obtain ⟨j, hj, rfl⟩ := List.getElem_of_mem hs2
          have := hsum j hj
          rw [nth_get hj] at this
          simpa using this
        refine cw_exit (post_then_x (post_then_x (post_blk_eq (post_then (cw_seq (cw_region (sr rfl rfl rfl ((q_move rfl rfl)) (sr rfl rfl rfl ((q_move rfl rfl)) ?_))))))))
        refine sr rfl rfl rfl ((q_add rfl rfl rfl (by intro hc; omega))) ?_
        refine sr rfl rfl rfl ((q_sub rfl rfl rfl (by intro hc; omega))) ?_
        refine sr rfl rfl rfl ((q_move rfl rfl)) ?_
        refine sr rfl rfl rfl ((q_quo rfl rfl rfl (by intro hc; omega))) ?_
        refine sr rfl rfl rfl ((q_assign rfl rfl)) (sr rfl rfl rfl ((q_assign rfl rfl)) (sw_nil (post_then (cw_ret (post_ret2 rfl (resOk_tmp rfl) (resOk_tmp rfl) ?_)))))
        exact fun w' hw => ⟨by rw [provV, h6]; rfl, hw⟩
end Go.Proofs.YtomjbfeafodfbaaGreat

set_option autoImplicit false
set_option maxRecDepth 100000
namespace Go.Proofs.YtomjbfeafodfbaaGreat
open Go.Sx
open Enc (enc val)
theorem setsOk_of {n : Int} {ls : List (List Int)} {most : Int} (h : setsOk n ls most = true) : ((ls.length : Int) ≤ most ∨ 1000 < ls.length) ∧ (n ≤ 30 ∨ 1000 < n) := by
  simp only [setsOk, Bool.and_eq_true, decide_eq_true_eq] at h
  exact ⟨h.1.1, h.1.2.2⟩
theorem greedyE_bad {n : Int} {ls : List (List Int)} (h : covE n ls 1000 ≠ 0) : greedyE n ls = covE n ls 1000 ∧ covE n ls 1000 ≠ 5 := by
  refine ⟨by rw [greedyE, if_pos h], ?_⟩
  unfold covE
  split
  · decide
  · split <;> decide
theorem greedyE_ok {n : Nat} {ls : List (List Int)} (h : covE n ls 1000 = 0) : greedyE n ls = if possN n (msOf ls) then 0 else 5 := by
  rw [greedyE, h, if_neg (by simp)]; rfl
theorem lawProves_bad (n : Int) (hn : -9223372036854775808 ≤ n) (sv : SlV) (vs : List SlV) (ls : List (List Int)) (sp : SlV) (prices : List Int) (scale : Int) (w : World) (hm : Stb w [] (fun w' => Mt w' sv.v vs ls)) (hp : Stb w [] (RdL sp.v prices)) (hE : covE n ls 1000 ≠ 0) :
    Calls Tryz.prog 8 #[.int .i64 n, sv.v, sp.v, .int .i64 scale] w fun e w' => e = .returned (.bool true) ∧ Cl w [] [] w' := by
  have hL := rd_len hp.here
  refine calls_cw (vs := [_, _, _, _]) Tryz.func8 rfl Tryz.ntmps8 rfl (Cl.start0 w) (cw_seq (cw_region (sr rfl rfl rfl ((q_assign rfl rfl)) (sw_nil (post_then (cw_seq (cw_seq (cw_region (sr rfl rfl rfl ((q_move rfl rfl)) (sr rfl rfl rfl ((q_move rfl rfl)) (sw_step rfl rfl rfl (q_call (CanCall.mk Tryz.call33) rfl (.cons rfl inferInstance (.cons rfl inferInstance (.cons rfl inferInstance (.nil)))) (fun _ w hw => callq hw (sets_spec n sv vs ls 8 w (stb_arg hw hm)))) (sr rfl rfl rfl ((q_not rfl rfl)) (sr rfl rfl rfl ((q_move rfl rfl)) (sr rfl rfl rfl ((q_move rfl rfl)) ?_))))))))))))))
  refine sr rfl rfl rfl ((q_len rfl (.cons rfl inferInstance (.nil)) (by exact fun w hw => Stb.cl (by assumption) hw))) ?_
  refine sr rfl rfl rfl ((q_gtr rfl rfl rfl)) (sr rfl rfl rfl ((q_or2 rfl rfl rfl)) (sw_nil (post_then ?_)))
  refine cw_cond rfl (fun h => ?_) (fun h => ?_)
  · skip
    refine cw_seq (cw_region (sw_step rfl rfl rfl (q_call (CanCall.mk Tryz.call18) rfl (.nil) (fun _ w hw => callq hw (known_spec w))) (sr rfl rfl rfl ((q_assign rfl rfl)) (sw_nil (post_then (cw_ret (post_then_r (post_ret1 rfl (resOk_tmp rfl) ?_))))))))
    exact fun w' hw => ⟨rfl, hw⟩
  · skip
    have hso : setsOk n ls 8 = true := by
      cases h2 : setsOk n ls 8
      · rw [h2] at h; simp at h
      · rfl
    obtain ⟨k1, k2⟩ := setsOk_of hso
    have hg := greedyE_bad hE
    refine cw_skip (post_then (cw_seq (cw_region (sr rfl rfl rfl ((q_move rfl rfl)) (sr rfl rfl rfl ((q_move rfl rfl)) (sr rfl rfl rfl ((q_move rfl rfl)) (sr rfl rfl rfl ((q_move rfl rfl)) (sw_step rfl rfl rfl (q_call (CanCall.mk Tryz.call39) rfl (.cons rfl inferInstance (.cons rfl inferInstance (.cons rfl inferInstance (.cons rfl inferInstance (.nil))))) (fun _ w hw => callq hw (proves_bad n hn sv vs ls sp prices scale w (stb_arg hw hm) (stb_arg hw hp) hE))) (sr rfl rfl rfl ((q_move rfl rfl)) (sr rfl rfl rfl ((q_extract rfl rfl rfl)) (sr rfl rfl rfl ((q_extract rfl rfl rfl)) (sr rfl rfl rfl ((q_assign rfl rfl)) (sr rfl rfl rfl ((q_assign rfl rfl)) (sw_nil (post_then (cw_seq (cw_region (sr rfl rfl rfl ((q_assign rfl rfl)) (sr rfl rfl rfl ((q_assign rfl rfl)) (sw_nil (post_then (cw_seq (cw_seq (cw_region (sr rfl rfl rfl ((q_move rfl rfl)) (sr rfl rfl rfl ((q_move rfl rfl)) ?_))))))))))))))))))))))))))
    refine sw_step rfl rfl rfl (q_call (CanCall.mk Tryz.call35) rfl (.cons rfl inferInstance (.cons rfl inferInstance (.nil))) (fun _ w hw => callq hw (needed_spec n k2 sv vs ls (by omega) w (stb_arg hw hm)))) ?_
    refine sr rfl rfl rfl ((q_assign rfl rfl)) (sw_nil (post_then (cw_seq (cw_region (sr rfl rfl rfl ((q_move rfl rfl)) (sr rfl rfl rfl ((q_eql rfl rfl rfl)) (sr rfl rfl rfl ((q_move rfl rfl)) (sr rfl rfl rfl ((q_move rfl rfl)) (sr rfl rfl rfl ((q_eql rfl rfl rfl)) (sr rfl rfl rfl ((q_or2 rfl rfl rfl)) (sw_nil (post_then ?_))))))))))))
    refine cw_cond rfl (fun h3 => ?_) (fun h3 => ?_)
    · skip
      exfalso
      rw [hg.1] at h3
      simp only [Bool.or_eq_true, decide_eq_true_eq] at h3
      rcases h3 with h3 | h3
      · exact hE h3
      · exact hg.2 h3
    · skip
      refine cw_skip (post_then (cw_seq (cw_region (sr rfl rfl rfl ((q_move rfl rfl)) (sr rfl rfl rfl ((q_move rfl rfl)) (sr rfl rfl rfl ((q_eql rfl rfl rfl)) (sr rfl rfl rfl ((q_move rfl rfl)) (sr rfl rfl rfl ((q_move rfl rfl)) (sr rfl rfl rfl ((q_move rfl rfl)) (sr rfl rfl rfl ((q_eql_b rfl rfl rfl Tryz.underlying4)) (sr rfl rfl rfl ((q_and2 rfl rfl rfl)) (sr rfl rfl rfl ((q_move rfl rfl)) (sw_step rfl rfl rfl (q_call (CanCall.mk Tryz.call18) rfl (.nil) (fun _ w hw => callq hw (known_spec w))) (sr rfl rfl rfl ((q_and2 rfl rfl rfl)) (sr rfl rfl rfl ((q_assign rfl rfl)) (sw_nil (post_then (cw_ret (post_ret1 rfl (resOk_tmp rfl) ?_)))))))))))))))))))
      exact fun w' hw => ⟨rfl, hw⟩
theorem lawProves_ok (n : Nat) (sv : SlV) (vs : List SlV) (ls : List (List Int)) (sp : SlV) (prices : List Int) (scale : Int) (w : World) (hm : Stb w [] (fun w' => Mt w' sv.v vs ls)) (hp : Stb w [] (RdL sp.v prices)) (hE : covE n ls 1000 = 0) :
    Calls Tryz.prog 8 #[.int .i64 n, sv.v, sp.v, .int .i64 scale] w fun e w' => e = .returned (.bool true) ∧ Cl w [] [] w' := by
  have hL := rd_len hp.here
  obtain ⟨q1, q2, q3, q4⟩ := covE_ok hE
  refine calls_cw (vs := [_, _, _, _]) Tryz.func8 rfl Tryz.ntmps8 rfl (Cl.start0 w) (cw_seq (cw_region (sr rfl rfl rfl ((q_assign rfl rfl)) (sw_nil (post_then (cw_seq (cw_seq (cw_region (sr rfl rfl rfl ((q_move rfl rfl)) (sr rfl rfl rfl ((q_move rfl rfl)) (sw_step rfl rfl rfl (q_call (CanCall.mk Tryz.call33) rfl (.cons rfl inferInstance (.cons rfl inferInstance (.cons rfl inferInstance (.nil)))) (fun _ w hw => callq hw (sets_spec n sv vs ls 8 w (stb_arg hw hm)))) (sr rfl rfl rfl ((q_not rfl rfl)) (sr rfl rfl rfl ((q_move rfl rfl)) (sr rfl rfl rfl ((q_move rfl rfl)) ?_))))))))))))))
  refine sr rfl rfl rfl ((q_len rfl (.cons rfl inferInstance (.nil)) (by exact fun w hw => Stb.cl (by assumption) hw))) ?_
  refine sr rfl rfl rfl ((q_gtr rfl rfl rfl)) (sr rfl rfl rfl ((q_or2 rfl rfl rfl)) (sw_nil (post_then ?_)))
  refine cw_cond rfl (fun h => ?_) (fun h => ?_)
  · skip
    refine cw_seq (cw_region (sw_step rfl rfl rfl (q_call (CanCall.mk Tryz.call18) rfl (.nil) (fun _ w hw => callq hw (known_spec w))) (sr rfl rfl rfl ((q_assign rfl rfl)) (sw_nil (post_then (cw_ret (post_then_r (post_ret1 rfl (resOk_tmp rfl) ?_))))))))
    exact fun w' hw => ⟨rfl, hw⟩
  · skip
    have hso : setsOk n ls 8 = true := by
      cases h2 : setsOk n ls 8
      · rw [h2] at h; simp at h
      · rfl
    obtain ⟨k1, k2⟩ := setsOk_of hso
    have hg := greedyE_ok hE
    refine cw_skip (post_then (cw_seq (cw_region (sr rfl rfl rfl ((q_move rfl rfl)) (sr rfl rfl rfl ((q_move rfl rfl)) (sr rfl rfl rfl ((q_move rfl rfl)) (sr rfl rfl rfl ((q_move rfl rfl)) ?_)))))))
    refine sw_step rfl rfl rfl (q_call (CanCall.mk Tryz.call39) rfl (.cons rfl inferInstance (.cons rfl inferInstance (.cons rfl inferInstance (.cons rfl inferInstance (.nil))))) (fun _ w hw => callq hw (proves_yes n (by omega) sv vs ls sp prices scale w (stb_arg hw hm) (stb_arg hw hp) hE))) ?_
    refine sr rfl rfl rfl ((q_move rfl rfl)) (sr rfl rfl rfl ((q_extract rfl rfl rfl)) (sr rfl rfl rfl ((q_extract rfl rfl rfl)) (sr rfl rfl rfl ((q_assign rfl rfl)) (sr rfl rfl rfl ((q_assign rfl rfl)) (sw_nil (post_then (cw_seq (cw_region (sr rfl rfl rfl ((q_assign rfl rfl)) (sr rfl rfl rfl ((q_assign rfl rfl)) (sw_nil (post_then (cw_seq (cw_seq (cw_region (sr rfl rfl rfl ((q_move rfl rfl)) (sr rfl rfl rfl ((q_move rfl rfl)) ?_)))))))))))))))))
    refine sw_step rfl rfl rfl (q_call (CanCall.mk Tryz.call35) rfl (.cons rfl inferInstance (.cons rfl inferInstance (.nil))) (fun _ w hw => callq hw (needed_spec n k2 sv vs ls (by omega) w (stb_arg hw hm)))) ?_
    refine sr rfl rfl rfl ((q_assign rfl rfl)) (sw_nil (post_then (cw_seq (cw_region (sr rfl rfl rfl ((q_move rfl rfl)) (sr rfl rfl rfl ((q_eql rfl rfl rfl)) (sr rfl rfl rfl ((q_move rfl rfl)) (sr rfl rfl rfl ((q_move rfl rfl)) (sr rfl rfl rfl ((q_eql rfl rfl rfl)) (sr rfl rfl rfl ((q_or2 rfl rfl rfl)) (sw_nil (post_then ?_))))))))))))
    refine cw_cond rfl (fun h3 => ?_) (fun h3 => ?_)
    · skip
      refine cw_region (sr rfl rfl rfl ((q_move rfl rfl)) (sr rfl rfl rfl ((q_move rfl rfl)) (sr rfl rfl rfl ((q_move rfl rfl)) (sr rfl rfl rfl ((q_move rfl rfl)) ?_))))
      refine sw_step rfl rfl rfl (q_call (CanCall.mk Tryz.call40) rfl (.cons rfl inferInstance (.cons rfl inferInstance (.cons rfl inferInstance (.cons rfl inferInstance (.nil))))) (fun _ w hw => callq hw (refProves_spec n (by omega) sv vs ls q4 sp prices scale w (stb_arg hw hm) (stb_arg hw hp)))) ?_
      refine sr rfl rfl rfl ((q_move rfl rfl)) (sr rfl rfl rfl ((q_extract rfl rfl rfl)) (sr rfl rfl rfl ((q_extract rfl rfl rfl)) (sr rfl rfl rfl ((q_assign rfl rfl)) (sr rfl rfl rfl ((q_assign rfl rfl)) (sw_nil (post_then (cw_seq (cw_region (sr rfl rfl rfl ((q_move rfl rfl)) (sr rfl rfl rfl ((q_move rfl rfl)) (sr rfl rfl rfl ((q_eql rfl rfl rfl)) (sr rfl rfl rfl ((q_move rfl rfl)) (sr rfl rfl rfl ((q_move rfl rfl)) (sr rfl rfl rfl ((q_move rfl rfl)) (sr rfl rfl rfl ((q_eql_b rfl rfl rfl Tryz.underlying4)) (sr rfl rfl rfl ((q_and2 rfl rfl rfl)) (sr rfl rfl rfl ((q_move rfl rfl)) (sw_step rfl rfl rfl (q_call (CanCall.mk Tryz.call18) rfl (.nil) (fun _ w hw => callq hw (known_spec w))) (sr rfl rfl rfl ((q_and2 rfl rfl rfl)) (sr rfl rfl rfl ((q_assign rfl rfl)) (sw_nil (post_then (cw_ret (post_ret1 rfl (resOk_tmp rfl) ?_))))))))))))))))))))))))
      exact fun w' hw => ⟨by simp, hw⟩
    · skip
      exfalso
      rw [hg] at h3
      cases h4 : possN n (msOf ls) <;> rw [h4] at h3 <;> simp at h3
theorem lawProves (n : Int) (hn : -9223372036854775808 ≤ n) (sv : SlV) (vs : List SlV) (ls : List (List Int)) (sp : SlV) (prices : List Int) (scale : Int) (w : World) (hm : Stb w [] (fun w' => Mt w' sv.v vs ls)) (hp : Stb w [] (RdL sp.v prices)) :
    Calls Tryz.prog 8 #[.int .i64 n, sv.v, sp.v, .int .i64 scale] w fun e w' => e = .returned (.bool true) ∧ Cl w [] [] w' := by
  by_cases hE : covE n ls 1000 = 0
  · obtain ⟨m, rfl⟩ : ∃ m : Nat, n = m := ⟨n.toNat, by have := (covE_ok hE).2.2.1; omega⟩
    exact lawProves_ok m sv vs ls sp prices scale w hm hp hE
  · exact lawProves_bad n hn sv vs ls sp prices scale w hm hp hE
end Go.Proofs.YtomjbfeafodfbaaGreat

set_option autoImplicit false
set_option maxRecDepth 100000
namespace Go.Proofs.YtomjbfeafodfbaaGreat
open Go.Sx
open Enc (enc val)
theorem lawPrices_bad (n : Int) (hn : -9223372036854775808 ≤ (n : Int)) (sv : SlV) (vs : List SlV) (ls : List (List Int)) (w : World) (hm : Stb w [] (fun w' => Mt w' sv.v vs ls)) (hE : covE n ls 1000 ≠ 0) :
    Calls Tryz.prog 7 #[.int .i64 n, sv.v] w fun e w' => e = .returned (.bool true) ∧ Cl w [] [] w' := by
  refine calls_cw (vs := [_, _]) Tryz.func7 rfl Tryz.ntmps7 rfl (Cl.start0 w) (cw_seq (cw_region (sr rfl rfl rfl ((q_assign rfl rfl)) (sw_nil (post_then (cw_seq (cw_seq (cw_region (sr rfl rfl rfl ((q_move rfl rfl)) (sr rfl rfl rfl ((q_move rfl rfl)) (sw_step rfl rfl rfl (q_call (CanCall.mk Tryz.call33) rfl (.cons rfl inferInstance (.cons rfl inferInstance (.cons rfl inferInstance (.nil)))) (fun _ w hw => callq hw (sets_spec n sv vs ls 8 w (stb_arg hw hm)))) (sr rfl rfl rfl ((q_not rfl rfl)) (sw_nil (post_then ?_))))))))))))))
  refine cw_cond rfl (fun h => ?_) (fun h => ?_)
  · skip
    refine cw_seq (cw_region (sw_step rfl rfl rfl (q_call (CanCall.mk Tryz.call18) rfl (.nil) (fun _ w hw => callq hw (known_spec w))) (sr rfl rfl rfl ((q_assign rfl rfl)) (sw_nil (post_then (cw_ret (post_then_r (post_ret1 rfl (resOk_tmp rfl) ?_))))))))
    exact fun w' hw => ⟨rfl, hw⟩
  · skip
    have hso : setsOk n ls 8 = true := by
      cases h2 : setsOk n ls 8
      · rw [h2] at h; simp at h
      · rfl
    obtain ⟨k1, k2⟩ := setsOk_of hso
    have hg := greedyE_bad hE
    refine cw_skip (post_then (cw_seq (cw_region (sr rfl rfl rfl ((q_move rfl rfl)) (sr rfl rfl rfl ((q_move rfl rfl)) (sw_step rfl rfl rfl (q_call (CanCall.mk Tryz.call34) rfl (.cons rfl inferInstance (.cons rfl inferInstance (.nil))) (fun _ w hw => callq (v := .tuple #[SlV.v ⟨none, 0, 0⟩, .int .i64 0, .int .i64 (covE n ls 1000)]) hw (price_bad n hn sv vs ls w (stb_arg hw hm) hE))) (sr rfl rfl rfl ((q_move rfl rfl)) (sr rfl rfl rfl ((q_extract rfl rfl rfl)) (sr rfl rfl rfl ((q_extract rfl rfl rfl)) (sr rfl rfl rfl ((q_extract rfl rfl rfl)) (sr rfl rfl rfl ((q_assign rfl rfl)) (sr rfl rfl rfl ((q_assign rfl rfl)) (sr rfl rfl rfl ((q_assign rfl rfl)) (sw_nil (post_then (cw_seq (cw_region (sr rfl rfl rfl ((q_move rfl rfl)) (sr rfl rfl rfl ((q_move rfl rfl)) ?_)))))))))))))))))))
    refine sw_step rfl rfl rfl (q_call (CanCall.mk Tryz.call35) rfl (.cons rfl inferInstance (.cons rfl inferInstance (.nil))) (fun _ w hw => callq hw (needed_spec n k2 sv vs ls (by omega) w (stb_arg hw hm)))) ?_
    refine sr rfl rfl rfl ((q_assign rfl rfl)) (sw_nil (post_then (cw_seq (cw_seq (cw_region (sr rfl rfl rfl ((q_move rfl rfl)) (sr rfl rfl rfl ((q_eql rfl rfl rfl)) (sr rfl rfl rfl ((q_move rfl rfl)) (sr rfl rfl rfl ((q_move rfl rfl)) (sr rfl rfl rfl ((q_eql rfl rfl rfl)) (sr rfl rfl rfl ((q_or2 rfl rfl rfl)) (sr rfl rfl rfl ((q_move rfl rfl)) (sr rfl rfl rfl ((q_move rfl rfl)) (sr rfl rfl rfl ((q_move rfl rfl)) ?_))))))))))))))
    have hno : (decide (greedyE n ls = 0) || decide (greedyE n ls = 5)) = false := by
      rw [hg.1, decide_eq_false hE, decide_eq_false hg.2]; rfl
    rw [hno]
    refine sr rfl rfl rfl ((q_off (v := .int .i64 0) (by simp [AllT]))) ?_
    refine sr rfl rfl rfl ((q_gtr rfl rfl rfl)) (sr rfl rfl rfl ((q_and2 rfl rfl rfl)) (sw_nil (post_then ?_)))
    refine cw_cond rfl (fun h3 => ?_) (fun h3 => ?_)
    · skip
      simp at h3
    · skip
      rw [hg.1]
      refine cw_skip (post_then (cw_seq (cw_seq (cw_region (sr rfl rfl rfl ((q_move rfl rfl)) (sr rfl rfl rfl ((q_neq rfl rfl rfl)) (sw_nil (post_then ?_))))))))
      refine cw_cond rfl (fun h4 => ?_) (fun h4 => ?_)
      · skip
        refine cw_seq (cw_region (sr rfl rfl rfl ((q_move rfl rfl)) (sr rfl rfl rfl ((q_move rfl rfl)) (sr rfl rfl rfl ((q_eql rfl rfl rfl)) (sr rfl rfl rfl ((q_move rfl rfl)) (sr rfl rfl rfl ((q_move rfl rfl)) (sr rfl rfl rfl ((q_lenV rfl (.cons rfl inferInstance (.nil)))) (sr rfl rfl rfl ((q_eql rfl rfl rfl)) (sr rfl rfl rfl ((q_and2 rfl rfl rfl)) (sr rfl rfl rfl ((q_move rfl rfl)) (sr rfl rfl rfl ((q_move rfl rfl)) (sr rfl rfl rfl ((q_eql rfl rfl rfl)) (sr rfl rfl rfl ((q_and2 rfl rfl rfl)) (sr rfl rfl rfl ((q_move rfl rfl)) (sw_step rfl rfl rfl (q_call (CanCall.mk Tryz.call18) rfl (.nil) (fun _ w hw => callq hw (known_spec w))) (sr rfl rfl rfl ((q_and2 rfl rfl rfl)) (sr rfl rfl rfl ((q_assign rfl rfl)) (sw_nil (post_then (cw_ret (post_then_r (post_ret1 rfl (resOk_tmp rfl) ?_))))))))))))))))))))))
        exact fun w' hw => ⟨by simp, hw⟩
      · skip
        simp only [Bool.not_eq_false', decide_eq_true_eq] at h4
        exact absurd h4 hE
theorem lawPrices_wide (n : Nat) (hn : -9223372036854775808 ≤ (n : Int)) (sv : SlV) (vs : List SlV) (ls : List (List Int)) (w : World) (hm : Stb w [] (fun w' => Mt w' sv.v vs ls)) (hE : covE n ls 1000 = 0) (h12 : 12 < wid (msOf ls)) :
    Calls Tryz.prog 7 #[.int .i64 n, sv.v] w fun e w' => e = .returned (.bool true) ∧ Cl w [] [] w' := by
  refine calls_cw (vs := [_, _]) Tryz.func7 rfl Tryz.ntmps7 rfl (Cl.start0 w) (cw_seq (cw_region (sr rfl rfl rfl ((q_assign rfl rfl)) (sw_nil (post_then (cw_seq (cw_seq (cw_region (sr rfl rfl rfl ((q_move rfl rfl)) (sr rfl rfl rfl ((q_move rfl rfl)) (sw_step rfl rfl rfl (q_call (CanCall.mk Tryz.call33) rfl (.cons rfl inferInstance (.cons rfl inferInstance (.cons rfl inferInstance (.nil)))) (fun _ w hw => callq hw (sets_spec n sv vs ls 8 w (stb_arg hw hm)))) (sr rfl rfl rfl ((q_not rfl rfl)) (sw_nil (post_then ?_))))))))))))))
  refine cw_cond rfl (fun h => ?_) (fun h => ?_)
  · skip
    refine cw_seq (cw_region (sw_step rfl rfl rfl (q_call (CanCall.mk Tryz.call18) rfl (.nil) (fun _ w hw => callq hw (known_spec w))) (sr rfl rfl rfl ((q_assign rfl rfl)) (sw_nil (post_then (cw_ret (post_then_r (post_ret1 rfl (resOk_tmp rfl) ?_))))))))
    exact fun w' hw => ⟨rfl, hw⟩
  · skip
    have hso : setsOk n ls 8 = true := by
      cases h2 : setsOk n ls 8
      · rw [h2] at h; simp at h
      · rfl
    obtain ⟨k1, k2⟩ := setsOk_of hso
    obtain ⟨q1, q2, q3, q4⟩ := covE_ok hE
    have hg : decide (greedyE n ls = 0) || decide (greedyE n ls = 5) := by rw [greedyE_ok hE]; split <;> rfl
    refine cw_skip (post_then (cw_seq (cw_region (sr rfl rfl rfl ((q_move rfl rfl)) (sr rfl rfl rfl ((q_move rfl rfl)) ?_)))))
    refine sw_step rfl rfl rfl (q_call (CanCall.mk Tryz.call34) rfl (.cons rfl inferInstance (.cons rfl inferInstance (.nil))) (fun _ w hw => callq (v := .tuple #[SlV.v ⟨none, 0, 0⟩, .int .i64 0, .int .i64 2]) hw (price_wide n (by omega) sv vs ls w (stb_arg hw hm) hE h12))) ?_
    refine sr rfl rfl rfl ((q_move rfl rfl)) (sr rfl rfl rfl ((q_extract rfl rfl rfl)) (sr rfl rfl rfl ((q_extract rfl rfl rfl)) (sr rfl rfl rfl ((q_extract rfl rfl rfl)) (sr rfl rfl rfl ((q_assign rfl rfl)) (sr rfl rfl rfl ((q_assign rfl rfl)) (sr rfl rfl rfl ((q_assign rfl rfl)) (sw_nil (post_then (cw_seq (cw_region (sr rfl rfl rfl ((q_move rfl rfl)) (sr rfl rfl rfl ((q_move rfl rfl)) ?_))))))))))))
    refine sw_step rfl rfl rfl (q_call (CanCall.mk Tryz.call35) rfl (.cons rfl inferInstance (.cons rfl inferInstance (.nil))) (fun _ w hw => callq hw (needed_spec n k2 sv vs ls (by omega) w (stb_arg hw hm)))) ?_
    refine sr rfl rfl rfl ((q_assign rfl rfl)) (sw_nil (post_then (cw_seq (cw_seq (cw_region (sr rfl rfl rfl ((q_move rfl rfl)) (sr rfl rfl rfl ((q_eql rfl rfl rfl)) (sr rfl rfl rfl ((q_move rfl rfl)) (sr rfl rfl rfl ((q_move rfl rfl)) (sr rfl rfl rfl ((q_eql rfl rfl rfl)) (sr rfl rfl rfl ((q_or2 rfl rfl rfl)) (sr rfl rfl rfl ((q_move rfl rfl)) (sr rfl rfl rfl ((q_move rfl rfl)) (sr rfl rfl rfl ((q_move rfl rfl)) ?_))))))))))))))
    refine sw_step rfl rfl rfl (q_call (CanCall.mk Tryz.call36) rfl (.cons rfl inferInstance (.cons rfl inferInstance (.nil))) (fun _ w hw => callq hw (widest_spec n (by omega) sv vs ls q4 w (stb_arg hw hm)))) ?_
    refine sr rfl rfl rfl ((q_gtr rfl rfl rfl)) (sr rfl rfl rfl ((q_and2 rfl rfl rfl)) (sw_nil (post_then ?_)))
    rw [hg]
    refine cw_cond rfl (fun h3 => ?_) (fun h3 => ?_)
    · skip
      refine cw_region (sr rfl rfl rfl ((q_assign rfl rfl)) (sw_nil (post_then (cw_seq (cw_seq (cw_region (sr rfl rfl rfl ((q_move rfl rfl)) (sr rfl rfl rfl ((q_neq rfl rfl rfl)) (sw_nil (post_then ?_))))))))))
      refine cw_cond rfl (fun h4 => ?_) (fun h4 => ?_)
      · skip
        refine cw_seq (cw_region (sr rfl rfl rfl ((q_move rfl rfl)) (sr rfl rfl rfl ((q_move rfl rfl)) (sr rfl rfl rfl ((q_eql rfl rfl rfl)) (sr rfl rfl rfl ((q_move rfl rfl)) (sr rfl rfl rfl ((q_move rfl rfl)) (sr rfl rfl rfl ((q_lenV rfl (.cons rfl inferInstance (.nil)))) (sr rfl rfl rfl ((q_eql rfl rfl rfl)) (sr rfl rfl rfl ((q_and2 rfl rfl rfl)) (sr rfl rfl rfl ((q_move rfl rfl)) (sr rfl rfl rfl ((q_move rfl rfl)) (sr rfl rfl rfl ((q_eql rfl rfl rfl)) (sr rfl rfl rfl ((q_and2 rfl rfl rfl)) (sr rfl rfl rfl ((q_move rfl rfl)) (sw_step rfl rfl rfl (q_call (CanCall.mk Tryz.call18) rfl (.nil) (fun _ w hw => callq hw (known_spec w))) (sr rfl rfl rfl ((q_and2 rfl rfl rfl)) (sr rfl rfl rfl ((q_assign rfl rfl)) (sw_nil (post_then (cw_ret (post_then_r (post_ret1 rfl (resOk_tmp rfl) ?_))))))))))))))))))))))
        exact fun w' hw => ⟨by simp, hw⟩
      · skip
        simp at h4
    · skip
      simp at h3; omega
theorem lawPrices_none (n : Nat) (hn : -9223372036854775808 ≤ (n : Int)) (sv : SlV) (vs : List SlV) (ls : List (List Int)) (w : World) (hm : Stb w [] (fun w' => Mt w' sv.v vs ls)) (hE : covE n ls 1000 = 0) (h12 : wid (msOf ls) ≤ 12) (hP : possN n (msOf ls) = false) :
    Calls Tryz.prog 7 #[.int .i64 n, sv.v] w fun e w' => e = .returned (.bool true) ∧ Cl w [] [] w' := by
  refine calls_cw (vs := [_, _]) Tryz.func7 rfl Tryz.ntmps7 rfl (Cl.start0 w) (cw_seq (cw_region (sr rfl rfl rfl ((q_assign rfl rfl)) (sw_nil (post_then (cw_seq (cw_seq (cw_region (sr rfl rfl rfl ((q_move rfl rfl)) (sr rfl rfl rfl ((q_move rfl rfl)) (sw_step rfl rfl rfl (q_call (CanCall.mk Tryz.call33) rfl (.cons rfl inferInstance (.cons rfl inferInstance (.cons rfl inferInstance (.nil)))) (fun _ w hw => callq hw (sets_spec n sv vs ls 8 w (stb_arg hw hm)))) (sr rfl rfl rfl ((q_not rfl rfl)) (sw_nil (post_then ?_))))))))))))))
  refine cw_cond rfl (fun h => ?_) (fun h => ?_)
  · skip
    refine cw_seq (cw_region (sw_step rfl rfl rfl (q_call (CanCall.mk Tryz.call18) rfl (.nil) (fun _ w hw => callq hw (known_spec w))) (sr rfl rfl rfl ((q_assign rfl rfl)) (sw_nil (post_then (cw_ret (post_then_r (post_ret1 rfl (resOk_tmp rfl) ?_))))))))
    exact fun w' hw => ⟨rfl, hw⟩
  · skip
    have hso : setsOk n ls 8 = true := by
      cases h2 : setsOk n ls 8
      · rw [h2] at h; simp at h
      · rfl
    obtain ⟨k1, k2⟩ := setsOk_of hso
    obtain ⟨q1, q2, q3, q4⟩ := covE_ok hE
    have hg : greedyE n ls = 5 := by rw [greedyE_ok hE, hP]; rfl
    refine cw_skip (post_then (cw_seq (cw_region (sr rfl rfl rfl ((q_move rfl rfl)) (sr rfl rfl rfl ((q_move rfl rfl)) ?_)))))
    refine sw_step rfl rfl rfl (q_call (CanCall.mk Tryz.call34) rfl (.cons rfl inferInstance (.cons rfl inferInstance (.nil))) (fun _ w hw => callq (v := .tuple #[SlV.v ⟨none, 0, 0⟩, .int .i64 0, .int .i64 5]) hw (price_none n (by omega) sv vs ls w (stb_arg hw hm) hE h12 hP))) ?_
    refine sr rfl rfl rfl ((q_move rfl rfl)) (sr rfl rfl rfl ((q_extract rfl rfl rfl)) (sr rfl rfl rfl ((q_extract rfl rfl rfl)) (sr rfl rfl rfl ((q_extract rfl rfl rfl)) (sr rfl rfl rfl ((q_assign rfl rfl)) (sr rfl rfl rfl ((q_assign rfl rfl)) (sr rfl rfl rfl ((q_assign rfl rfl)) (sw_nil (post_then (cw_seq (cw_region (sr rfl rfl rfl ((q_move rfl rfl)) (sr rfl rfl rfl ((q_move rfl rfl)) ?_))))))))))))
    refine sw_step rfl rfl rfl (q_call (CanCall.mk Tryz.call35) rfl (.cons rfl inferInstance (.cons rfl inferInstance (.nil))) (fun _ w hw => callq hw (needed_spec n k2 sv vs ls (by omega) w (stb_arg hw hm)))) ?_
    refine sr rfl rfl rfl ((q_assign rfl rfl)) (sw_nil (post_then (cw_seq (cw_seq (cw_region (sr rfl rfl rfl ((q_move rfl rfl)) (sr rfl rfl rfl ((q_eql rfl rfl rfl)) (sr rfl rfl rfl ((q_move rfl rfl)) (sr rfl rfl rfl ((q_move rfl rfl)) (sr rfl rfl rfl ((q_eql rfl rfl rfl)) (sr rfl rfl rfl ((q_or2 rfl rfl rfl)) (sr rfl rfl rfl ((q_move rfl rfl)) (sr rfl rfl rfl ((q_move rfl rfl)) (sr rfl rfl rfl ((q_move rfl rfl)) ?_))))))))))))))
    refine sw_step rfl rfl rfl (q_call (CanCall.mk Tryz.call36) rfl (.cons rfl inferInstance (.cons rfl inferInstance (.nil))) (fun _ w hw => callq hw (widest_spec n (by omega) sv vs ls q4 w (stb_arg hw hm)))) ?_
    refine sr rfl rfl rfl ((q_gtr rfl rfl rfl)) (sr rfl rfl rfl ((q_and2 rfl rfl rfl)) (sw_nil (post_then ?_)))
    rw [hg]
    refine cw_cond rfl (fun h3 => ?_) (fun h3 => ?_)
    · skip
      simp at h3; omega
    · skip
      refine cw_skip (post_then (cw_seq (cw_seq (cw_region (sr rfl rfl rfl ((q_move rfl rfl)) (sr rfl rfl rfl ((q_neq rfl rfl rfl)) (sw_nil (post_then ?_))))))))
      refine cw_cond rfl (fun h4 => ?_) (fun h4 => ?_)
      · skip
        refine cw_seq (cw_region (sr rfl rfl rfl ((q_move rfl rfl)) (sr rfl rfl rfl ((q_move rfl rfl)) (sr rfl rfl rfl ((q_eql rfl rfl rfl)) (sr rfl rfl rfl ((q_move rfl rfl)) (sr rfl rfl rfl ((q_move rfl rfl)) (sr rfl rfl rfl ((q_lenV rfl (.cons rfl inferInstance (.nil)))) (sr rfl rfl rfl ((q_eql rfl rfl rfl)) (sr rfl rfl rfl ((q_and2 rfl rfl rfl)) (sr rfl rfl rfl ((q_move rfl rfl)) (sr rfl rfl rfl ((q_move rfl rfl)) (sr rfl rfl rfl ((q_eql rfl rfl rfl)) (sr rfl rfl rfl ((q_and2 rfl rfl rfl)) (sr rfl rfl rfl ((q_move rfl rfl)) (sw_step rfl rfl rfl (q_call (CanCall.mk Tryz.call18) rfl (.nil) (fun _ w hw => callq hw (known_spec w))) (sr rfl rfl rfl ((q_and2 rfl rfl rfl)) (sr rfl rfl rfl ((q_assign rfl rfl)) (sw_nil (post_then (cw_ret (post_then_r (post_ret1 rfl (resOk_tmp rfl) ?_))))))))))))))))))))))
        exact fun w' hw => ⟨by simp, hw⟩
      · skip
        simp at h4
theorem lawPrices_yes (n : Nat) (hn : -9223372036854775808 ≤ (n : Int)) (sv : SlV) (vs : List SlV) (ls : List (List Int)) (w : World) (hm : Stb w [] (fun w' => Mt w' sv.v vs ls)) (hE : covE n ls 1000 = 0) (h12 : wid (msOf ls) ≤ 12) (hP : possN n (msOf ls) = true) :
    Calls Tryz.prog 7 #[.int .i64 n, sv.v] w fun e w' => e = .returned (.bool true) ∧ Cl w [] [] w' := by
  refine calls_cw (vs := [_, _]) Tryz.func7 rfl Tryz.ntmps7 rfl (Cl.start0 w) (cw_seq (cw_region (sr rfl rfl rfl ((q_assign rfl rfl)) (sw_nil (post_then (cw_seq (cw_seq (cw_region (sr rfl rfl rfl ((q_move rfl rfl)) (sr rfl rfl rfl ((q_move rfl rfl)) (sw_step rfl rfl rfl (q_call (CanCall.mk Tryz.call33) rfl (.cons rfl inferInstance (.cons rfl inferInstance (.cons rfl inferInstance (.nil)))) (fun _ w hw => callq hw (sets_spec n sv vs ls 8 w (stb_arg hw hm)))) (sr rfl rfl rfl ((q_not rfl rfl)) (sw_nil (post_then ?_))))))))))))))
  refine cw_cond rfl (fun h => ?_) (fun h => ?_)
  · skip
    refine cw_seq (cw_region (sw_step rfl rfl rfl (q_call (CanCall.mk Tryz.call18) rfl (.nil) (fun _ w hw => callq hw (known_spec w))) (sr rfl rfl rfl ((q_assign rfl rfl)) (sw_nil (post_then (cw_ret (post_then_r (post_ret1 rfl (resOk_tmp rfl) ?_))))))))
    exact fun w' hw => ⟨rfl, hw⟩
  · skip
    have hso : setsOk n ls 8 = true := by
      cases h2 : setsOk n ls 8
      · rw [h2] at h; simp at h
      · rfl
    obtain ⟨k1, k2⟩ := setsOk_of hso
    obtain ⟨q1, q2, q3, q4⟩ := covE_ok hE
    have hg : greedyE n ls = 0 := by rw [greedyE_ok hE, hP]; rfl
    refine cw_skip (post_then (cw_seq (cw_region (sr rfl rfl rfl ((q_move rfl rfl)) (sr rfl rfl rfl ((q_move rfl rfl)) ?_)))))
    refine sw_x rfl rfl rfl (e_call (CanCall.mk Tryz.call34) rfl (.cons rfl inferInstance (.cons rfl inferInstance (.nil))) (fun w hw => price_yes n (by omega) sv vs ls w (stb_arg hw hm) hE (by omega) h12 hP)) (fun z => ?_)
    refine sw_imp fun hz => ?_
    obtain ⟨sp, ⟨lp, ⟨kp, lq⟩⟩⟩ := z
    dsimp only at hz ⊢
    obtain ⟨hz1, hz2⟩ := hz
    refine sr rfl rfl rfl ((q_move rfl rfl)) (sr rfl rfl rfl ((q_extract rfl rfl rfl)) (sr rfl rfl rfl ((q_extract rfl rfl rfl)) (sr rfl rfl rfl ((q_extract rfl rfl rfl)) (sr rfl rfl rfl ((q_assign rfl rfl)) (sr rfl rfl rfl ((q_assign rfl rfl)) (sr rfl rfl rfl ((q_assign rfl rfl)) (sw_nil (post_then (cw_seq (cw_region (sr rfl rfl rfl ((q_move rfl rfl)) (sr rfl rfl rfl ((q_move rfl rfl)) ?_))))))))))))
    refine sw_step rfl rfl rfl (q_call (CanCall.mk Tryz.call35) rfl (.cons rfl inferInstance (.cons rfl inferInstance (.nil))) (fun _ w hw => callq hw (needed_spec n k2 sv vs ls (by omega) w (stb_arg hw hm)))) ?_
    refine sr rfl rfl rfl ((q_assign rfl rfl)) (sw_nil (post_then (cw_seq (cw_seq (cw_region (sr rfl rfl rfl ((q_move rfl rfl)) (sr rfl rfl rfl ((q_eql rfl rfl rfl)) (sr rfl rfl rfl ((q_move rfl rfl)) (sr rfl rfl rfl ((q_move rfl rfl)) (sr rfl rfl rfl ((q_eql rfl rfl rfl)) (sr rfl rfl rfl ((q_or2 rfl rfl rfl)) (sr rfl rfl rfl ((q_move rfl rfl)) (sr rfl rfl rfl ((q_move rfl rfl)) (sr rfl rfl rfl ((q_move rfl rfl)) ?_))))))))))))))
    refine sw_step rfl rfl rfl (q_call (CanCall.mk Tryz.call36) rfl (.cons rfl inferInstance (.cons rfl inferInstance (.nil))) (fun _ w hw => callq hw (widest_spec n (by omega) sv vs ls q4 w (stb_arg hw hm)))) ?_
    refine sr rfl rfl rfl ((q_gtr rfl rfl rfl)) (sr rfl rfl rfl ((q_and2 rfl rfl rfl)) (sw_nil (post_then ?_)))
    rw [hg]
    refine cw_cond rfl (fun h3 => ?_) (fun h3 => ?_)
    · skip
      simp at h3; omega
    · skip
      refine cw_skip (post_then (cw_seq (cw_seq (cw_region (sr rfl rfl rfl ((q_move rfl rfl)) (sr rfl rfl rfl ((q_neq rfl rfl rfl)) (sw_nil (post_then ?_))))))))
      refine cw_cond rfl (fun h4 => ?_) (fun h4 => ?_)
      · skip
        simp at h4
      · skip
        refine cw_skip (post_then (cw_seq (cw_region (sr rfl rfl rfl ((q_move rfl rfl)) (sr rfl rfl rfl ((q_move rfl rfl)) ?_)))))
        refine sw_x rfl rfl rfl (e_call (CanCall.mk Tryz.call37) rfl (.cons rfl inferInstance (.cons rfl inferInstance (.nil))) (fun w hw => refGreedy_yes n (by omega) sv vs ls (by omega) q4 w (stb_arg hw hm) hP)) (fun z => ?_)
        refine sw_imp fun hz => ?_
        obtain ⟨⟨so, sre⟩, kr⟩ := z
        dsimp only at hz ⊢
        obtain rfl := done_one hz2.ok hz2.full hz.ok hz.full
        refine sr rfl rfl rfl ((q_move rfl rfl)) (sr rfl rfl rfl ((q_extract rfl rfl rfl)) (sr rfl rfl rfl ((q_extract rfl rfl rfl)) (sr rfl rfl rfl ((q_extract rfl rfl rfl)) (sr rfl rfl rfl ((q_assign rfl rfl)) (sr rfl rfl rfl ((q_assign rfl rfl)) (sr rfl rfl rfl ((q_assign rfl rfl)) (sw_nil (post_then (cw_seq (cw_region (sr rfl rfl rfl ((q_move rfl rfl)) (sr rfl rfl rfl ((q_eql rfl rfl rfl)) (sr rfl rfl rfl ((q_move rfl rfl)) (sr rfl rfl rfl ((q_move rfl rfl)) (sr rfl rfl rfl ((q_move rfl rfl)) ?_)))))))))))))))
        refine sw_step rfl rfl rfl (q_call (CanCall.mk Tryz.call23) rfl (.cons rfl inferInstance (.cons rfl inferInstance (.nil))) (fun _ w hw => callq hw (same_true _ _ lp (priceL (giter n (msOf ls) kp).sh) hz1 w (stb_own (e := 3) hw (by exact .tail _ (.tail _ (.head _)))) (stb_own (e := 3) hw (by exact .tail _ (.head _)))))) ?_
        refine sr rfl rfl rfl ((q_and2 rfl rfl rfl)) (sr rfl rfl rfl ((q_move rfl rfl)) (sr rfl rfl rfl ((q_move rfl rfl)) (sr rfl rfl rfl ((q_move rfl rfl)) (sr rfl rfl rfl ((q_move rfl rfl)) ?_))))
        refine sw_step rfl rfl rfl (q_call (CanCall.mk Tryz.call36) rfl (.cons rfl inferInstance (.cons rfl inferInstance (.nil))) (fun _ w hw => callq hw (widest_spec n (by omega) sv vs ls q4 w (stb_arg hw hm)))) ?_
        refine sw_step rfl rfl rfl (q_call (CanCall.mk Tryz.call38) rfl (.cons rfl inferInstance (.nil)) (fun _ w hw => callq hw (scale_spec (wid (msOf ls)) (by omega) w))) ?_
        refine sr rfl rfl rfl ((q_eql rfl rfl rfl)) (sr rfl rfl rfl ((q_and2 rfl rfl rfl)) (sr rfl rfl rfl ((q_move rfl rfl)) (sw_step rfl rfl rfl (q_call (CanCall.mk Tryz.call18) rfl (.nil) (fun _ w hw => callq hw (known_spec w))) (sr rfl rfl rfl ((q_and2 rfl rfl rfl)) (sr rfl rfl rfl ((q_assign rfl rfl)) (sw_nil (post_then (cw_ret (post_ret1 rfl (resOk_tmp rfl) ?_)))))))))
        exact fun w' hw => ⟨by simp, (fun w h => Cl.sel (by exact .nil _) w h) _ hw⟩
theorem lawPrices (n : Int) (hn : -9223372036854775808 ≤ n) (sv : SlV) (vs : List SlV) (ls : List (List Int)) (w : World) (hm : Stb w [] (fun w' => Mt w' sv.v vs ls)) :
    Calls Tryz.prog 7 #[.int .i64 n, sv.v] w fun e w' => e = .returned (.bool true) ∧ Cl w [] [] w' := by
  by_cases hE : covE n ls 1000 = 0
  · obtain ⟨m, rfl⟩ : ∃ m : Nat, n = m := ⟨n.toNat, by have := (covE_ok hE).2.2.1; omega⟩
    by_cases h12 : 12 < wid (msOf ls)
    · exact lawPrices_wide m hn sv vs ls w hm hE h12
    · cases hP : possN m (msOf ls)
      · exact lawPrices_none m hn sv vs ls w hm hE (by omega) hP
      · exact lawPrices_yes m hn sv vs ls w hm hE (by omega) hP
  · exact lawPrices_bad n hn sv vs ls w hm hE
end Go.Proofs.YtomjbfeafodfbaaGreat

/- Prices prove bounds on covers; the greedy cover's prices. Plain lemmas, no program text. -/
set_option autoImplicit false
namespace Go.Sx
theorem psum_full (l : List Int) (n : Nat) : ∀ k, k ≤ n → psum l (fullN n) k = sumTo l k
  | 0, _ => rfl
  | k + 1, h => by rw [psum, sumTo, psum_full l n k (by omega), fullN_bit, if_pos (by simp; omega)]
theorem psum_or {l : List Int} (h : ∀ k, 0 ≤ nth l k) (a b : Nat) : ∀ k, psum l (a ||| b) k ≤ psum l a k + psum l b k
  | 0 => by simp [psum]
  | k + 1 => by
    have ih := psum_or h a b k
    have hk := h k
    simp only [psum, Nat.testBit_or, Bool.or_eq_true]
    by_cases h1 : a.testBit k = true <;> by_cases h2 : b.testBit k = true <;> simp only [h1, h2, if_true, or_true, true_or, or_self, if_false] <;> simp <;> omega
theorem psum_mono {l : List Int} (h : ∀ k, 0 ≤ nth l k) {a b : Nat} (hab : ∀ i, a.testBit i = true → b.testBit i = true) : ∀ k, psum l a k ≤ psum l b k
  | 0 => by simp [psum]
  | k + 1 => by
    have ih := psum_mono h hab k
    have hk := h k
    have hb := hab k
    simp only [psum]
    by_cases h1 : a.testBit k = true
    · rw [if_pos h1, if_pos (hb h1)]; omega
    · rw [if_neg h1]; split <;> omega
/-- All the numbers of some sets. -/
def unL (ms : List Nat) : List Int → Nat
  | [] => 0
  | i :: c => nth ms i.toNat ||| unL ms c
theorem unL_bit (ms : List Nat) (x : Nat) : ∀ c : List Int, (unL ms c).testBit x = true ↔ ∃ i ∈ c, (nth ms i.toNat).testBit x = true
  | [] => by simp [unL]
  | i :: c => by rw [unL, Nat.testBit_or, Bool.or_eq_true, unL_bit ms x c]; simp
def Cvr (n : Nat) (ms : List Nat) (c : List Int) : Prop := ∀ x, x < n → (unL ms c).testBit x = true
/-- Each set costs at most the scale: so no cover has few sets. -/
theorem cover_bound {n : Nat} {ms : List Nat} {l : List Int} {s : Int} (h0 : ∀ k, 0 ≤ nth l k) (hs0 : 0 ≤ s) (hs : ∀ i, i < ms.length → psum l (nth ms i) n ≤ s) {c : List Int} (hc : Cvr n ms c) : sumTo l n ≤ s * c.length := by
  have key : ∀ c : List Int, psum l (unL ms c) n ≤ s * c.length := by
    intro c
    induction c with
    | nil =>
      have : ∀ q, psum l 0 q = 0 := by
        intro q
        induction q with
        | zero => rfl
        | succ q ih => simp [psum, ih]
      simp [unL, this]
    | cons i c ih =>
      have h1 := psum_or h0 (nth ms i.toNat) (unL ms c) n
      have h2 : psum l (nth ms i.toNat) n ≤ s := by
        by_cases hi : i.toNat < ms.length
        · exact hs _ hi
        · have e : nth ms i.toNat = 0 := by simp only [nth, List.getD, List.getElem?_eq_none (show ms.length ≤ i.toNat by omega)]; rfl
          have : ∀ q, psum l 0 q = 0 := by
            intro q
            induction q with
            | zero => rfl
            | succ q ih => simp [psum, ih]
          rw [e, this]; exact hs0
      have e : s * ((i :: c).length : Int) = s + s * c.length := by rw [List.length_cons, Int.natCast_add, Int.mul_add]; simp; omega
      rw [unL, e]; omega
  rw [← psum_full l n n (Nat.le_refl _)]
  refine Int.le_trans (psum_mono h0 (fun i hi => ?_) n) (key c)
  rw [fullN_bit, decide_eq_true_eq] at hi
  exact hc i hi
theorem ceil_le {a s : Int} {k : Nat} (hs : 1 ≤ s) (h : a ≤ s * k) : (a + s - 1) / s ≤ k := by
  have : (a + s - 1) / s < (k : Int) + 1 := by
    apply Int.ediv_lt_of_lt_mul (by omega)
    rw [Int.add_mul, Int.one_mul, Int.mul_comm (k : Int) s]
    omega
  omega
def prcL (sh : List Int) : List Int := sh.map fun k => 27720 / k
theorem prcL_nth {sh : List Int} {j : Nat} (h : j < sh.length) : nth (prcL sh) j = 27720 / nth sh j := by
  rw [nth_get (by simpa [prcL] using h), nth_get h]; simp [prcL]
theorem psum_step {n : Nat} {g mi m : Nat} {most : Int} {sh : List Int} (hl : sh.length = n) (h0 : ∀ x, x < n → g.testBit x = false → nth sh x = 0) : ∀ k, k ≤ n →
    psum (prcL (shUp n g mi most sh n)) m k = psum (prcL sh) m k + (27720 / most) * sumB (fun x => m.testBit x && (mi.testBit x && !g.testBit x)) k
  | 0, _ => by simp [psum, sumB]
  | k + 1, hk => by
    have ih := psum_step hl h0 (mi := mi) (m := m) (most := most) k (by omega)
    have hl2 := shUp_len n g mi most sh n
    have e1 := prcL_nth (sh := shUp n g mi most sh n) (j := k) (by omega)
    have e2 := prcL_nth (sh := sh) (j := k) (by omega)
    have e3 := shUp_nth n g mi most sh (by omega) n (Nat.le_refl _) k
    rw [psum, psum, sumB, ih, e1, e2, e3]
    have hk' : k < n := by omega
    simp only [hk', true_and]
    by_cases hm : m.testBit k = true
    · rw [if_pos hm, if_pos hm]
      by_cases h1 : mi.testBit k = true ∧ g.testBit k = false
      · rw [if_pos h1, h0 k hk' h1.2]
        simp only [hm, h1.1, h1.2, Bool.not_false, Bool.and_self, Bool.toNat_true]
        rw [Int.natCast_add, Int.mul_add]; simp; omega
      · rw [if_neg h1]
        have : (m.testBit k && (mi.testBit k && !g.testBit k)) = false := by
          cases a : mi.testBit k <;> cases b : g.testBit k <;> simp_all
        rw [this]; simp
        omega
    · rw [if_neg hm, if_neg hm]
      have : m.testBit k = false := by simpa using hm
      rw [this]; simp
theorem giter_zero {n : Nat} {ms : List Nat} : ∀ {k : Nat}, GOk n ms k → ∀ x, x < n → (giter n ms k).g.testBit x = false → nth (giter n ms k).sh x = 0
  | 0, _, x, hx, _ => by simp only [giter]; rw [nth_get (by simpa using hx)]; simp
  | k + 1, hk, x, hx, h => by
    obtain ⟨_, i, h2, h3, h4⟩ := hk k (by omega)
    have h5 := giter_sh n ms k
    simp only [giter, gstep, h3, Int.toNat_natCast] at h ⊢
    rw [Nat.testBit_or, Bool.or_eq_false_iff] at h
    rw [shUp_nth _ _ _ _ _ (by omega) n (Nat.le_refl _), if_neg (by simp [h.2])]
    exact giter_zero (fun j hj => hk j (by omega)) x hx h.1
theorem sumB_less {f : Nat → Bool} {n : Nat} (h : ∀ i, f i = true → i < n) : ∀ {k : Nat}, n ≤ k → sumB f k = sumB f n := by
  intro k hk
  induction k with
  | zero => have : n = 0 := by omega
            rw [this]
  | succ k ih =>
    by_cases e : n = k + 1
    · rw [e]
    · have : f k = false := by
        cases hf : f k
        · rfl
        · have := h k hf; omega
      rw [sumB, this, ih (by omega)]; simp
theorem fr_split {g mi m : Nat} : fr g m = fr (g ||| mi) m + sumB (fun x => m.testBit x && (mi.testBit x && !g.testBit x)) 32 := by
  rw [fr_sum, fr_sum]
  refine sumB_add fun i _ => ?_
  rw [Nat.testBit_or]
  cases m.testBit i <;> cases mi.testBit i <;> cases g.testBit i <;> rfl
theorem div_le {a b : Nat} (h0 : 0 < a) (h : a ≤ b) : (27720 : Int) / (b : Int) ≤ 27720 / (a : Int) := by
  have h1 : 27720 / b ≤ 27720 / a := Nat.div_le_div_left h h0
  have e1 : ((27720 / b : Nat) : Int) = (27720 : Int) / (b : Int) := Int.natCast_ediv 27720 b
  have e2 : ((27720 / a : Nat) : Int) = (27720 : Int) / (a : Int) := Int.natCast_ediv 27720 a
  rw [← e1, ← e2]
  exact Int.ofNat_le.2 h1
theorem scale_gap {r most : Nat} (hr : r ≤ most) : ∀ c, c ≤ r → (27720 / (most : Int)) * c ≤ scaleTo r - scaleTo (r - c)
  | 0, _ => by simp
  | c + 1, hc => by
    have ih := scale_gap hr c (by omega)
    obtain ⟨q, hq⟩ : ∃ q, r - (c + 1) = q := ⟨_, rfl⟩
    have e : r - c = q + 1 := by omega
    rw [e, scaleTo] at ih
    rw [hq]
    have h1 := div_le (a := q + 1) (b := most) (by omega) (by omega)
    rw [Int.natCast_add] at h1
    rw [Int.natCast_add, Int.mul_add]
    simp only [Int.natCast_one, Int.mul_one] at *
    have e1 : ((1 : Nat) : Int) = 1 := rfl
    omega
theorem scaleTo_mono {a b : Nat} (h : a ≤ b) : scaleTo a ≤ scaleTo b := by
  induction b with
  | zero => have : a = 0 := by omega
            rw [this]; exact Int.le_refl _
  | succ b ih =>
    by_cases e : a = b + 1
    · rw [e]; exact Int.le_refl _
    · have h1 : (0 : Int) ≤ 27720 / ((b : Int) + 1) := Int.ediv_nonneg (by decide) (by omega)
      have := ih (by omega)
      simp only [scaleTo]; omega
theorem fr_best {ms : List Nat} {g i : Nat} (hb : best ms g = ((i : Int), fr g (nth ms i))) {j : Nat} (hj : j < ms.length) : fr g (nth ms j) ≤ fr g (nth ms i) := by
  rcases bestTo_spec ms g ms.length with ⟨h1, h2⟩ | ⟨i', h1, h2, h3, h4⟩
  · rw [h2 j hj]; exact Nat.zero_le _
  · have h5 : best ms g = ((i' : Int), fr g (nth ms i')) := h2
    rw [hb] at h5
    simp only [Prod.mk.injEq] at h5
    rw [h5.2]; exact h4 j hj
/-- What is paid in a set, and may yet be paid. -/
theorem paid {n : Nat} {ms : List Nat} (hn : n ≤ 32) (hm : MsOk n ms) {j : Nat} (hj : j < ms.length) : ∀ {k : Nat}, GOk n ms k → psum (prcL (giter n ms k).sh) (nth ms j) n + scaleTo (fr (giter n ms k).g (nth ms j)) ≤ scaleTo (fr 0 (nth ms j))
  | 0, _ => by
    have : ∀ q, q ≤ n → psum (prcL (List.replicate n (0 : Int))) (nth ms j) q = 0 := by
      intro q
      induction q with
      | zero => intro _; rfl
      | succ q ih =>
        intro hq
        rw [psum, ih (by omega), prcL_nth (by rw [List.length_replicate]; omega), nth_get (show q < (List.replicate n (0 : Int)).length by rw [List.length_replicate]; omega)]
        simp
    simp only [giter]
    rw [this n (Nat.le_refl _)]; omega
  | k + 1, hk => by
    have ih := paid hn hm hj (k := k) (fun j hj => hk j (by omega))
    obtain ⟨_, i, h2, h3, h4⟩ := hk k (by omega)
    have hz := giter_zero (k := k) (fun j hj => hk j (by omega))
    have hl := giter_sh n ms k
    have hs := psum_step (n := n) (g := (giter n ms k).g) (mi := nth ms i) (m := nth ms j) (most := fr (giter n ms k).g (nth ms i)) hl hz n (Nat.le_refl _)
    have hf := fr_split (g := (giter n ms k).g) (mi := nth ms i) (m := nth ms j)
    have hb := fr_best h3 hj
    have hc : sumB (fun x => (nth ms j).testBit x && ((nth ms i).testBit x && !(giter n ms k).g.testBit x)) 32 = sumB (fun x => (nth ms j).testBit x && ((nth ms i).testBit x && !(giter n ms k).g.testBit x)) n := by
      refine sumB_less (fun x hx => ?_) hn
      exact msOk_nth hm j x (by simp only [Bool.and_eq_true] at hx; exact hx.1)
    rw [hc] at hf
    have hg := scale_gap (r := fr (giter n ms k).g (nth ms j)) (most := fr (giter n ms k).g (nth ms i)) hb (sumB (fun x => (nth ms j).testBit x && ((nth ms i).testBit x && !(giter n ms k).g.testBit x)) n) (by omega)
    have he : fr (giter n ms k).g (nth ms j) - sumB (fun x => (nth ms j).testBit x && ((nth ms i).testBit x && !(giter n ms k).g.testBit x)) n = fr ((giter n ms k).g ||| nth ms i) (nth ms j) := by omega
    rw [he] at hg
    simp only [giter, gstep, h3, Int.toNat_natCast]
    rw [hs]
    omega
theorem wid_le {ms : List Nat} {j : Nat} (hj : j < ms.length) : fr 0 (nth ms j) ≤ wid ms := by
  have key : ∀ k, j < k → fr 0 (nth ms j) ≤ widTo ms k := by
    intro k
    induction k with
    | zero => intro h; omega
    | succ k ih =>
      intro h
      rw [widTo]
      by_cases e : j = k
      · subst e; omega
      · have := ih (by omega); omega
  exact key _ hj
theorem price_nonneg {sh : List Int} (h : ∀ k, 0 ≤ nth sh k) (k : Nat) : 0 ≤ nth (prcL sh) k ∧ nth (prcL sh) k ≤ 27720 := by
  by_cases hk : k < sh.length
  · rw [prcL_nth hk]
    exact ⟨Int.ediv_nonneg (by decide) (h k), Int.ediv_le_self _ (by decide)⟩
  · have : nth (prcL sh) k = 0 := by simp only [nth, List.getD]; rw [List.getElem?_eq_none (by simp [prcL]; omega)]; rfl
    rw [this]; omega
theorem giter_nonneg {n : Nat} {ms : List Nat} {k : Nat} (hk : GOk n ms k) (x : Nat) : 0 ≤ nth (giter n ms k).sh x := by
  by_cases hx : x < n
  · by_cases hb : (giter n ms k).g.testBit x = true
    · have := (giter_share hk x hx hb).1; omega
    · rw [giter_zero hk x hx (by simpa using hb)]; exact Int.le_refl _
  · have : nth (giter n ms k).sh x = 0 := by simp only [nth, List.getD]; rw [List.getElem?_eq_none (by rw [giter_sh]; omega)]; rfl
    rw [this]; exact Int.le_refl _
/-- The prices of the greedy cover never exceed the scale in a set. -/
theorem greedy_proves {n : Nat} {ms : List Nat} (hn : n ≤ 32) (hm : MsOk n ms) {k : Nat} (hk : GOk n ms k) {j : Nat} (hj : j < ms.length) : psum (prcL (giter n ms k).sh) (nth ms j) n ≤ scaleTo (wid ms) := by
  have h1 := paid hn hm hj hk
  have h2 := scaleTo_bd (fr (giter n ms k).g (nth ms j))
  have h3 := scaleTo_mono (wid_le hj)
  omega
theorem twelve {k : Nat} (h1 : 1 ≤ k) (h2 : k ≤ 12) : (27720 / (k : Int)) * k = 27720 := by
  have : k = 1 ∨ k = 2 ∨ k = 3 ∨ k = 4 ∨ k = 5 ∨ k = 6 ∨ k = 7 ∨ k = 8 ∨ k = 9 ∨ k = 10 ∨ k = 11 ∨ k = 12 := by omega
  rcases this with rfl | rfl | rfl | rfl | rfl | rfl | rfl | rfl | rfl | rfl | rfl | rfl <;> decide
/-- All that is paid. -/
theorem greedy_sum {n : Nat} {ms : List Nat} (hn : n ≤ 32) (hm : MsOk n ms) (hw : wid ms ≤ 12) : ∀ {k : Nat}, GOk n ms k → sumTo (prcL (giter n ms k).sh) n = 27720 * (k : Int)
  | 0, _ => by
    have : ∀ q, q ≤ n → sumTo (prcL (List.replicate n (0 : Int))) q = 0 := by
      intro q
      induction q with
      | zero => intro _; rfl
      | succ q ih =>
        intro hq
        rw [sumTo, ih (by omega), prcL_nth (by rw [List.length_replicate]; omega), nth_get (show q < (List.replicate n (0 : Int)).length by rw [List.length_replicate]; omega)]
        simp
    simp only [giter]
    rw [this n (Nat.le_refl _)]; rfl
  | k + 1, hk => by
    have ih := greedy_sum hn hm hw (k := k) (fun j hj => hk j (by omega))
    obtain ⟨_, i, h2, h3, h4⟩ := hk k (by omega)
    have hz := giter_zero (k := k) (fun j hj => hk j (by omega))
    have hl := giter_sh n ms k
    have hs := psum_step (n := n) (g := (giter n ms k).g) (mi := nth ms i) (m := fullN n) (most := fr (giter n ms k).g (nth ms i)) hl hz n (Nat.le_refl _)
    rw [psum_full _ n n (Nat.le_refl _), psum_full _ n n (Nat.le_refl _), ih] at hs
    have hc : sumB (fun x => (fullN n).testBit x && ((nth ms i).testBit x && !(giter n ms k).g.testBit x)) n = fr (giter n ms k).g (nth ms i) := by
      rw [fr_sum]
      have h5 : sumB (fun x => (nth ms i).testBit x && !(giter n ms k).g.testBit x) 32 = sumB (fun x => (nth ms i).testBit x && !(giter n ms k).g.testBit x) n := sumB_less (fun x hx => msOk_nth hm i x (by simp only [Bool.and_eq_true] at hx; exact hx.1)) hn
      rw [h5]
      refine sumB_congr fun x hx => ?_
      rw [fullN_bit]; simp [hx]
    rw [hc] at hs
    have h6 := wid_le h2
    have h7 : fr (giter n ms k).g (nth ms i) ≤ fr 0 (nth ms i) := by
      have := fr_mono (g := 0) (m := nth ms i) (m' := (giter n ms k).g)
      simpa using this
    rw [twelve (by omega) (by omega)] at hs
    simp only [giter, gstep, h3, Int.toNat_natCast]
    rw [hs, Int.natCast_add, Int.mul_add]; rfl
theorem greedy_covers {n : Nat} {ms : List Nat} : ∀ {k : Nat}, GOk n ms k → ∀ x, (giter n ms k).g.testBit x = true → (unL ms (giter n ms k).out).testBit x = true
  | 0, _, x, h => by simp [giter] at h
  | k + 1, hk, x, h => by
    obtain ⟨_, i, h2, h3, h4⟩ := hk k (by omega)
    simp only [giter, gstep, h3, Int.toNat_natCast, Nat.testBit_or, Bool.or_eq_true] at h ⊢
    rw [unL_bit]
    rcases h with h | h
    · obtain ⟨j, h5, h6⟩ := (unL_bit ms x _).1 (greedy_covers (fun j hj => hk j (by omega)) x h)
      exact ⟨j, by simp [h5], h6⟩
    · exact ⟨i, by simp, by simpa using h⟩
theorem giter_idx {n : Nat} {ms : List Nat} : ∀ {k : Nat}, GOk n ms k → ∀ i ∈ (giter n ms k).out, 0 ≤ i ∧ i < ms.length
  | 0, _, i, h => by simp [giter] at h
  | k + 1, hk, i, h => by
    obtain ⟨_, j, h2, h3, h4⟩ := hk k (by omega)
    simp only [giter, gstep, h3, List.mem_append, List.mem_singleton] at h
    rcases h with h | rfl
    · exact giter_idx (fun j hj => hk j (by omega)) i h
    · omega
theorem unL_perm {ms : List Nat} {c c' : List Int} (h : c.Perm c') (x : Nat) : (unL ms c).testBit x = (unL ms c').testBit x := by
  rw [Bool.eq_iff_iff, unL_bit, unL_bit]
  constructor
  · rintro ⟨i, h1, h2⟩; exact ⟨i, h.mem_iff.1 h1, h2⟩
  · rintro ⟨i, h1, h2⟩; exact ⟨i, h.mem_iff.2 h1, h2⟩
end Go.Sx

set_option autoImplicit false
set_option maxRecDepth 100000
namespace Go.Proofs.YtomjbfeafodfbaaGreat
open Go.Sx
open Enc (enc val)
theorem unL_snoc (ms : List Nat) (c : List Int) (i : Int) : unL ms (c ++ [i]) = unL ms c ||| nth ms i.toNat := by
  apply Nat.eq_of_testBit_eq
  intro x
  rw [Nat.testBit_or, Bool.eq_iff_iff, unL_bit, Bool.or_eq_true, unL_bit]
  constructor
  · rintro ⟨j, h1, h2⟩
    rcases List.mem_append.1 h1 with h | h
    · exact .inl ⟨j, h, h2⟩
    · simp only [List.mem_singleton] at h; subst h; exact .inr h2
  · rintro (⟨j, h1, h2⟩ | h)
    · exact ⟨j, by simp [h1], h2⟩
    · exact ⟨i, by simp, h⟩
def cvrB (n : Nat) (ms : List Nat) (c : List Int) : Bool := (List.range n).all fun x => (unL ms c).testBit x
theorem cvrB_iff {n : Nat} {ms : List Nat} {c : List Int} : cvrB n ms c = true ↔ Cvr n ms c := by simp [cvrB, Cvr]
theorem refCovers_spec (n : Nat) (hn : n ≤ 30) (sv : SlV) (vs : List SlV) (ls : List (List Int)) (hs : ∀ s ∈ ls, setB n s = true) (sc : Value) (c : List Int) (hc : ∀ i ∈ c, 0 ≤ i ∧ i < ls.length) (w : World) (hm : Stb w [] (fun w' => Mt w' sv.v vs ls)) (hcr : Stb w [] (RdL sc c)) :
    Calls Tryz.prog 43 #[.int .i64 n, sv.v, sc] w fun e w' => e = .returned (.bool (cvrB n (msOf ls) c)) ∧ Cl w [] [] w' := by
  have h1 := stb_map hm fun _ h => h.l
  have n1 := hm.here.n
  have hL := rd_len hcr.here
  refine calls_cw (vs := [_, _, _]) Tryz.func43 rfl Tryz.ntmps43 rfl (Cl.start0 w) (cw_seq (cw_region (sr rfl rfl rfl ((q_assign rfl rfl)) (sw_nil (post_then (cw_seq (cw_region (sr rfl rfl rfl ((q_move rfl rfl)) ?_))))))))
  refine sw_x rfl rfl rfl (e_make (α := Bool) (zero := false) rfl rfl rfl rfl rfl (by omega) (by omega) (by decide)) (fun s12 => ?_)
  rw [Int.toNat_natCast, cvL_zero]
  refine sr rfl rfl rfl ((q_assign rfl rfl)) (sw_nil (post_then (cw_seq (cw_seq (cw_region (sr rfl rfl rfl ((q_assign rfl rfl)) (sw_nil (post_then (cw_block ?_)))))))))
  refine cw_loop (S := Nat) (fun k => [(0, [], .int .i64 n), (1, [], sv.v), (2, [], sc), (7, [], s12.v), (8, [], .int .i64 k)]) (fun k => Cl w [] [ownL 4 s12.v (cvL n (unL (msOf ls) (c.take k)))]) (fun k => k ≤ c.length) (fun k => c.length - k) 0 (Nat.zero_le _) (by exact .cons rfl (.cons rfl (.cons rfl (.cons rfl (.cons rfl .nil))))) (fun _ h => h) ?_
  intro k hk
  refine cw_seq (cw_seq (cw_region (sr rfl rfl rfl ((q_move rfl rfl)) (sr rfl rfl rfl ((q_move rfl rfl)) ?_))))
  refine sr rfl rfl rfl ((q_len rfl (.cons rfl inferInstance (.nil)) (by exact fun w hw => Stb.cl (by assumption) hw))) ?_
  refine sr rfl rfl rfl ((q_lss rfl rfl rfl)) (sw_nil (post_then ?_))
  refine cw_cond rfl (fun h => ?_) (fun h => ?_)
  · skip
    have hk' : k < c.length := by simp only [decide_eq_true_eq] at h; omega
    have hck := hc _ (nth_mem hk')
    have hrow := stb_map hm fun _ h => h.r (nth c k).toNat (by omega)
    have hrl := rd_len hrow.here
    have hsb := mask_bits (hs _ (nth_mem (i := (nth c k).toNat) (by omega)))
    refine cw_skip (post_then (cw_seq (cw_block (cw_seq (cw_region (sr rfl rfl rfl ((q_assign rfl rfl)) (sw_nil (post_then (cw_block ?_)))))))))
    refine cw_loop (S := Nat) (fun q => [(0, [], .int .i64 n), (1, [], sv.v), (2, [], sc), (7, [], s12.v), (8, [], .int .i64 k), (9, [], .int .i64 q)]) (fun q => Cl w [] [ownL 4 s12.v (cvL n (unL (msOf ls) (c.take k) ||| maskTo (nth ls (nth c k).toNat) q))]) (fun q => q ≤ (nth ls (nth c k).toNat).length) (fun q => (nth ls (nth c k).toNat).length - q) 0 (Nat.zero_le _) (by exact .cons rfl (.cons rfl (.cons rfl (.cons rfl (.cons rfl (.cons rfl .nil)))))) (fun w3 h3 => by simp only [maskTo, Nat.or_zero]; exact h3) ?_
    intro q hq
    refine cw_seq (cw_seq (cw_region (sr rfl rfl rfl ((q_move rfl rfl)) (sr rfl rfl rfl ((q_move rfl rfl)) (sr rfl rfl rfl ((q_move rfl rfl)) (sr rfl rfl rfl ((q_move rfl rfl)) ?_))))))
    refine sr rfl rfl rfl ((q_indexN rfl rfl rfl (by exact fun w hw => Stb.cl (by assumption) hw) (by intro hc; omega))) ?_
    refine sr rfl rfl rfl ((q_loadEl rfl rfl rfl (by exact fun w hw => Stb.cl (by assumption) hw) (by intro hc; omega))) ?_
    refine sr rfl rfl rfl ((q_index rfl rfl rfl (by exact fun w hw => Stb.cl (by assumption) hw) (by intro hc; omega))) ?_
    refine sr rfl rfl rfl ((q_loadEl rfl rfl rfl (by exact fun w hw => Stb.cl (by assumption) hw) (by intro hc; omega))) ?_
    refine sr rfl rfl rfl ((q_len rfl (.cons rfl inferInstance (.nil)) (by exact fun w hw => Stb.cl (by assumption) hw))) ?_
    refine sr rfl rfl rfl ((q_lss rfl rfl rfl)) (sw_nil (post_then ?_))
    refine cw_cond rfl (fun h2 => ?_) (fun h2 => ?_)
    · skip
      have hq' : q < (nth ls (nth c k).toNat).length := by simp only [decide_eq_true_eq] at h2; omega
      have hel := hsb.2 _ (nth_mem hq')
      have hcl := cvL_len n (unL (msOf ls) (c.take k) ||| maskTo (nth ls (nth c k).toNat) q)
      refine cw_skip (post_then (cw_seq (cw_block (cw_region (sr rfl rfl rfl ((q_move rfl rfl)) (sr rfl rfl rfl ((q_move rfl rfl)) (sr rfl rfl rfl ((q_move rfl rfl)) (sr rfl rfl rfl ((q_move rfl rfl)) ?_))))))))
      refine sr rfl rfl rfl ((q_indexN rfl rfl rfl (by exact fun w hw => Stb.cl (by assumption) hw) (by intro hc; omega))) ?_
      refine sr rfl rfl rfl ((q_loadEl rfl rfl rfl (by exact fun w hw => Stb.cl (by assumption) hw) (by intro hc; omega))) ?_
      refine sr rfl rfl rfl ((q_index rfl rfl rfl (by exact fun w hw => Stb.cl (by assumption) hw) (by intro hc; omega))) ?_
      refine sr rfl rfl rfl ((q_loadEl rfl rfl rfl (by exact fun w hw => Stb.cl (by assumption) hw) (by intro hc; omega))) ?_
      refine sr rfl rfl rfl ((q_move rfl rfl)) ?_
      refine sr rfl rfl rfl ((q_indexN rfl rfl rfl (by exact fun w hw => Stb.cl (by assumption) hw) (by intro hc; omega))) ?_
      refine sr rfl rfl rfl ((q_loadEl rfl rfl rfl (by exact fun w hw => Stb.cl (by assumption) hw) (by intro hc; omega))) ?_
      refine sr rfl rfl rfl ((q_index rfl rfl rfl (by exact fun w hw => rd_own hw (by exact .head _)) (by intro hc; omega))) ?_
      refine sw_eff0 rfl rfl (e_storeEl1 (i := 0) rfl rfl rfl rfl rfl (by omega)) ?_
      refine sw_nil (post_blk (post_then (cw_region (sr rfl rfl rfl ((q_move rfl rfl)) ?_))))
      refine sr rfl rfl rfl ((q_add rfl rfl rfl (by intro hc; omega))) ?_
      refine sr rfl rfl rfl ((q_assign rfl rfl)) (sw_nil ?_)
      refine post_next (q + 1) (by exact .cons rfl (.cons rfl (.cons rfl (.cons rfl (.cons rfl (.cons rfl .nil)))))) (fun w3 hw3 => ?_) (by omega) (by omega)
      rw [maskTo, ← Nat.or_assoc, ← cvL_set (by omega)]
      exact hw3
    · skip
      have hq' : q = (nth ls (nth c k).toNat).length := by simp only [decide_eq_false_iff_not] at h2; omega
      subst hq'
      refine cw_exit (post_then_x (post_then_x (post_blk_eq (post_blk (post_then (cw_region (sr rfl rfl rfl ((q_move rfl rfl)) ?_)))))))
      refine sr rfl rfl rfl ((q_add rfl rfl rfl (by intro hc; omega))) ?_
      refine sr rfl rfl rfl ((q_assign rfl rfl)) (sw_nil ?_)
      refine post_next (k + 1) (by exact .cons rfl (.cons rfl (.cons rfl (.cons rfl (.cons rfl .nil))))) (fun w3 hw3 => ?_) (by omega) (by omega)
      rw [List.take_succ_eq_append_getElem hk', unL_snoc, ← nth_get hk', msOf_nth (by omega)]
      exact hw3
  · skip
    have hk' : k = c.length := by simp only [decide_eq_false_iff_not] at h; omega
    subst hk'
    rw [List.take_length]
    have hcl := cvL_len n (unL (msOf ls) c)
    refine cw_exit (post_then_x (post_then_x (post_blk_eq (post_then (cw_seq (cw_seq (cw_region (sr rfl rfl rfl ((q_assign rfl rfl)) (sw_nil (post_then (cw_block ?_)))))))))))
    refine cw_loop (S := Nat) (fun x => [(0, [], .int .i64 n), (7, [], s12.v), (10, [], .int .i64 x)]) (fun x => Cl w [] [ownL 4 s12.v (cvL n (unL (msOf ls) c))]) (fun x => x ≤ n ∧ ∀ j, j < x → (unL (msOf ls) c).testBit j = true) (fun x => n - x) 0 ⟨Nat.zero_le _, fun j hj => by omega⟩ (by exact .cons rfl (.cons rfl (.cons rfl .nil))) (fun _ h => h) ?_
    rintro x ⟨hx, hb⟩
    refine cw_seq (cw_seq (cw_region (sr rfl rfl rfl ((q_move rfl rfl)) (sr rfl rfl rfl ((q_move rfl rfl)) (sr rfl rfl rfl ((q_lss rfl rfl rfl)) (sw_nil (post_then ?_)))))))
    refine cw_cond rfl (fun h2 => ?_) (fun h2 => ?_)
    · skip
      have hx' : x < n := by simp only [decide_eq_true_eq] at h2; omega
      have hbit := cvL_nth hx' (unL (msOf ls) c)
      refine cw_skip (post_then (cw_seq (cw_block (cw_seq (cw_region (sr rfl rfl rfl ((q_move rfl rfl)) (sr rfl rfl rfl ((q_move rfl rfl)) ?_)))))))
      refine sr rfl rfl rfl ((q_indexN rfl rfl rfl (by exact fun w hw => rd_own hw (by exact .head _)) (by intro hc; omega))) ?_
      refine sr rfl rfl rfl ((q_loadEl rfl rfl rfl (by exact fun w hw => rd_own hw (by exact .head _)) (by intro hc; omega))) ?_
      refine sr rfl rfl rfl ((q_not rfl rfl)) (sw_nil (post_then ?_))
      rw [hbit]
      refine cw_cond rfl (fun h3 => ?_) (fun h3 => ?_)
      · skip
        have h4 : cvrB n (msOf ls) c = false := List.all_eq_false.2 ⟨x, by simpa using hx', by simpa using h3⟩
        refine cw_seq (cw_region (sr rfl rfl rfl ((q_assign rfl rfl)) (sw_nil (post_then (cw_ret (post_blk_r (post_then_r (post_then_r (post_blk_r (post_then_r (post_ret1 rfl (resOk_tmp rfl) ?_)))))))))))
        exact fun w' hw => ⟨by rw [h4], (fun w h => Cl.sel (by exact .nil _) w h) _ hw⟩
      · skip
        refine cw_skip (post_blk (post_then (cw_region (sr rfl rfl rfl ((q_move rfl rfl)) ?_))))
        refine sr rfl rfl rfl ((q_add rfl rfl rfl (by intro hc; omega))) ?_
        refine sr rfl rfl rfl ((q_assign rfl rfl)) (sw_nil ?_)
        refine post_next (x + 1) (by exact .cons rfl (.cons rfl (.cons rfl .nil))) (fun _ h => h) ⟨by omega, fun j hj => ?_⟩ (by omega)
        by_cases e : j = x
        · subst e; simpa using h3
        · exact hb j (by omega)
    · skip
      have hx' : x = n := by simp only [decide_eq_false_iff_not] at h2; omega
      subst hx'
      have h4 : cvrB x (msOf ls) c = true := cvrB_iff.2 hb
      refine cw_exit (post_then_x (post_then_x (post_blk_eq (post_then (cw_seq (cw_region (sr rfl rfl rfl ((q_assign rfl rfl)) (sw_nil (post_then (cw_ret (post_ret1 rfl (resOk_tmp rfl) ?_)))))))))))
      exact fun w' hw => ⟨by rw [h4], (fun w h => Cl.sel (by exact .nil _) w h) _ hw⟩
def someI (f : Nat → Option (List Int)) : Nat → Nat → Option (List Int)
  | _, 0 => none
  | i, c + 1 => match f i with
    | some x => some x
    | none => someI f (i + 1) c
def someF (n : Nat) (ms : List Nat) : Nat → List Int → Nat → Option (List Int)
  | 0, ch, _ => if cvrB n ms ch = true then some ch else none
  | k + 1, ch, fr => someI (fun i => someF n ms k (ch ++ [(i : Int)]) (i + 1)) fr (ms.length - fr)
def leastF (n : Nat) (ms : List Nat) : Option (List Int) := someI (fun k => someF n ms k [] 0) 0 (ms.length + 1)
theorem someI_step {f : Nat → Option (List Int)} {i L : Nat} (h : i < L) : someI f i (L - i) = match f i with
    | some x => some x
    | none => someI f (i + 1) (L - (i + 1)) := by
  rw [show L - i = (L - (i + 1)) + 1 by omega, someI]
def optA (r : SlV) (o : Option (List Int)) : List Asn := match o with
  | some c => [ownL 3 r.v c]
  | none => []
theorem some_spec (n : Nat) (hn : n ≤ 30) (sv : SlV) (vs : List SlV) (ls : List (List Int)) (hl : ls.length ≤ 1000) (hs : ∀ s ∈ ls, setB n s = true) : ∀ (more : Nat) (sc : SlV) (ch : List Int) (f : Nat), ch.length + more ≤ 100000 → f ≤ ls.length → (∀ i ∈ ch, 0 ≤ i ∧ i < ls.length) → ∀ (w : World) (bs : List Nat), Sep [ownL 3 sc.v ch] w bs → bs.Nodup → (∀ b ∈ bs, b < w.heap.size) → Stb w bs (fun w' => Mt w' sv.v vs ls) →
    Calls Tryz.prog 85 #[.int .i64 n, sv.v, sc.v, .int .i64 f, .int .i64 more] w fun e w' => ∃ r : SlV, e = .returned (.tuple #[r.v, .bool (someF n (msOf ls) more ch f).isSome]) ∧ True ∧ Cl w bs (optA r (someF n (msOf ls) more ch f)) w' := by
  intro more
  induction more with
  | zero =>
    intro sc ch f hb hf hch w bs k1 k2 k3 hm
    refine calls_cw (vs := [_, _, _, _, _]) Tryz.func85 rfl Tryz.ntmps85 rfl (Cl.start k1 k2 k3) (cw_seq (cw_region (sr rfl rfl rfl ((q_assign rfl rfl)) (sr rfl rfl rfl ((q_assign rfl rfl)) (sw_nil (post_then (cw_seq (cw_seq (cw_region (sr rfl rfl rfl ((q_move rfl rfl)) (sr rfl rfl rfl ((q_eql rfl rfl rfl)) (sw_nil (post_then ?_)))))))))))))
    refine cw_cond rfl (fun h => ?_) (fun h => ?_)
    · skip
      refine cw_seq (cw_region (sr rfl rfl rfl ((q_move rfl rfl)) (sr rfl rfl rfl ((q_move rfl rfl)) (sr rfl rfl rfl ((q_move rfl rfl)) (sr rfl rfl rfl ((q_move rfl rfl)) (sw_step rfl rfl rfl (q_call (CanCall.mk Tryz.call43) rfl (.cons rfl inferInstance (.cons rfl inferInstance (.cons rfl inferInstance (.nil)))) (fun _ w hw => callq hw (refCovers_spec n hn sv vs ls hs sc.v ch hch w (stb_arg hw hm) (stb_own (e := 3) hw (.head _))))) (sr rfl rfl rfl ((q_assign rfl rfl)) (sr rfl rfl rfl ((q_assign rfl rfl)) (sw_nil (post_then (cw_ret (post_then_r (post_ret2 rfl (resOk_tmp rfl) (resOk_tmp rfl) ?_)))))))))))))
      refine fun w' hw => ⟨sc, ?_, trivial, ?_⟩
      · simp only [someF]; cases cvrB n (msOf ls) ch <;> rfl
      · simp only [someF]
        cases cvrB n (msOf ls) ch
        · exact hw.tail
        · exact hw
    · skip
      simp at h
  | succ more ih =>
    intro sc ch f hb hf hch w bs k1 k2 k3 hm
    have hml : (msOf ls).length = ls.length := by simp [msOf]
    refine calls_cw (vs := [_, _, _, _, _]) Tryz.func85 rfl Tryz.ntmps85 rfl (Cl.start k1 k2 k3) (cw_seq (cw_region (sr rfl rfl rfl ((q_assign rfl rfl)) (sr rfl rfl rfl ((q_assign rfl rfl)) (sw_nil (post_then (cw_seq (cw_seq (cw_region (sr rfl rfl rfl ((q_move rfl rfl)) (sr rfl rfl rfl ((q_eql rfl rfl rfl)) (sw_nil (post_then ?_)))))))))))))
    refine cw_cond rfl (fun h => ?_) (fun h => ?_)
    · skip
      simp at h; omega
    · skip
      clear h
      refine cw_skip (post_then (cw_seq (cw_seq (cw_region (sr rfl rfl rfl ((q_move rfl rfl)) (sr rfl rfl rfl ((q_assign rfl rfl)) (sw_nil (post_then (cw_block ?_)))))))))
      refine cw_loop (S := Nat) (fun i => [(0, [], .int .i64 n), (1, [], sv.v), (2, [], sc.v), (4, [], .int .i64 (more + 1 : Nat)), (12, [], .int .i64 i)]) (fun i => Cl w bs [ownL 3 sc.v ch]) (fun i => i ≤ ls.length ∧ someF n (msOf ls) (more + 1) ch f = someI (fun i => someF n (msOf ls) more (ch ++ [(i : Int)]) (i + 1)) i (ls.length - i)) (fun i => ls.length - i) f ⟨hf, by rw [someF, hml]⟩ (by exact .cons rfl (.cons rfl (.cons rfl (.cons rfl (.cons rfl .nil))))) (fun _ h => h) ?_
      rintro i ⟨hi, hF⟩
      have h1 := stb_map hm fun _ h => h.l
      have n1 := hm.here.n
      refine cw_seq (cw_seq (cw_region (sr rfl rfl rfl ((q_move rfl rfl)) (sr rfl rfl rfl ((q_move rfl rfl)) ?_))))
      refine sr rfl rfl rfl ((q_len rfl (.cons rfl inferInstance (.nil)) (by exact fun w hw => Stb.cl (by assumption) hw))) ?_
      refine sr rfl rfl rfl ((q_lss rfl rfl rfl)) (sw_nil (post_then ?_))
      refine cw_cond rfl (fun h => ?_) (fun h => ?_)
      · skip
        have hi' : i < ls.length := by simp only [decide_eq_true_eq] at h; omega
        rw [someI_step hi'] at hF
        refine cw_c (C' := Cl w bs [ownL 3 (SlV.v ⟨none, 0, 0⟩) ([] : List Int), ownL 3 sc.v ch]) (fun w' hw => hw.addNil (α := Int) 3) (cw_skip (post_then (cw_seq (cw_block (cw_seq (cw_region (sr rfl rfl rfl ((q_move rfl rfl)) (sr rfl rfl rfl ((q_move rfl rfl)) (sr rfl rfl rfl ((q_move rfl rfl)) ?_)))))))))
        refine sw_x rfl rfl rfl (e_append (i := 0) rfl (.cons rfl inferInstance (.cons rfl inferInstance (.nil))) rfl rfl (by exact fun w hw => rd_own hw (by exact .tail _ (.head _))) (by simp only [List.length_set, List.length_append, List.length_cons, List.length_nil, List.length_replicate, List.length_take, List.length_drop, List.length_map]; omega) rfl) (fun s33 => ?_)
        refine sr rfl rfl rfl ((q_move rfl rfl)) ?_
        refine sw_x rfl rfl rfl (e_build1 (α := Int) rfl rfl rfl rfl) (fun s35 => ?_)
        refine sw_x rfl rfl rfl (e_append (i := 1) rfl (.cons rfl inferInstance (.cons rfl inferInstance (.nil))) rfl rfl (by exact fun w hw => rd_own hw (by exact .head _)) (by simp only [List.length_set, List.length_append, List.length_cons, List.length_nil, List.length_replicate, List.length_take, List.length_drop, List.length_map]; omega) rfl) (fun s36 => ?_)
        refine sr rfl rfl rfl ((q_move rfl rfl)) ?_
        refine sr rfl rfl rfl ((q_add rfl rfl rfl (by intro hc; omega))) ?_
        refine sr rfl rfl rfl ((q_move rfl rfl)) ?_
        refine sr rfl rfl rfl ((q_sub rfl rfl rfl (by intro hc; omega))) ?_
        rw [show ((i : Int) + 1) = ((i + 1 : Nat) : Int) by omega, show (((more + 1 : Nat) : Int) - 1) = (more : Int) by omega]
        refine sw_x rfl rfl rfl (e_callH (A := [ownL 3 s36.v (ch ++ [(i : Int)])]) (F := [ownL 3 s35.v [(i : Int)], ownL 3 sc.v ch]) (CanCall.mk Tryz.call85) rfl rfl (.cons rfl inferInstance (.cons rfl inferInstance (.cons rfl inferInstance (.cons rfl inferInstance (.cons rfl inferInstance (.nil)))))) (perm_del (i := 1) rfl) (fun w bs k1 k2 k3 k4 k5 => ih s36 (ch ++ [(i : Int)]) (i + 1) (by simp; omega) (by omega) (fun j hj => by rcases List.mem_append.1 hj with h5 | h5; exact hch j h5; simp only [List.mem_singleton] at h5; omega) w bs k1 k2 k3 (k4 _ hm))) (fun r => ?_)
        refine sw_imp fun _ => (sr rfl rfl rfl ((q_move rfl rfl)) (sr rfl rfl rfl ((q_extract rfl rfl rfl)) (sr rfl rfl rfl ((q_extract rfl rfl rfl)) (sr rfl rfl rfl ((q_assign rfl rfl)) (sr rfl rfl rfl ((q_assign rfl rfl)) (sw_nil (post_then (cw_seq (cw_region (sr rfl rfl rfl ((q_move rfl rfl)) (sw_nil (post_then ?_))))))))))))
        refine cw_cond rfl (fun h2 => ?_) (fun h2 => ?_)
        · skip
          obtain ⟨c, hc⟩ := Option.isSome_iff_exists.1 h2
          rw [hc] at hF
          simp only at hF
          refine cw_seq (cw_region (sr rfl rfl rfl ((q_move rfl rfl)) (sr rfl rfl rfl ((q_assign rfl rfl)) (sr rfl rfl rfl ((q_assign rfl rfl)) (sw_nil (post_then (cw_ret (post_blk_r (post_then_r (post_then_r (post_blk_r (post_then_r (post_ret2 rfl (resOk_tmp rfl) (resOk_tmp rfl) ?_)))))))))))))
          refine fun w' hw => ⟨r, by rw [hF]; rfl, trivial, ?_⟩
          rw [hc] at hw
          rw [hF]
          exact (fun w h => Cl.sel (by exact .take 0 rfl (.nil _)) w h) _ hw
        · skip
          have hc : someF n (msOf ls) more (ch ++ [(i : Int)]) (i + 1) = none := by
            cases hx : someF n (msOf ls) more (ch ++ [(i : Int)]) (i + 1)
            · rfl
            · rw [hx] at h2; cases h2
          rw [hc] at hF
          simp only at hF
          refine cw_skip (post_blk (post_then (cw_region (sr rfl rfl rfl ((q_move rfl rfl)) ?_))))
          refine sr rfl rfl rfl ((q_add rfl rfl rfl (by intro hc; omega))) ?_
          refine sr rfl rfl rfl ((q_assign rfl rfl)) (sw_nil ?_)
          refine post_next (i + 1) (by exact .cons rfl (.cons rfl (.cons rfl (.cons rfl (.cons rfl .nil))))) (fun w3 hw3 => ?_) ⟨by omega, hF⟩ (by omega)
          rw [hc] at hw3
          exact (fun w h => Cl.sel (by exact .take 1 rfl (.nil _)) w h) _ hw3
      · skip
        have hi' : i = ls.length := by simp only [decide_eq_false_iff_not] at h; omega
        subst hi'
        have hF' : someF n (msOf ls) (more + 1) ch f = none := by rw [hF, Nat.sub_self]; rfl
        refine cw_exit (post_then_x (post_then_x (post_blk_eq (post_then (cw_seq (cw_region (sr rfl rfl rfl ((q_assign rfl rfl)) (sr rfl rfl rfl ((q_assign rfl rfl)) (sw_nil (post_then (cw_ret (post_ret2 rfl (resOk_tmp rfl) (resOk_tmp rfl) ?_))))))))))))
        exact fun w' hw => ⟨⟨none, 0, 0⟩, by rw [hF']; rfl, trivial, by rw [hF']; exact hw.tail⟩
theorem refLeast_spec (n : Nat) (hn : n ≤ 30) (sv : SlV) (vs : List SlV) (ls : List (List Int)) (hl : ls.length ≤ 1000) (hs : ∀ s ∈ ls, setB n s = true) (w : World) (hm : Stb w [] (fun w' => Mt w' sv.v vs ls)) :
    Calls Tryz.prog 41 #[.int .i64 n, sv.v] w fun e w' => ∃ r : SlV, e = .returned (.tuple #[r.v, .bool (leastF n (msOf ls)).isSome]) ∧ True ∧ Cl w [] (optA r (leastF n (msOf ls))) w' := by
  have h1 := stb_map hm fun _ h => h.l
  have n1 := hm.here.n
  have hml : (msOf ls).length = ls.length := by simp [msOf]
  refine calls_cw (vs := [_, _]) Tryz.func41 rfl Tryz.ntmps41 rfl (Cl.start0 w) (cw_seq (cw_region (sr rfl rfl rfl ((q_assign rfl rfl)) (sr rfl rfl rfl ((q_assign rfl rfl)) (sw_nil (post_then (cw_seq (cw_seq (cw_region (sr rfl rfl rfl ((q_assign rfl rfl)) (sw_nil (post_then (cw_block ?_)))))))))))))
  refine cw_loop (S := Nat) (fun k => [(0, [], .int .i64 n), (1, [], sv.v), (6, [], .int .i64 k)]) (fun k => Cl w [] []) (fun k => k ≤ ls.length + 1 ∧ leastF n (msOf ls) = someI (fun k => someF n (msOf ls) k [] 0) k (ls.length + 1 - k)) (fun k => ls.length + 1 - k) 0 ⟨Nat.zero_le _, by rw [leastF, hml]; rfl⟩ (by exact .cons rfl (.cons rfl (.cons rfl .nil))) (fun _ h => h) ?_
  rintro k ⟨hk, hF⟩
  refine cw_seq (cw_seq (cw_region (sr rfl rfl rfl ((q_move rfl rfl)) (sr rfl rfl rfl ((q_move rfl rfl)) ?_))))
  refine sr rfl rfl rfl ((q_len rfl (.cons rfl inferInstance (.nil)) (by exact fun w hw => Stb.cl (by assumption) hw))) ?_
  refine sr rfl rfl rfl ((q_leq rfl rfl rfl)) (sw_nil (post_then ?_))
  refine cw_cond rfl (fun h => ?_) (fun h => ?_)
  · skip
    have hk' : k < ls.length + 1 := by simp only [decide_eq_true_eq] at h; omega
    rw [someI_step hk'] at hF
    refine cw_c (C' := Cl w [] [ownL 3 (SlV.v ⟨none, 0, 0⟩) ([] : List Int)]) (fun w' hw => hw.addNil (α := Int) 3) (cw_skip (post_then (cw_seq (cw_block (cw_seq (cw_region (sr rfl rfl rfl ((q_move rfl rfl)) (sr rfl rfl rfl ((q_move rfl rfl)) (sr rfl rfl rfl ((q_move rfl rfl)) ?_)))))))))
    refine sw_x rfl rfl rfl (e_callH (A := [ownL 3 (SlV.v ⟨none, 0, 0⟩) ([] : List Int)]) (F := []) (CanCall.mk Tryz.call85) rfl rfl (.cons rfl inferInstance (.cons rfl inferInstance (.cons rfl inferInstance (.cons rfl inferInstance (.cons rfl inferInstance (.nil)))))) (.refl _) (fun w bs k1 k2 k3 k4 k5 => some_spec n hn sv vs ls hl hs k ⟨none, 0, 0⟩ [] 0 (by simp; omega) (Nat.zero_le _) (fun j hj => by simp at hj) w bs k1 k2 k3 (k4 _ hm))) (fun r => ?_)
    refine sw_imp fun _ => (sr rfl rfl rfl ((q_move rfl rfl)) (sr rfl rfl rfl ((q_extract rfl rfl rfl)) (sr rfl rfl rfl ((q_extract rfl rfl rfl)) (sr rfl rfl rfl ((q_assign rfl rfl)) (sr rfl rfl rfl ((q_assign rfl rfl)) (sw_nil (post_then (cw_seq (cw_region (sr rfl rfl rfl ((q_move rfl rfl)) (sw_nil (post_then ?_))))))))))))
    refine cw_cond rfl (fun h2 => ?_) (fun h2 => ?_)
    · skip
      obtain ⟨c, hc⟩ := Option.isSome_iff_exists.1 h2
      rw [hc] at hF
      simp only at hF
      refine cw_seq (cw_region (sr rfl rfl rfl ((q_move rfl rfl)) (sr rfl rfl rfl ((q_assign rfl rfl)) (sr rfl rfl rfl ((q_assign rfl rfl)) (sw_nil (post_then (cw_ret (post_blk_r (post_then_r (post_then_r (post_blk_r (post_then_r (post_ret2 rfl (resOk_tmp rfl) (resOk_tmp rfl) ?_)))))))))))))
      refine fun w' hw => ⟨r, by rw [hF]; rfl, trivial, ?_⟩
      rw [hc] at hw
      rw [hF]
      exact (fun w h => Cl.sel (by exact .take 0 rfl (.nil _)) w h) _ hw
    · skip
      have hc : someF n (msOf ls) k [] 0 = none := by
        cases hx : someF n (msOf ls) k [] 0
        · rfl
        · rw [hx] at h2; cases h2
      rw [hc] at hF
      simp only at hF
      refine cw_skip (post_blk (post_then (cw_region (sr rfl rfl rfl ((q_move rfl rfl)) ?_))))
      refine sr rfl rfl rfl ((q_add rfl rfl rfl (by intro hc; omega))) ?_
      refine sr rfl rfl rfl ((q_assign rfl rfl)) (sw_nil ?_)
      refine post_next (k + 1) (by exact .cons rfl (.cons rfl (.cons rfl .nil))) (fun w3 hw3 => ?_) ⟨by omega, hF⟩ (by omega)
      rw [hc] at hw3
      exact (fun w h => Cl.sel (by exact .nil _) w h) _ hw3
  · skip
    have hk' : k = ls.length + 1 := by simp only [decide_eq_false_iff_not] at h; omega
    subst hk'
    have hF' : leastF n (msOf ls) = none := by rw [hF, Nat.sub_self]; rfl
    refine cw_exit (post_then_x (post_then_x (post_blk_eq (post_then (cw_seq (cw_region (sr rfl rfl rfl ((q_assign rfl rfl)) (sr rfl rfl rfl ((q_assign rfl rfl)) (sw_nil (post_then (cw_ret (post_ret2 rfl (resOk_tmp rfl) (resOk_tmp rfl) ?_))))))))))))
    exact fun w' hw => ⟨⟨none, 0, 0⟩, by rw [hF']; rfl, trivial, by rw [hF']; exact hw⟩
theorem someI_some {f : Nat → Option (List Int)} {c : List Int} : ∀ {m i : Nat}, someI f i m = some c → ∃ j, i ≤ j ∧ j < i + m ∧ f j = some c
  | 0, i, h => by simp [someI] at h
  | m + 1, i, h => by
    rw [someI] at h
    cases h1 : f i with
    | some x => rw [h1] at h; exact ⟨i, by omega, by omega, by rw [h1]; exact h⟩
    | none =>
      rw [h1] at h
      obtain ⟨j, h2, h3, h4⟩ := someI_some h
      exact ⟨j, by omega, by omega, h4⟩
theorem someI_none {f : Nat → Option (List Int)} : ∀ {m i : Nat}, someI f i m = none → ∀ j, i ≤ j → j < i + m → f j = none
  | 0, i, _, j, a, b => by omega
  | m + 1, i, h, j, a, b => by
    rw [someI] at h
    cases h1 : f i with
    | some x => rw [h1] at h; cases h
    | none =>
      rw [h1] at h
      by_cases e : j = i
      · subst e; exact h1
      · exact someI_none h j (by omega) (by omega)
theorem someF_some {n : Nat} {ms : List Nat} : ∀ {k : Nat} {ch : List Int} {fr : Nat} {c : List Int}, someF n ms k ch fr = some c → Cvr n ms c ∧ c.length = ch.length + k
  | 0, ch, fr, c, h => by
    rw [someF] at h
    split at h
    · rename_i h1
      cases h
      exact ⟨cvrB_iff.1 h1, rfl⟩
    · cases h
  | k + 1, ch, fr, c, h => by
    rw [someF] at h
    obtain ⟨j, _, _, h4⟩ := someI_some h
    have := someF_some h4
    simp only [List.length_append, List.length_cons, List.length_nil] at this
    exact ⟨this.1, by omega⟩
/-- All sets from one on, if they do: there is a cover. -/
theorem someF_all {n : Nat} {ms : List Nat} : ∀ {k : Nat} {ch : List Int} {f : Nat}, f + k = ms.length → (∀ x, x < n → (unL ms ch).testBit x = true ∨ ∃ j, f ≤ j ∧ j < ms.length ∧ (nth ms j).testBit x = true) → someF n ms k ch f ≠ none
  | 0, ch, f, he, h => by
    rw [someF, if_pos]
    · simp
    · refine cvrB_iff.2 fun x hx => ?_
      rcases h x hx with h1 | ⟨j, h2, h3, _⟩
      · exact h1
      · omega
  | k + 1, ch, f, he, h => by
    rw [someF]
    intro hn
    have h1 := someI_none hn f (Nat.le_refl _) (by omega)
    refine someF_all (k := k) (by omega) (fun x hx => ?_) h1
    rw [unL_snoc, Nat.testBit_or, Bool.or_eq_true]
    rcases h x hx with h2 | ⟨j, h3, h4, h5⟩
    · exact .inl (.inl h2)
    · by_cases e : j = f
      · subst e; exact .inl (.inr (by simpa using h5))
      · exact .inr ⟨j, by omega, h4, h5⟩
theorem least_some {n : Nat} {ms : List Nat} (hn : n ≤ 32) (hp : possN n ms = true) : ∃ c, leastF n ms = some c ∧ Cvr n ms c ∧ c.length ≤ ms.length := by
  have h1 := someF_all (n := n) (ms := ms) (k := ms.length) (ch := []) (f := 0) (by omega) (fun x hx => by
    obtain ⟨j, h2, h3⟩ := (possN_iff hn).1 hp x hx
    exact .inr ⟨j, Nat.zero_le _, h2, h3⟩)
  cases h : leastF n ms with
  | none => exact absurd (someI_none h ms.length (Nat.zero_le _) (by omega)) h1
  | some c =>
    obtain ⟨j, _, h3, h4⟩ := someI_some h
    have h5 := someF_some h4
    exact ⟨c, rfl, h5.1, by have := h5.2; simp only [List.length_nil] at this; omega⟩
end Go.Proofs.YtomjbfeafodfbaaGreat

set_option autoImplicit false
set_option maxRecDepth 100000
namespace Go.Proofs.YtomjbfeafodfbaaGreat
open Go.Sx
open Enc (enc val)
def cov (n g : Nat) : Bool := decide (fr g (fullN n) = 0)
theorem cov_iff {n g : Nat} (hn : n ≤ 32) : cov n g = true ↔ ∀ x, x < n → g.testBit x = true := by
  simp only [cov, decide_eq_true_eq, fr_zero, fullN_bit]
  constructor
  · intro h x hx; exact h x (by omega) hx
  · intro h x _ hx; exact h x hx
def unFrom (ms : List Nat) (i : Nat) : Nat := unTo (ms.drop i) (ms.length - i)
theorem unFrom_bit (ms : List Nat) (i x : Nat) : (unFrom ms i).testBit x = true ↔ ∃ j, i ≤ j ∧ j < ms.length ∧ (nth ms j).testBit x = true := by
  rw [unFrom, unTo_bit]
  constructor
  · rintro ⟨j, h1, h2⟩
    rw [nth_drop] at h2
    exact ⟨i + j, by omega, by omega, h2⟩
  · rintro ⟨j, h1, h2, h3⟩
    exact ⟨j - i, by omega, by rw [nth_drop, show i + (j - i) = j by omega]; exact h3⟩
def srI (f : Nat → Option (List Int)) (ok : Nat → Bool) : Nat → Nat → Option (List Int)
  | _, 0 => none
  | i, c + 1 => if ok i then match f i with
    | some x => some x
    | none => srI f ok (i + 1) c else none
theorem srI_step {f : Nat → Option (List Int)} {ok : Nat → Bool} {i L : Nat} (h : i < L) : srI f ok i (L - i) = if ok i then match f i with
    | some x => some x
    | none => srI f ok (i + 1) (L - (i + 1)) else none := by
  rw [show L - i = (L - (i + 1)) + 1 by omega, srI]
def srch (n : Nat) (ms : List Nat) : Nat → List Int → Nat → Nat → Option (List Int)
  | 0, ch, g, _ => if cov n g then some ch else none
  | k + 1, ch, g, fr => if cov n g then some ch else srI (fun i => srch n ms k (ch ++ [(i : Int)]) (g ||| nth ms i) (i + 1)) (fun i => cov n (g ||| unFrom ms i)) fr (ms.length - fr)
theorem someF_ext {n : Nat} {ms : List Nat} : ∀ {k : Nat} {ch : List Int} {fr : Nat} {c : List Int}, someF n ms k ch fr = some c → ∃ e, c = ch ++ e ∧ ∀ i ∈ e, (fr : Int) ≤ i ∧ i < ms.length
  | 0, ch, fr, c, h => by
    rw [someF] at h
    split at h
    · cases h; exact ⟨[], by simp, fun i hi => by simp at hi⟩
    · cases h
  | k + 1, ch, fr, c, h => by
    rw [someF] at h
    obtain ⟨j, h1, h2, h4⟩ := someI_some h
    obtain ⟨e, rfl, he⟩ := someF_ext h4
    refine ⟨(j : Int) :: e, by simp, fun i hi => ?_⟩
    rcases List.mem_cons.1 hi with rfl | hi
    · omega
    · have := he i hi; omega
theorem unL_app_bit {ms : List Nat} {a b : List Int} {x : Nat} : (unL ms (a ++ b)).testBit x = true ↔ (unL ms a).testBit x = true ∨ (unL ms b).testBit x = true := by
  rw [unL_bit, unL_bit, unL_bit]
  constructor
  · rintro ⟨j, h1, h2⟩
    rcases List.mem_append.1 h1 with h | h
    · exact .inl ⟨j, h, h2⟩
    · exact .inr ⟨j, h, h2⟩
  · rintro (⟨j, h1, h2⟩ | ⟨j, h1, h2⟩)
    · exact ⟨j, by simp [h1], h2⟩
    · exact ⟨j, by simp [h1], h2⟩
/-- What is pruned has no cover. -/
theorem someF_cov {n : Nat} (hn : n ≤ 32) {ms : List Nat} {k : Nat} {ch : List Int} {fr : Nat} {c : List Int} (h : someF n ms k ch fr = some c) : cov n (unL ms ch ||| unFrom ms fr) = true := by
  obtain ⟨h1, _⟩ := someF_some h
  obtain ⟨e, rfl, he⟩ := someF_ext h
  refine (cov_iff hn).2 fun x hx => ?_
  rw [Nat.testBit_or, Bool.or_eq_true]
  rcases unL_app_bit.1 (h1 x hx) with h | h
  · exact .inl h
  · obtain ⟨j, h2, h3⟩ := (unL_bit ..).1 h
    have := he j h2
    exact .inr ((unFrom_bit ms fr x).2 ⟨j.toNat, by omega, by omega, h3⟩)
theorem cov_cvr {n : Nat} (hn : n ≤ 32) {ms : List Nat} {ch : List Int} : cov n (unL ms ch) = cvrB n ms ch := by
  rw [Bool.eq_iff_iff, cov_iff hn, cvrB_iff]; rfl
theorem srch_eq {n : Nat} (hn : n ≤ 32) {ms : List Nat} : ∀ {left : Nat} {ch : List Int} {fr : Nat}, fr ≤ ms.length → (∀ k, k < left → someF n ms k ch fr = none) → srch n ms left ch (unL ms ch) fr = someF n ms left ch fr
  | 0, ch, fr, _, _ => by rw [srch, someF, cov_cvr hn]
  | left + 1, ch, fr, hfr, h => by
    have h0 := h 0 (by omega)
    rw [someF] at h0
    have hc : ¬ cvrB n ms ch = true := fun hc => by rw [if_pos hc] at h0; cases h0
    rw [srch, someF, cov_cvr hn, if_neg hc]
    have hsub : ∀ k, k < left → ∀ j, fr ≤ j → j < ms.length → someF n ms k (ch ++ [(j : Int)]) (j + 1) = none := fun k hk j a b => by
      have := h (k + 1) (by omega)
      rw [someF] at this
      exact someI_none this j a (by omega)
    have loop : ∀ d i, fr ≤ i → i + d = ms.length → srI (fun i => srch n ms left (ch ++ [(i : Int)]) (unL ms ch ||| nth ms i) (i + 1)) (fun i => cov n (unL ms ch ||| unFrom ms i)) i d = someI (fun i => someF n ms left (ch ++ [(i : Int)]) (i + 1)) i d := by
      intro d
      induction d with
      | zero => intro i _ _; rfl
      | succ d ih =>
        intro i hi hd
        have e1 : srch n ms left (ch ++ [(i : Int)]) (unL ms ch ||| nth ms i) (i + 1) = someF n ms left (ch ++ [(i : Int)]) (i + 1) := by
          have := srch_eq hn (left := left) (ch := ch ++ [(i : Int)]) (fr := i + 1) (by omega) (fun k hk => hsub k hk i hi (by omega))
          rw [unL_snoc, Int.toNat_natCast] at this
          exact this
        rw [srI, someI, e1]
        by_cases hk : cov n (unL ms ch ||| unFrom ms i) = true
        · rw [if_pos hk]
          cases someF n ms left (ch ++ [(i : Int)]) (i + 1) with
          | some c => rfl
          | none => exact ih (i + 1) (by omega) (by omega)
        · rw [if_neg hk]
          have hnone : ∀ j, i ≤ j → j < ms.length → someF n ms left (ch ++ [(j : Int)]) (j + 1) = none := fun j a b => by
            cases hs : someF n ms left (ch ++ [(j : Int)]) (j + 1) with
            | none => rfl
            | some c =>
              exfalso; apply hk
              have hcv := someF_cov hn hs
              refine (cov_iff hn).2 fun x hx => ?_
              have h1 := (cov_iff hn).1 hcv x hx
              rw [Nat.testBit_or, Bool.or_eq_true, unL_snoc, Nat.testBit_or, Bool.or_eq_true, unFrom_bit] at h1
              rw [Nat.testBit_or, Bool.or_eq_true, unFrom_bit]
              rcases h1 with (h1 | h1) | ⟨j', a', b', h1⟩
              · exact .inl h1
              · exact .inr ⟨j, a, b, by simpa using h1⟩
              · exact .inr ⟨j', by omega, b', h1⟩
          rw [hnone i (Nat.le_refl _) (by omega)]
          have : ∀ d' i', i ≤ i' → i' + d' = ms.length → someI (fun i => someF n ms left (ch ++ [(i : Int)]) (i + 1)) i' d' = none := by
            intro d'
            induction d' with
            | zero => intro i' _ _; rfl
            | succ d' ih' =>
              intro i' a b
              rw [someI, hnone i' a (by omega)]
              exact ih' (i' + 1) (by omega) (by omega)
          exact (this d (i + 1) (by omega) (by omega)).symm
    exact loop _ fr (Nat.le_refl _) (by omega)
end Go.Proofs.YtomjbfeafodfbaaGreat
