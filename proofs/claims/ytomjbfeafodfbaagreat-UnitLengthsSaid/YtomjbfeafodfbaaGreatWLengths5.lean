import Derived.Test.YtomjbfeafodfbaaGreatWLengths4

set_option autoImplicit false
set_option linter.unusedSimpArgs false
set_option linter.unusedVariables false
set_option maxRecDepth 100000
namespace Go.Proofs.YtomjbfeafodfbaaGreat
open Go.Sx
open Enc (enc val)
structure EX where
  su : SlV
  st : SlV
  a : SlV
  b : SlV
  c : SlV
  d : SlV
  e : SlV
  f : SlV
def EX.U (y : EX) : List Un := exU y.a y.b y.c y.d y.e y.f
def EX.H (y : EX) : List Asn := [ownL 51 y.st.v exT, ownL 49 y.su.v y.U, ownL 3 y.f.v [(5 : Int)], ownL 3 y.e.v [(0 : Int)], ownL 3 y.d.v [(0 : Int)], ownL 3 y.c.v [(5 : Int)], ownL 3 y.b.v [(4 : Int)], ownL 3 y.a.v [(0 : Int)]]
theorem example_spec (w : World) : Calls Tryz.prog 63 #[] w fun e w' => ∃ y : EX, e = .returned (.tuple #[y.su.v, y.st.v, val exW]) ∧ True ∧ Cl w [] y.H w' := by
  refine calls_cw (vs := []) Tryz.func63 rfl Tryz.ntmps63 rfl (Cl.start0 w) (cw_seq (cw_region (sr rfl rfl rfl ((q_assign rfl rfl)) (sr rfl rfl rfl ((q_assign rfl rfl)) ?_))))
  refine sw_x rfl rfl rfl (e_alloc rfl) (fun b2 => ?_)
  refine sw_nil (post_then (cw_seq (cw_region ?_)))
  refine sw_x rfl rfl rfl (e_build1 (α := Int) rfl rfl rfl rfl) (fun s4 => ?_)
  refine sw_x rfl rfl rfl (e_build1 (α := Int) rfl rfl rfl rfl) (fun s5 => ?_)
  refine sr rfl rfl rfl ((q_build rfl (.cons rfl inferInstance (.cons rfl inferInstance (.cons rfl inferInstance (.cons rfl inferInstance (.cons rfl inferInstance (.cons rfl inferInstance (.nil))))))) rfl)) ?_
  refine sw_x rfl rfl rfl (e_build1 (α := Int) rfl rfl rfl rfl) (fun s7 => ?_)
  refine sw_x rfl rfl rfl (e_build1 (α := Int) rfl rfl rfl rfl) (fun s8 => ?_)
  refine sr rfl rfl rfl ((q_build rfl (.cons rfl inferInstance (.cons rfl inferInstance (.cons rfl inferInstance (.cons rfl inferInstance (.cons rfl inferInstance (.cons rfl inferInstance (.cons rfl inferInstance (.nil)))))))) rfl)) ?_
  refine sw_x rfl rfl rfl (e_build1 (α := Int) rfl rfl rfl rfl) (fun s10 => ?_)
  refine sw_x rfl rfl rfl (e_build1 (α := Int) rfl rfl rfl rfl) (fun s11 => ?_)
  refine sr rfl rfl rfl ((q_build rfl (.cons rfl inferInstance (.cons rfl inferInstance (.cons rfl inferInstance (.cons rfl inferInstance (.cons rfl inferInstance (.cons rfl inferInstance (.cons rfl inferInstance (.nil)))))))) rfl)) ?_
  refine sw_x rfl rfl rfl (e_buildL (α := Un) (l := exU s4 s5 s7 s8 s10 s11) rfl (.cons rfl inferInstance (.cons rfl inferInstance (.cons rfl inferInstance (.nil)))) rfl rfl rfl rfl) (fun s13 => ?_)
  refine sr rfl rfl rfl ((q_assign rfl rfl)) (sw_nil (post_then (cw_seq (cw_region (sr rfl rfl rfl ((q_move rfl rfl)) ?_)))))
  refine sr rfl rfl rfl ((q_build (cells := [.string exA, .string ByteArray.empty, .string ByteArray.empty, .int .i64 100, .int .i64 10]) rfl (.cons rfl inferInstance (.cons rfl inferInstance (.cons rfl inferInstance (.nil)))) (by rfl))) ?_
  refine sr rfl rfl rfl ((q_build (cells := [.string exB, .string ByteArray.empty, .string ByteArray.empty, .int .i64 100, .int .i64 10]) rfl (.cons rfl inferInstance (.cons rfl inferInstance (.cons rfl inferInstance (.nil)))) (by rfl))) ?_
  refine sw_x rfl rfl rfl (e_buildL (α := Wan) (l := exT) rfl (.cons rfl inferInstance (.cons rfl inferInstance (.nil))) rfl rfl rfl rfl) (fun s17 => ?_)
  refine sr rfl rfl rfl ((q_build (cells := enc exW) rfl (.cons rfl inferInstance (.cons rfl inferInstance (.cons rfl inferInstance (.cons rfl inferInstance (.nil))))) (by rfl))) ?_
  refine sr rfl rfl rfl ((q_assign rfl rfl)) (sr rfl rfl rfl ((q_assign rfl rfl)) (sw_eff0 rfl rfl (e_store (i := 8) rfl rfl rfl rfl rfl rfl rfl rfl) (sw_nil (post_then (cw_ret ?_)))))
  refine post_ret3 rfl (resOk_tmp rfl) (resOk_tmp rfl) (resOk_blk (x := exW) rfl (by exact .tail _ (.tail _ (.tail _ (.tail _ (.tail _ (.tail _ (.tail _ (.tail _ (.head _))))))))) (by rfl)) ?_
  exact fun w' hw => ⟨⟨s13, s17, s4, s5, s7, s8, s10, s11⟩, rfl, trivial, (fun w h => Cl.sel (by exact .take 0 rfl (.take 0 rfl (.take 0 rfl (.take 0 rfl (.take 0 rfl (.take 0 rfl (.take 0 rfl (.take 0 rfl (.nil _))))))))) w h) _ hw⟩
theorem ex_un {w : World} {H : List Asn} {w0 : World} (y : EX) (hw : Cl w0 [] H w) (hm : ∀ A ∈ y.H, A ∈ H) : VoRd w y.su y.U ∧ Stb w [] (RdL y.st.v exT) := by
  have h1 := stb_own (e := 49) hw (hm _ (.tail _ (.head _)))
  have h2 := stb_own (e := 51) hw (hm _ (.head _))
  have hf := stb_own (e := 3) hw (hm _ (.tail _ (.tail _ (.head _))))
  have he := stb_own (e := 3) hw (hm _ (.tail _ (.tail _ (.tail _ (.head _)))))
  have hd := stb_own (e := 3) hw (hm _ (.tail _ (.tail _ (.tail _ (.tail _ (.head _))))))
  have hc := stb_own (e := 3) hw (hm _ (.tail _ (.tail _ (.tail _ (.tail _ (.tail _ (.head _)))))))
  have hb := stb_own (e := 3) hw (hm _ (.tail _ (.tail _ (.tail _ (.tail _ (.tail _ (.tail _ (.head _))))))))
  have ha := stb_own (e := 3) hw (hm _ (.tail _ (.tail _ (.tail _ (.tail _ (.tail _ (.tail _ (.tail _ (.head _)))))))))
  refine ⟨⟨h1, fun u hu => ?_⟩, h2⟩
  simp only [EX.U, exU, List.mem_cons, List.not_mem_nil, or_false] at hu
  have sA : exA.size ≤ 140737488355328 := by decide
  have sB : exB.size ≤ 140737488355328 := by decide
  have sE : ByteArray.empty.size ≤ 140737488355328 := by decide
  rcases hu with rfl | rfl | rfl
  · exact ⟨sA, sE, sE, ha, hb⟩
  · exact ⟨sB, sE, sE, hc, hd⟩
  · exact ⟨sA, sE, sE, he, hf⟩
theorem ex_wa : ∀ t ∈ exT, WaRd t := by
  intro t ht
  simp only [exT, List.mem_cons, List.not_mem_nil, or_false] at ht
  rcases ht with rfl | rfl <;> exact ⟨by decide, by decide, by decide⟩
theorem mt_own {w0 w : World} {fp : List Nat} {H : List Asn} (hw : Cl w0 fp H w) {s : SlV} {vs : List SlV} {ls : List (List Int)} {e : TypeId} (hl : ownL e s.v vs ∈ H) (hn : vs.length = ls.length) (hr : ∀ i, i < ls.length → ∃ e2, ownL e2 (nth vs i).v (nth ls i) ∈ H) : Stb w [] (fun w' => Mt w' s.v vs ls) := by
  have h1 := stb_own hw hl
  have h2 : ∀ i, i < ls.length → Stb w [] (RdL (nth vs i).v (nth ls i)) := fun i hi => by
    obtain ⟨e2, h⟩ := hr i hi
    exact stb_own hw h
  exact ⟨fun w' k => ⟨h1.stb w' k, hn, fun i hi => (h2 i hi).stb w' k⟩⟩
theorem ex_rows {w : World} {so sc : SlV} (h1 : Stb w [] (RdL so.v (rowsTo sc 3 2 2))) (h2 : Stb w [] (RdL sc.v [(0 : Int), 0, 20, 0, 0, 0])) : Stb w [] (fun w' => Mt w' so.v (rowsTo sc 3 2 2) [[0, 0, 20], [0, 0, 0]]) := by
  have r0 : Stb w [] (RdL (sc.row 1 0 3).v [(0 : Int), 0, 20]) := stb_row (α := Int) h2 (by decide) (by decide)
  have r1 : Stb w [] (RdL (sc.row 1 3 6).v [(0 : Int), 0, 0]) := stb_row (α := Int) h2 (by decide) (by decide)
  refine ⟨fun w' k => ⟨h1.stb w' k, rowsTo_len _ _ _ _, fun i hi => ?_⟩⟩
  match i, hi with
  | 0, _ => rw [rowsTo_nth _ _ _ _ _ (by decide)]; exact r0.stb w' k
  | 1, _ => rw [rowsTo_nth _ _ _ _ _ (by decide)]; exact r1.stb w' k
def exP : CutP := ⟨[[1], [1], [9]], [[1], [8]], 1⟩
theorem exP_D : (exP.D exP.m 0).getD 0 = 1 := by decide +kernel
theorem exP_pth : exP.pth exP.m 0 = [2, 1] := by decide +kernel
theorem exP_E : cutE exP.fl exP.pl exP.L = 0 := by decide +kernel
theorem exP_ok : exP.Ok where
  fv f hf := by
    have hf' : f < 3 := hf
    match f, hf' with
    | 0, _ => decide
    | 1, _ => decide
    | 2, _ => decide
  pv p hp := by
    have hp' : p < 2 := hp
    match p, hp' with
    | 0, _ => decide
    | 1, _ => decide
  eq f p hf hp := by
    have hf' : f < 3 := hf
    have hp' : p < 2 := hp
    match f, hf', p, hp' with
    | 0, _, 0, _ => rfl
    | 1, _, 0, _ => rfl
    | 2, _, 0, _ => rfl
    | 0, _, 1, _ => rfl
    | 1, _, 1, _ => rfl
    | 2, _, 1, _ => rfl
  n2 := by decide
  m2 := by decide
  l1 := by decide
theorem same_true (sa sb : Value) (a b : List Int) (h : a = b) (w : World) (ha : Stb w [] (RdL sa a)) (hb : Stb w [] (RdL sb b)) : Calls Tryz.prog 23 #[sa, sb] w fun e w' => e = .returned (.bool true) ∧ Cl w [] [] w' := by
  have := same_spec sa sb a b w ha hb
  rwa [decide_eq_true h] at this
theorem sameL_true (sa sb : Value) (va vb : List SlV) (a b : List (List Int)) (h : a = b) (w : World) (ha : Stb w [] (fun w' => Mt w' sa va a)) (hb : Stb w [] (fun w' => Mt w' sb vb b)) : Calls Tryz.prog 24 #[sa, sb] w fun e w' => e = .returned (.bool true) ∧ Cl w [] [] w' := by
  have := sameLists_spec sa sb va vb a b w ha hb
  rwa [decide_eq_true h] at this
theorem known_spec (w : World) : Calls Tryz.prog 18 #[] w fun e w' => e = .returned (.bool true) ∧ Cl w [] [] w' := by
  refine calls_cw (vs := []) Tryz.func18 rfl Tryz.ntmps18 rfl (Cl.start0 w) (cw_seq (cw_region (sr rfl rfl rfl ((q_assign rfl rfl)) (sw_nil (post_then (cw_seq (cw_region ?_)))))))
  refine sw_x rfl rfl rfl (e_call (CanCall.mk Tryz.call63) rfl (.nil) (fun w hw => example_spec w)) (fun y => ?_)
  refine sw_imp fun _ => ?_
  rw [List.append_nil]
  refine sr rfl rfl rfl ((q_move rfl rfl)) (sr rfl rfl rfl ((q_extract rfl rfl rfl)) (sr rfl rfl rfl ((q_extract rfl rfl rfl)) (sr rfl rfl rfl ((q_extract rfl rfl rfl)) ?_)))
  refine sw_x rfl rfl rfl (e_alloc rfl) (fun b3 => ?_)
  refine sr rfl rfl rfl ((q_assign rfl rfl)) (sr rfl rfl rfl ((q_assign rfl rfl)) (sw_eff0 rfl rfl (e_store (i := 0) rfl rfl rfl rfl rfl rfl rfl rfl) (sw_nil (post_then (cw_seq (cw_region (sr rfl rfl rfl ((q_move rfl rfl)) (sr rfl rfl rfl ((q_move rfl rfl)) ?_))))))))
  refine sr rfl rfl rfl ((q_loadA rfl rfl (by exact .head _) rfl)) ?_
  refine sw_x rfl rfl rfl (e_call (CanCall.mk Tryz.call19) rfl (.cons rfl inferInstance (.cons rfl inferInstance (.cons rfl inferInstance (.nil)))) (fun w1 hw => choose_yes y.su y.st y.U exT exW w1 (ex_un y hw (fun A hA => .tail _ hA)).1 (ex_un y hw (fun A hA => .tail _ hA)).2 ex_wa (ex_begin _ _ _ _ _ _) (ex_poss _ _ _ _ _ _) (show (3 + 1) ^ 2 ≤ 500000000 by decide))) (fun z => ?_)
  refine sw_imp fun hz => ?_
  obtain ⟨⟨so, sc⟩, ⟨cells, ⟨qs, qc, ql⟩⟩⟩ := z
  obtain ⟨h1, h2⟩ := hz
  dsimp only at h1 h2
  obtain rfl := ex_cells _ _ _ _ _ _ h1
  obtain ⟨rfl, rfl⟩ := ex_best _ _ _ _ _ _ h2
  clear h1 h2
  dsimp only
  refine sr rfl rfl rfl ((q_move rfl rfl)) (sr rfl rfl rfl ((q_extract rfl rfl rfl)) (sr rfl rfl rfl ((q_extract rfl rfl rfl)) (sr rfl rfl rfl ((q_extract rfl rfl rfl)) ?_)))
  refine sw_x rfl rfl rfl (e_alloc rfl) (fun b4 => ?_)
  refine sw_eff0 rfl rfl (e_store (i := 0) rfl rfl rfl rfl rfl rfl rfl rfl) (sr rfl rfl rfl ((q_assign rfl rfl)) (sr rfl rfl rfl ((q_assign rfl rfl)) (sw_nil (post_then (cw_seq (cw_region (sr rfl rfl rfl ((q_move rfl rfl)) (sr rfl rfl rfl ((q_move rfl rfl)) ?_))))))))
  refine sr rfl rfl rfl ((q_loadA rfl rfl (by exact .tail _ (.tail _ (.tail _ (.tail _ (.head _))))) rfl)) ?_
  refine sw_x rfl rfl rfl (e_call (CanCall.mk Tryz.call26) rfl (.cons rfl inferInstance (.cons rfl inferInstance (.cons rfl inferInstance (.cons rfl inferInstance (.nil))))) (fun w1 hw => best_yes y.su y.st y.U exT exW 5 w1 (ex_un y hw (fun A hA => .tail _ (.tail _ (.tail _ (.tail _ (.tail _ hA)))))).1 (ex_un y hw (fun A hA => .tail _ (.tail _ (.tail _ (.tail _ (.tail _ hA)))))).2 ex_wa (ex_begin _ _ _ _ _ _) (by omega) (ex_poss _ _ _ _ _ _) (show (3 + 1) ^ 2 ≤ 500000000 by decide))) (fun z => ?_)
  refine sw_imp fun hz => ?_
  obtain ⟨so2, ⟨outs, il⟩⟩ := z
  obtain ⟨h1, h2, h3⟩ := hz
  dsimp only at h1 h2 h3 ⊢
  obtain ⟨q1, ⟨u2, c2, l2⟩, rfl, hq⟩ := ex_bests _ _ _ _ _ _ h1 h2
  obtain rfl : c2 = 20 := hq
  clear h1 h2 h3
  refine sw_le (C' := Cl w [] [ownL 30 so2.v [q1, ⟨u2, 20, l2⟩], blk b4 [qs.v, .int .i64 0] 30, ownL 28 so.v (rowsTo sc 3 2 2), ownL 3 sc.v [(0 : Int), 0, 20, 0, 0, 0], ownL 3 qs.v [(0 : Int), 1]]) (fun w h => Cl.sel (by exact .take 0 rfl (.take 2 rfl (.take 2 rfl (.take 2 rfl (.take 2 rfl (.nil _)))))) w h) ?_
  refine sr rfl rfl rfl ((q_move rfl rfl)) (sr rfl rfl rfl ((q_extract rfl rfl rfl)) (sr rfl rfl rfl ((q_extract rfl rfl rfl)) (sr rfl rfl rfl ((q_assign rfl rfl)) (sr rfl rfl rfl ((q_assign rfl rfl)) (sw_nil (post_then (cw_seq (cw_region ?_))))))))
  refine sw_x rfl rfl rfl (e_build1 (α := Int) rfl rfl rfl rfl) (fun s41 => ?_)
  refine sw_x rfl rfl rfl (e_build1 (α := Int) rfl rfl rfl rfl) (fun s42 => ?_)
  refine sw_x rfl rfl rfl (e_build1 (α := Int) rfl rfl rfl rfl) (fun s43 => ?_)
  refine sw_x rfl rfl rfl (e_buildL (α := SlV) (l := [s41, s42, s43]) rfl (.cons rfl inferInstance (.cons rfl inferInstance (.cons rfl inferInstance (.nil)))) rfl rfl rfl rfl) (fun s44 => ?_)
  refine sw_x rfl rfl rfl (e_build1 (α := Int) rfl rfl rfl rfl) (fun s45 => ?_)
  refine sw_x rfl rfl rfl (e_build1 (α := Int) rfl rfl rfl rfl) (fun s46 => ?_)
  refine sw_x rfl rfl rfl (e_buildL (α := SlV) (l := [s45, s46]) rfl (.cons rfl inferInstance (.cons rfl inferInstance (.nil))) rfl rfl rfl rfl) (fun s47 => ?_)
  refine sw_x rfl rfl rfl (e_call (CanCall.mk Tryz.call30) rfl (.cons rfl inferInstance (.cons rfl inferInstance (.cons rfl inferInstance (.nil)))) (fun w1 hw => cut_yes s44 s47 [s41, s42, s43] [s45, s46] exP w1 (mt_own hw (e := 28) (by exact .tail _ (.tail _ (.tail _ (.head _)))) rfl (fun i hi => by match i, hi with | 0, _ => exact ⟨3, (by exact .tail _ (.tail _ (.tail _ (.tail _ (.tail _ (.tail _ (.head _)))))))⟩ | 1, _ => exact ⟨3, (by exact .tail _ (.tail _ (.tail _ (.tail _ (.tail _ (.head _))))))⟩ | 2, _ => exact ⟨3, (by exact .tail _ (.tail _ (.tail _ (.tail _ (.head _)))))⟩)) (mt_own hw (e := 28) (by exact .head _) rfl (fun i hi => by match i, hi with | 0, _ => exact ⟨3, (by exact .tail _ (.tail _ (.head _)))⟩ | 1, _ => exact ⟨3, (by exact .tail _ (.head _))⟩)) exP_E exP_ok (by decide) (by decide))) (fun z => ?_)
  refine sw_imp fun hz => ?_
  obtain ⟨sk, lk⟩ := z
  dsimp only at hz ⊢
  rw [exP_pth] at hz
  subst hz
  rw [exP_D]
  refine sw_le (C' := Cl w [] [ownL 3 sk.v [(2 : Int), 1], ownL 30 so2.v [q1, ⟨u2, 20, l2⟩], blk b4 [qs.v, .int .i64 0] 30, ownL 28 so.v (rowsTo sc 3 2 2), ownL 3 sc.v [(0 : Int), 0, 20, 0, 0, 0], ownL 3 qs.v [(0 : Int), 1]]) (fun w h => Cl.sel (by exact .take 0 rfl (.take 7 rfl (.take 7 rfl (.take 7 rfl (.take 7 rfl (.take 7 rfl (.nil _))))))) w h) ?_
  refine sr rfl rfl rfl ((q_move rfl rfl)) (sr rfl rfl rfl ((q_extract rfl rfl rfl)) (sr rfl rfl rfl ((q_extract rfl rfl rfl)) (sr rfl rfl rfl ((q_extract rfl rfl rfl)) (sr rfl rfl rfl ((q_assign rfl rfl)) (sr rfl rfl rfl ((q_assign rfl rfl)) (sr rfl rfl rfl ((q_assign rfl rfl)) (sw_nil (post_then (cw_seq (cw_region ?_))))))))))
  refine sw_x rfl rfl rfl (e_buildL (α := Int) (l := [0, 1, 2]) rfl (.cons rfl inferInstance (.cons rfl inferInstance (.cons rfl inferInstance (.nil)))) rfl rfl rfl rfl) (fun s52 => ?_)
  refine sw_x rfl rfl rfl (e_buildL (α := Int) (l := [0, 3]) rfl (.cons rfl inferInstance (.cons rfl inferInstance (.nil))) rfl rfl rfl rfl) (fun s53 => ?_)
  refine sw_x rfl rfl rfl (e_buildL (α := Int) (l := [1, 2]) rfl (.cons rfl inferInstance (.cons rfl inferInstance (.nil))) rfl rfl rfl rfl) (fun s54 => ?_)
  refine sw_x rfl rfl rfl (e_build1 (α := Int) rfl rfl rfl rfl) (fun s55 => ?_)
  refine sw_x rfl rfl rfl (e_buildL (α := SlV) (l := [s52, s53, s54, s55]) rfl (.cons rfl inferInstance (.cons rfl inferInstance (.cons rfl inferInstance (.cons rfl inferInstance (.nil))))) rfl rfl rfl rfl) (fun s56 => ?_)
  refine sr rfl rfl rfl ((q_assign rfl rfl)) (sw_nil (post_then (cw_seq (cw_region (sr rfl rfl rfl ((q_move rfl rfl)) ?_)))))
  have hsets : ∀ {w1 : World} {H : List Asn}, Cl w [] H w1 → ownL 28 s56.v [s52, s53, s54, s55] ∈ H → ownL 3 s52.v [(0 : Int), 1, 2] ∈ H → ownL 3 s53.v [(0 : Int), 3] ∈ H → ownL 3 s54.v [(1 : Int), 2] ∈ H → ownL 3 s55.v [(3 : Int)] ∈ H → Stb w1 [] (fun w' => Mt w' s56.v [s52, s53, s54, s55] exS) := fun hw m0 m1 m2 m3 m4 => mt_own hw (e := 28) m0 rfl (fun i hi => by
    have hi' : i < 4 := hi
    match i, hi' with
    | 0, _ => exact ⟨3, m1⟩
    | 1, _ => exact ⟨3, m2⟩
    | 2, _ => exact ⟨3, m3⟩
    | 3, _ => exact ⟨3, m4⟩)
  refine sw_x rfl rfl rfl (e_call (CanCall.mk Tryz.call42) rfl (.cons rfl inferInstance (.cons rfl inferInstance (.nil))) (fun w1 hw => greedy_yes 4 (by omega) s56 [s52, s53, s54, s55] exS (by decide) w1 (hsets hw (by exact .head _) (by exact .tail _ (.tail _ (.tail _ (.tail _ (.head _))))) (by exact .tail _ (.tail _ (.tail _ (.head _)))) (by exact .tail _ (.tail _ (.head _))) (by exact .tail _ (.head _))) exS_cov exS_poss)) (fun z => ?_)
  refine sw_imp fun hz => ?_
  obtain ⟨sa, ⟨la, ka⟩⟩ := z
  dsimp only at hz ⊢
  obtain rfl := exS_k hz.ok hz.full
  obtain rfl : la = [0, 1] := srt_two (by rw [← exS_out]; exact hz.perm) hz.srt
  clear hz
  refine sr rfl rfl rfl ((q_move rfl rfl)) (sr rfl rfl rfl ((q_extract rfl rfl rfl)) (sr rfl rfl rfl ((q_extract rfl rfl rfl)) (sr rfl rfl rfl ((q_assign rfl rfl)) (sr rfl rfl rfl ((q_assign rfl rfl)) (sw_nil (post_then (cw_seq (cw_region (sr rfl rfl rfl ((q_move rfl rfl)) ?_)))))))))
  refine sw_x rfl rfl rfl (e_call (CanCall.mk Tryz.call34) rfl (.cons rfl inferInstance (.cons rfl inferInstance (.nil))) (fun w1 hw => price_yes 4 (by omega) s56 [s52, s53, s54, s55] exS w1 (hsets hw (by exact .tail _ (.head _)) (by exact .tail _ (.tail _ (.tail _ (.tail _ (.tail _ (.head _)))))) (by exact .tail _ (.tail _ (.tail _ (.tail _ (.head _))))) (by exact .tail _ (.tail _ (.tail _ (.head _)))) (by exact .tail _ (.tail _ (.head _)))) exS_cov (by decide) (by rw [exS_wid]; decide) exS_poss)) (fun z => ?_)
  refine sw_imp fun hz => ?_
  obtain ⟨sp, ⟨lp, ⟨kp, lq⟩⟩⟩ := z
  dsimp only at hz ⊢
  obtain ⟨hz1, hz2⟩ := hz
  obtain rfl := exS_k hz2.ok hz2.full
  rw [exS_sh] at hz1
  obtain rfl : lp = [9240, 9240, 9240, 27720] := hz1
  clear hz2
  rw [exS_wid, exS_scale]
  refine sr rfl rfl rfl ((q_move rfl rfl)) (sr rfl rfl rfl ((q_extract rfl rfl rfl)) (sr rfl rfl rfl ((q_extract rfl rfl rfl)) (sr rfl rfl rfl ((q_extract rfl rfl rfl)) (sr rfl rfl rfl ((q_assign rfl rfl)) (sr rfl rfl rfl ((q_assign rfl rfl)) (sr rfl rfl rfl ((q_assign rfl rfl)) (sw_nil (post_then (cw_seq (cw_region (sr rfl rfl rfl ((q_move rfl rfl)) (sr rfl rfl rfl ((q_move rfl rfl)) (sr rfl rfl rfl ((q_move rfl rfl)) ?_)))))))))))))
  refine sw_step rfl rfl rfl (q_call (v := .tuple #[.int .i64 2, .bool true]) (CanCall.mk Tryz.call39) rfl (.cons rfl inferInstance (.cons rfl inferInstance (.cons rfl inferInstance (.cons rfl inferInstance (.nil))))) (fun _ w1 hw => callq hw (by have := proves_yes 4 (by omega) s56 [s52, s53, s54, s55] exS sp [9240, 9240, 9240, 27720] 50820 w1 (hsets hw (by exact .tail _ (.tail _ (.head _))) (by exact .tail _ (.tail _ (.tail _ (.tail _ (.tail _ (.tail _ (.head _))))))) (by exact .tail _ (.tail _ (.tail _ (.tail _ (.tail _ (.head _)))))) (by exact .tail _ (.tail _ (.tail _ (.tail _ (.head _))))) (by exact .tail _ (.tail _ (.tail _ (.head _))))) (stb_own (e := 3) hw (by exact .head _)) exS_cov; rw [exS_prov.1, exS_prov.2] at this; exact this))) ?_
  refine sr rfl rfl rfl ((q_move rfl rfl)) (sr rfl rfl rfl ((q_extract rfl rfl rfl)) (sr rfl rfl rfl ((q_extract rfl rfl rfl)) (sr rfl rfl rfl ((q_assign rfl rfl)) (sr rfl rfl rfl ((q_assign rfl rfl)) (sw_nil (post_then (cw_seq (cw_seq (cw_region (sr rfl rfl rfl ((q_move rfl rfl)) (sr rfl rfl rfl ((q_neq rfl rfl rfl)) (sr rfl rfl rfl ((q_move rfl rfl)) (sr rfl rfl rfl ((q_move rfl rfl)) (sr rfl rfl rfl ((q_neq rfl rfl rfl)) (sr rfl rfl rfl ((q_or2 rfl rfl rfl)) (sr rfl rfl rfl ((q_move rfl rfl)) (sr rfl rfl rfl ((q_move rfl rfl)) (sr rfl rfl rfl ((q_neq rfl rfl rfl)) (sr rfl rfl rfl ((q_or2 rfl rfl rfl)) (sr rfl rfl rfl ((q_move rfl rfl)) (sr rfl rfl rfl ((q_move rfl rfl)) (sr rfl rfl rfl ((q_neq rfl rfl rfl)) (sr rfl rfl rfl ((q_or2 rfl rfl rfl)) (sr rfl rfl rfl ((q_move rfl rfl)) (sr rfl rfl rfl ((q_move rfl rfl)) (sr rfl rfl rfl ((q_neq rfl rfl rfl)) (sr rfl rfl rfl ((q_or2 rfl rfl rfl)) (sr rfl rfl rfl ((q_move rfl rfl)) (sr rfl rfl rfl ((q_move rfl rfl)) (sr rfl rfl rfl ((q_not rfl rfl)) (sr rfl rfl rfl ((q_or2 rfl rfl rfl)) (sr rfl rfl rfl ((q_move rfl rfl)) (sr rfl rfl rfl ((q_move rfl rfl)) ?_)))))))))))))))))))))))))))))))))
  refine sr rfl rfl rfl ((q_len rfl (.cons rfl inferInstance (.nil)) (by exact fun w hw => rd_own hw (by exact .tail _ (.tail _ (.tail _ (.tail _ (.tail _ (.tail _ (.tail _ (.tail _ (.head _)))))))))))) ?_
  refine sr rfl rfl rfl ((q_neq rfl rfl rfl)) (sr rfl rfl rfl ((q_or2 rfl rfl rfl)) (sw_nil (post_then ?_)))
  refine cw_cond rfl (fun h => ?_) (fun h => ?_)
  · skip
    simp at h
  · skip
    clear h
    have hn2 : (nth [q1, (⟨u2, 20, l2⟩ : Sq)] 1).cost = 20 := rfl
    refine cw_skip (post_then (cw_seq (cw_region (sr rfl rfl rfl ((q_fieldAddr rfl rfl)) ?_))))
    refine sr rfl rfl rfl ((q_loadC rfl rfl (by exact .tail _ (.tail _ (.tail _ (.tail _ (.tail _ (.tail _ (.tail _ (.tail _ (.tail _ (.head _)))))))))) rfl)) ?_
    refine sw_x rfl rfl rfl (e_buildL (α := Int) (l := [0, 1]) rfl (.cons rfl inferInstance (.cons rfl inferInstance (.nil))) rfl rfl rfl rfl) (fun s104 => ?_)
    refine sw_step rfl rfl rfl (q_call (v := .bool true) (CanCall.mk Tryz.call23) rfl (.cons rfl inferInstance (.cons rfl inferInstance (.nil))) (fun _ w1 hw => callq hw (same_true _ _ [0, 1] [0, 1] rfl w1 (stb_own (e := 3) hw (by exact .tail _ (.tail _ (.tail _ (.tail _ (.tail _ (.tail _ (.tail _ (.tail _ (.tail _ (.tail _ (.tail _ (.tail _ (.tail _ (.head _))))))))))))))) (stb_own (e := 3) hw (by exact .head _))))) ?_
    refine sr rfl rfl rfl ((q_move rfl rfl)) (sr rfl rfl rfl ((q_fieldAddr rfl rfl)) ?_)
    refine sr rfl rfl rfl ((q_loadC rfl rfl (by exact .tail _ (.tail _ (.tail _ (.tail _ (.tail _ (.tail _ (.tail _ (.tail _ (.tail _ (.tail _ (.head _))))))))))) rfl)) ?_
    refine sr rfl rfl rfl ((q_eql rfl rfl rfl)) (sr rfl rfl rfl ((q_and2 rfl rfl rfl)) (sr rfl rfl rfl ((q_move rfl rfl)) (sr rfl rfl rfl ((q_move rfl rfl)) ?_)))
    refine sw_xc rfl (by first | (simp [AllT]; done) | simp [AllT, *]) rfl rfl (e_buildLc (α := Int) (l := [0, 0, 20]) rfl (.cons rfl inferInstance (.cons rfl inferInstance (.cons rfl inferInstance (.nil)))) rfl rfl rfl rfl) (fun s113 => ?_)
    refine sw_xc rfl (by first | (simp [AllT]; done) | simp [AllT, *]) rfl rfl (e_buildLc (α := Int) (l := [0, 0, 0]) rfl (.cons rfl inferInstance (.cons rfl inferInstance (.cons rfl inferInstance (.nil)))) rfl rfl rfl rfl) (fun s114 => ?_)
    refine sw_xc rfl (by first | (simp [AllT]; done) | simp [AllT, *]) rfl rfl (e_buildLc (α := SlV) (l := [s113, s114]) rfl (.cons rfl inferInstance (.cons rfl inferInstance (.nil))) rfl rfl rfl rfl) (fun s115 => ?_)
    refine sw_step rfl rfl rfl (q_call (v := .bool true) (CanCall.mk Tryz.call24) rfl (.cons rfl inferInstance (.cons rfl inferInstance (.nil))) (fun _ w1 hw => callq hw (sameL_true _ _ (rowsTo sc 3 2 2) [s113, s114] [[0, 0, 20], [0, 0, 0]] [[0, 0, 20], [0, 0, 0]] rfl w1 (ex_rows (stb_own (e := 28) hw (by exact .tail _ (.tail _ (.tail _ (.tail _ (.tail _ (.tail _ (.tail _ (.tail _ (.tail _ (.tail _ (.tail _ (.tail _ (.tail _ (.tail _ (.head _)))))))))))))))) (stb_own (e := 3) hw (by exact .tail _ (.tail _ (.tail _ (.tail _ (.tail _ (.tail _ (.tail _ (.tail _ (.tail _ (.tail _ (.tail _ (.tail _ (.tail _ (.tail _ (.tail _ (.head _)))))))))))))))))) (mt_own hw (e := 28) (by exact .head _) rfl (fun i hi => by match i, hi with | 0, _ => exact ⟨3, (by exact .tail _ (.tail _ (.head _)))⟩ | 1, _ => exact ⟨3, (by exact .tail _ (.head _))⟩))))) ?_
    refine sr rfl rfl rfl ((q_and2 rfl rfl rfl)) (sr rfl rfl rfl ((q_move rfl rfl)) (sr rfl rfl rfl ((q_move rfl rfl)) ?_))
    refine sr rfl rfl rfl ((q_indexN rfl rfl rfl (by exact fun w hw => rd_own hw (by exact .tail _ (.tail _ (.tail _ (.tail _ (.tail _ (.tail _ (.tail _ (.tail _ (.tail _ (.tail _ (.tail _ (.tail _ (.head _)))))))))))))) (by intro hc; (simp only [List.length_set, List.length_append, List.length_cons, List.length_nil, List.length_replicate, List.length_take, List.length_drop, List.length_map]; omega)))) ?_
    refine sr rfl rfl rfl ((q_fieldEl rfl rfl (by exact fun w hw => rd_own hw (by exact .tail _ (.tail _ (.tail _ (.tail _ (.tail _ (.tail _ (.tail _ (.tail _ (.tail _ (.tail _ (.tail _ (.tail _ (.head _)))))))))))))) (by intro hc; (simp only [List.length_set, List.length_append, List.length_cons, List.length_nil, List.length_replicate, List.length_take, List.length_drop, List.length_map]; omega)))) ?_
    refine sr rfl rfl rfl ((q_loadF rfl rfl rfl (by exact fun w hw => rd_own hw (by exact .tail _ (.tail _ (.tail _ (.tail _ (.tail _ (.tail _ (.tail _ (.tail _ (.tail _ (.tail _ (.tail _ (.tail _ (.head _)))))))))))))) (by intro hc; (simp only [List.length_set, List.length_append, List.length_cons, List.length_nil, List.length_replicate, List.length_take, List.length_drop, List.length_map]; omega)) rfl)) ?_
    refine sr rfl rfl rfl ((q_eql rfl rfl rfl)) (sr rfl rfl rfl ((q_and2 rfl rfl rfl)) (sr rfl rfl rfl ((q_move rfl rfl)) (sr rfl rfl rfl ((q_move rfl rfl)) ?_)))
    refine sw_xc rfl (by first | (simp [AllT]; done) | simp [AllT, *]) rfl rfl (e_buildLc (α := Int) (l := [2, 1]) rfl (.cons rfl inferInstance (.cons rfl inferInstance (.nil))) rfl rfl rfl rfl) (fun s127 => ?_)
    refine sw_step rfl rfl rfl (q_call (v := .bool true) (CanCall.mk Tryz.call23) rfl (.cons rfl inferInstance (.cons rfl inferInstance (.nil))) (fun _ w1 hw => callq hw (same_true _ _ [2, 1] [2, 1] rfl w1 (stb_own (e := 3) hw (by exact .tail _ (.tail _ (.tail _ (.tail _ (.tail _ (.tail _ (.tail _ (.tail _ (.tail _ (.tail _ (.tail _ (.tail _ (.head _)))))))))))))) (stb_own (e := 3) hw (by exact .head _))))) ?_
    refine sr rfl rfl rfl ((q_and2 rfl rfl rfl)) (sr rfl rfl rfl ((q_move rfl rfl)) (sr rfl rfl rfl ((q_move rfl rfl)) (sr rfl rfl rfl ((q_eql rfl rfl rfl)) (sr rfl rfl rfl ((q_and2 rfl rfl rfl)) (sr rfl rfl rfl ((q_move rfl rfl)) (sr rfl rfl rfl ((q_move rfl rfl)) ?_))))))
    refine sw_xc rfl (by first | (simp [AllT]; done) | simp [AllT, *]) rfl rfl (e_buildLc (α := Int) (l := [0, 1]) rfl (.cons rfl inferInstance (.cons rfl inferInstance (.nil))) rfl rfl rfl rfl) (fun s136 => ?_)
    refine sw_step rfl rfl rfl (q_call (v := .bool true) (CanCall.mk Tryz.call23) rfl (.cons rfl inferInstance (.cons rfl inferInstance (.nil))) (fun _ w1 hw => callq hw (same_true _ _ [0, 1] [0, 1] rfl w1 (stb_own (e := 3) hw (by exact .tail _ (.tail _ (.tail _ (.tail _ (.tail _ (.tail _ (.tail _ (.head _))))))))) (stb_own (e := 3) hw (by exact .head _))))) ?_
    refine sr rfl rfl rfl ((q_and2 rfl rfl rfl)) (sr rfl rfl rfl ((q_move rfl rfl)) (sr rfl rfl rfl ((q_move rfl rfl)) (sr rfl rfl rfl ((q_eql rfl rfl rfl)) (sr rfl rfl rfl ((q_and2 rfl rfl rfl)) (sr rfl rfl rfl ((q_move rfl rfl)) (sr rfl rfl rfl ((q_move rfl rfl)) (sr rfl rfl rfl ((q_eql rfl rfl rfl)) (sr rfl rfl rfl ((q_and2 rfl rfl rfl)) (sr rfl rfl rfl ((q_assign rfl rfl)) (sw_nil (post_then (cw_ret (post_ret1 rfl (resOk_tmp rfl) ?_)))))))))))))
    exact fun w' hw => ⟨rfl, (fun w h => Cl.sel (by exact .nil _) w h) _ hw⟩
end Go.Proofs.YtomjbfeafodfbaaGreat

/-
  append behind guards that hold. General lemmas, no program text.
-/
set_option autoImplicit false
set_option linter.unusedSectionVars false
namespace Go.Sx
open Enc (enc val)
section
variable {P : Program} {ops : Array Oper} {n : Fr} {E : Env} {cs : List Bool} {o : Oper} {w0 : World} {fp : List Nat} {H : List Asn}
theorem e_appendc {α : Type} [Enc α] {t e : TypeId} {sz bytes : Nat} {z : List Value} {ops' : List Operand} {sv sw : Value} {l r : List α} {i : Nat} (ho : o.op = .call { callee := .builtin .append, args := ops'.toArray, argTypes := #[t, t] }) (hv : Evs E cs ops' [sv, sw])
    [ht : SlT P t e] [hi : InfoT P e sz bytes z] (hsz : sz = Enc.sz α) (hi' : nthA H i = some (ownL e sv l)) (hrd : ∀ w, Cl w0 fp H w → RdL sw r w) (hb : (l.length + r.length) * bytes ≤ 140737488355328) (hb1 : Nat.ble 1 bytes = true) :
    OpEc P n E (Cl w0 fp H) cs o (fun u w' => ∃ s' : SlV, u = s'.v ∧ Cl w0 fp (setA H i (ownL e s'.v (l ++ r))) w') :=
  fun hcs => .of_run fun a w ha hw => by
    obtain ⟨bs, ⟨b1, b2, rfl, hown, rfl⟩, _, _, _, _, h6⟩ := (hw.focus hi').split
    simp only [List.append_nil] at h6
    obtain ⟨v, w', hr, hc⟩ := append_core (P := P) (ty := o.type) (t := t) hsz hown (hrd w hw) hb (Nat.le_of_ble_eq_true hb1)
    refine ⟨v.v, w', ?_, v, rfl, (h6 _ _ hc).set hi'⟩
    unfold execOp; simp only [ho]
    simp only [resolve, invoke, List.map_toArray, hv.eval ha hcs, Sem.run_bind, Sem.run_pure, Result.andThen_ok]
    simp [builtin, hr]
end
end Go.Sx

set_option autoImplicit false
set_option maxRecDepth 100000
namespace Go.Proofs.YtomjbfeafodfbaaGreat
open Go.Sx
open Enc (enc val)
def vecsB (ls : List (List Int)) (most : Int) : Bool := ((List.range ls.length).all fun i => !decide ((i : Int) ≤ most) || decide ((nth ls i).length ≤ 50)) && (decide ((ls.length : Int) ≤ most) || (decide (2000 < ls.length) && decide (ls.length < 2100)))
theorem vectors_spec (sv : SlV) (vs : List SlV) (ls : List (List Int)) (most : Int) (w : World) (hm : Stb w [] (fun w' => Mt w' sv.v vs ls)) : Calls Tryz.prog 29 #[sv.v, .int .i64 most] w fun e w' => e = .returned (.bool (vecsB ls most)) ∧ Cl w [] [] w' := by
  have h1 : Stb w [] (RdL sv.v vs) := stb_map hm fun _ h => h.l
  have n1 := hm.here.n
  have hL := rd_len h1.here
  refine calls_cw (vs := [_, _]) Tryz.func29 rfl Tryz.ntmps29 rfl (Cl.start0 w) (cw_seq (cw_region (sr rfl rfl rfl ((q_assign rfl rfl)) (sw_nil (post_then (cw_seq (cw_seq (cw_region (sr rfl rfl rfl ((q_assign rfl rfl)) (sw_nil (post_then (cw_block ?_))))))))))))
  refine cw_loop (S := Nat) (fun k => [(0, [], sv.v), (1, [], .int .i64 most), (5, [], .int .i64 k)]) (fun _ => Cl w [] []) (fun k => k ≤ ls.length ∧ ∀ j, j < k → (j : Int) ≤ most ∧ (nth ls j).length ≤ 50) (fun k => ls.length - k) 0 ⟨Nat.zero_le _, fun j hj => by omega⟩ (by exact .cons rfl (.cons rfl (.cons rfl .nil))) (fun _ h => h) ?_
  rintro k ⟨hk, hbe⟩
  refine cw_seq (cw_seq (cw_region (sr rfl rfl rfl ((q_move rfl rfl)) (sr rfl rfl rfl ((q_move rfl rfl)) ?_))))
  refine sr rfl rfl rfl ((q_len rfl (.cons rfl inferInstance (.nil)) (by exact fun w hw => Stb.cl (by assumption) hw))) ?_
  refine sr rfl rfl rfl ((q_lss rfl rfl rfl)) (sr rfl rfl rfl ((q_move rfl rfl)) (sr rfl rfl rfl ((q_move rfl rfl)) (sr rfl rfl rfl ((q_move rfl rfl)) (sr rfl rfl rfl ((q_leq rfl rfl rfl)) (sr rfl rfl rfl ((q_and2 rfl rfl rfl)) (sw_nil (post_then ?_)))))))
  refine cw_cond rfl (fun h => ?_) (fun h => ?_)
  · skip
    have h' : k < ls.length ∧ (k : Int) ≤ most := by
      simp only [Bool.and_eq_true, decide_eq_true_eq] at h; omega
    have hrk : Stb w [] (RdL (nth vs k).v (nth ls k)) := stb_map hm fun _ h => h.r k h'.1
    refine cw_skip (post_then (cw_seq (cw_block (cw_seq (cw_region (sr rfl rfl rfl ((q_move rfl rfl)) (sr rfl rfl rfl ((q_move rfl rfl)) ?_)))))))
    refine sr rfl rfl rfl ((q_indexN rfl rfl rfl (by exact fun w hw => Stb.cl (by assumption) hw) (by intro hc; omega))) ?_
    refine sr rfl rfl rfl ((q_loadEl rfl rfl rfl (by exact fun w hw => Stb.cl (by assumption) hw) (by intro hc; omega))) ?_
    refine sr rfl rfl rfl ((q_len rfl (.cons rfl inferInstance (.nil)) (by exact fun w hw => Stb.cl (by assumption) hw))) ?_
    refine sr rfl rfl rfl ((q_gtr rfl rfl rfl)) (sw_nil (post_then ?_))
    refine cw_cond rfl (fun h2 => ?_) (fun h2 => ?_)
    · skip
      have h3 : ¬ (nth ls k).length ≤ 50 := by simp only [decide_eq_true_eq] at h2; omega
      refine cw_seq (cw_region (sr rfl rfl rfl ((q_assign rfl rfl)) (sw_nil (post_then (cw_ret (post_blk_r (post_then_r (post_then_r (post_blk_r (post_then_r (post_ret1 rfl (resOk_tmp rfl) ?_)))))))))))
      refine fun w' hw => ⟨?_, hw⟩
      have : vecsB ls most = false := by
        unfold vecsB
        rw [List.all_eq_false.2 ⟨k, by simpa using h'.1, by simp [h'.2]; omega⟩]; rfl
      rw [this]
    · skip
      have h3 : (nth ls k).length ≤ 50 := by simp only [decide_eq_false_iff_not] at h2; omega
      refine cw_skip (post_blk (post_then (cw_region (sr rfl rfl rfl ((q_move rfl rfl)) ?_))))
      refine sr rfl rfl rfl ((q_add rfl rfl rfl (by intro hc; omega))) ?_
      refine sr rfl rfl rfl ((q_assign rfl rfl)) (sw_nil ?_)
      refine post_next (k + 1) (by exact .cons rfl (.cons rfl (.cons rfl .nil))) (fun _ h => h) ⟨by omega, fun j hj => ?_⟩ (by omega)
      by_cases hjk : j = k
      · rw [hjk]; exact ⟨h'.2, h3⟩
      · exact hbe j (by omega)
  · skip
    have h' : ls.length ≤ k ∨ most < k := by
      by_cases a : k < ls.length
      · by_cases b : (k : Int) ≤ most
        · exfalso
          rw [n1] at h
          simp [a, b] at h
        · right; omega
      · left; omega
    refine cw_exit (post_then_x (post_then_x (post_blk_eq (post_then (cw_seq (cw_region (sr rfl rfl rfl ((q_move rfl rfl)) ?_)))))))
    refine sr rfl rfl rfl ((q_len rfl (.cons rfl inferInstance (.nil)) (by exact fun w hw => Stb.cl (by assumption) hw))) ?_
    refine sr rfl rfl rfl ((q_move rfl rfl)) (sr rfl rfl rfl ((q_leq rfl rfl rfl)) (sr rfl rfl rfl ((q_move rfl rfl)) (sr rfl rfl rfl ((q_move rfl rfl)) ?_)))
    refine sr rfl rfl rfl ((q_len rfl (.cons rfl inferInstance (.nil)) (by exact fun w hw => Stb.cl (by assumption) hw))) ?_
    refine sr rfl rfl rfl ((q_gtr rfl rfl rfl)) (sr rfl rfl rfl ((q_move rfl rfl)) (sr rfl rfl rfl ((q_move rfl rfl)) ?_))
    refine sr rfl rfl rfl ((q_len rfl (.cons rfl inferInstance (.nil)) (by exact fun w hw => Stb.cl (by assumption) hw))) ?_
    refine sr rfl rfl rfl ((q_lss rfl rfl rfl)) (sr rfl rfl rfl ((q_and2 rfl rfl rfl)) (sr rfl rfl rfl ((q_or2 rfl rfl rfl)) (sr rfl rfl rfl ((q_assign rfl rfl)) (sw_nil (post_then (cw_ret (post_ret1 rfl (resOk_tmp rfl) ?_)))))))
    refine fun w' hw => ⟨?_, hw⟩
    have : ((List.range ls.length).all fun i => !decide ((i : Int) ≤ most) || decide ((nth ls i).length ≤ 50)) = true := List.all_eq_true.2 fun j hj => by
      have hj : j < ls.length := by simpa using hj
      by_cases b : (j : Int) ≤ most
      · have := hbe j (by omega)
        simp [b, this.2]
      · simp [b]
    rw [vecsB, this, n1]
    have e1 : decide ((2000 : Int) < ls.length) = decide (2000 < ls.length) := by simp only [decide_eq_decide]; omega
    have e2 : decide ((ls.length : Int) < 2100) = decide (ls.length < 2100) := by simp only [decide_eq_decide]; omega
    simp [e1, e2]
theorem cw_le_nil {P : Program} {c : Code} {Q : Exit → Act → World → Prop} {n : Fr} {E : Env} {w0 : World} {fp : List Nat} {H : List Asn} (h : CW P c Q n E (Cl w0 fp (ownL (α := SlV) 28 (SlV.v ⟨none, 0, 0⟩) [] :: H))) : CW P c Q n E (Cl w0 fp H) := fun a w ha hw => h a w ha (hw.addNil (α := SlV) 28)
theorem lawCut_no (sf sp : SlV) (fv pv : List SlV) (fl pl : List (List Int)) (least : Int) (w : World) (hf : Stb w [] (fun w' => Mt w' sf.v fv fl)) (hp : Stb w [] (fun w' => Mt w' sp.v pv pl)) (hg : inB least 1 100 = false) : Calls Tryz.prog 31 #[sf.v, sp.v, .int .i64 least] w fun e w' => e = .returned (.int .i64 (cutE fl pl least)) ∧ Cl w [] [] w' := by
  have h1 : Stb w [] (RdL sf.v fv) := stb_map hf fun _ h => h.l
  have h2 : Stb w [] (RdL sp.v pv) := stb_map hp fun _ h => h.l
  have n1 := hf.here.n
  have n2 := hp.here.n
  refine calls_cw (vs := [_, _, _]) Tryz.func31 rfl Tryz.ntmps31 rfl (Cl.start0 w) (cw_seq (cw_region (sr rfl rfl rfl ((q_assign rfl rfl)) (sw_nil (post_then (cw_seq (cw_seq (cw_region (sr rfl rfl rfl ((q_move rfl rfl)) ?_)))))))))
  refine sr rfl rfl rfl ((q_len rfl (.cons rfl inferInstance (.nil)) (by exact fun w hw => Stb.cl (by assumption) hw))) ?_
  refine sr rfl rfl rfl ((q_gtr rfl rfl rfl)) (sr rfl rfl rfl ((q_move rfl rfl)) (sr rfl rfl rfl ((q_move rfl rfl)) ?_))
  refine sr rfl rfl rfl ((q_len rfl (.cons rfl inferInstance (.nil)) (by exact fun w hw => Stb.cl (by assumption) hw))) ?_
  refine sr rfl rfl rfl ((q_gtr rfl rfl rfl)) (sr rfl rfl rfl ((q_or2 rfl rfl rfl)) (sw_nil (post_then ?_)))
  refine cw_cond rfl (fun h => ?_) (fun h => ?_)
  · skip
    have h3 : 2000 < fl.length ∨ 2000 < pl.length := by simp only [Bool.or_eq_true, decide_eq_true_eq] at h; omega
    refine cw_seq (cw_region (sr rfl rfl rfl ((q_assign rfl rfl)) (sw_nil (post_then (cw_ret (post_then_r (post_ret1 rfl (resOk_tmp rfl) ?_)))))))
    exact fun w' hw => ⟨by rw [cutE, if_pos h3], (fun w h => Cl.sel (by exact .nil _) w h) _ hw⟩
  · skip
    have h3 : ¬ (2000 < fl.length ∨ 2000 < pl.length) := by simp only [Bool.or_eq_false_iff, decide_eq_false_iff_not] at h; omega
    have hin := hg
    simp only [inB] at hin
    have hnn : (decide (least < 1) || decide (100 < least)) = !false := by
      rw [← hg, inB]
      by_cases a : least < 1 <;> by_cases b : 100 < least <;> simp [a, b] <;> omega
    refine cw_le_nil (cw_skip (post_then (cw_seq (cw_seq (cw_region (sr rfl rfl rfl ((q_move rfl rfl)) (sr rfl rfl rfl ((q_lss rfl rfl rfl)) (sr rfl rfl rfl ((q_move rfl rfl)) (sr rfl rfl rfl ((q_move rfl rfl)) (sr rfl rfl rfl ((q_gtr rfl rfl rfl)) (sr rfl rfl rfl ((q_or2 rfl rfl rfl)) (sr rfl rfl rfl ((q_move rfl rfl)) (sr rfl rfl rfl ((q_move rfl rfl)) ?_)))))))))))))
    refine sr rfl rfl rfl ((q_off (v := .slice none 0 0) (by simp only [AllT, List.mem_singleton, forall_eq]; simp [hnn]))) ?_
    refine sr rfl rfl rfl ((q_move rfl rfl)) ?_
    refine sr rfl rfl rfl ((q_off (v := .slice none 0 0) (by simp only [AllT, List.mem_singleton, forall_eq]; simp [hnn]))) ?_
    refine sr rfl rfl rfl ((q_off (v := .bool (vectorsB (fl ++ pl))) (by simp only [AllT, List.mem_singleton, forall_eq]; simp [hnn]))) ?_
    refine sr rfl rfl rfl ((q_not rfl rfl)) (sr rfl rfl rfl ((q_or2 rfl rfl rfl)) (sw_nil (post_then ?_)))
    refine cw_cond rfl (fun h4 => ?_) (fun h4 => ?_)
    · skip
      have h5 : (inB least 1 100 && vectorsB (fl ++ pl)) = false := by
        rw [hg]
        simp only [hnn] at h4
        cases h6 : vectorsB (fl ++ pl) <;> simp_all
      refine cw_seq (cw_region (sr rfl rfl rfl ((q_assign rfl rfl)) (sw_nil (post_then (cw_ret (post_then_r (post_ret1 rfl (resOk_tmp rfl) ?_)))))))
      exact fun w' hw => ⟨by rw [cutE, if_neg h3, h5]; rfl, (fun w h => Cl.sel (by exact .nil _) w h) _ hw⟩
    · skip
      have h5 : (inB least 1 100 && vectorsB (fl ++ pl)) = true := by
        rw [hg]
        simp only [hnn] at h4
        cases h6 : vectorsB (fl ++ pl) <;> simp_all
      refine cw_skip (post_then (cw_seq (cw_region (sr rfl rfl rfl ((q_assign rfl rfl)) (sw_nil (post_then (cw_ret (post_ret1 rfl (resOk_tmp rfl) ?_))))))))
      exact fun w' hw => ⟨by rw [cutE, if_neg h3, h5]; rfl, (fun w h => Cl.sel (by exact .nil _) w h) _ hw⟩
theorem lawCut_yes (sf sp : SlV) (fv pv : List SlV) (fl pl : List (List Int)) (least : Int) (w : World) (hf : Stb w [] (fun w' => Mt w' sf.v fv fl)) (hp : Stb w [] (fun w' => Mt w' sp.v pv pl)) (hg : inB least 1 100 = true) : Calls Tryz.prog 31 #[sf.v, sp.v, .int .i64 least] w fun e w' => e = .returned (.int .i64 (cutE fl pl least)) ∧ Cl w [] [] w' := by
  have h1 : Stb w [] (RdL sf.v fv) := stb_map hf fun _ h => h.l
  have h2 : Stb w [] (RdL sp.v pv) := stb_map hp fun _ h => h.l
  have n1 := hf.here.n
  have n2 := hp.here.n
  refine calls_cw (vs := [_, _, _]) Tryz.func31 rfl Tryz.ntmps31 rfl (Cl.start0 w) (cw_seq (cw_region (sr rfl rfl rfl ((q_assign rfl rfl)) (sw_nil (post_then (cw_seq (cw_seq (cw_region (sr rfl rfl rfl ((q_move rfl rfl)) ?_)))))))))
  refine sr rfl rfl rfl ((q_len rfl (.cons rfl inferInstance (.nil)) (by exact fun w hw => Stb.cl (by assumption) hw))) ?_
  refine sr rfl rfl rfl ((q_gtr rfl rfl rfl)) (sr rfl rfl rfl ((q_move rfl rfl)) (sr rfl rfl rfl ((q_move rfl rfl)) ?_))
  refine sr rfl rfl rfl ((q_len rfl (.cons rfl inferInstance (.nil)) (by exact fun w hw => Stb.cl (by assumption) hw))) ?_
  refine sr rfl rfl rfl ((q_gtr rfl rfl rfl)) (sr rfl rfl rfl ((q_or2 rfl rfl rfl)) (sw_nil (post_then ?_)))
  refine cw_cond rfl (fun h => ?_) (fun h => ?_)
  · skip
    have h3 : 2000 < fl.length ∨ 2000 < pl.length := by simp only [Bool.or_eq_true, decide_eq_true_eq] at h; omega
    refine cw_seq (cw_region (sr rfl rfl rfl ((q_assign rfl rfl)) (sw_nil (post_then (cw_ret (post_then_r (post_ret1 rfl (resOk_tmp rfl) ?_)))))))
    exact fun w' hw => ⟨by rw [cutE, if_pos h3], (fun w h => Cl.sel (by exact .nil _) w h) _ hw⟩
  · skip
    have h3 : ¬ (2000 < fl.length ∨ 2000 < pl.length) := by simp only [Bool.or_eq_false_iff, decide_eq_false_iff_not] at h; omega
    have hin := hg
    simp only [inB] at hin
    have hnn : (decide (least < 1) || decide (100 < least)) = !true := by
      rw [← hg, inB]
      by_cases a : least < 1 <;> by_cases b : 100 < least <;> simp [a, b] <;> omega
    refine cw_le_nil (cw_skip (post_then (cw_seq (cw_seq (cw_region (sr rfl rfl rfl ((q_move rfl rfl)) (sr rfl rfl rfl ((q_lss rfl rfl rfl)) (sr rfl rfl rfl ((q_move rfl rfl)) (sr rfl rfl rfl ((q_move rfl rfl)) (sr rfl rfl rfl ((q_gtr rfl rfl rfl)) (sr rfl rfl rfl ((q_or2 rfl rfl rfl)) (sr rfl rfl rfl ((q_move rfl rfl)) (sr rfl rfl rfl ((q_move rfl rfl)) ?_)))))))))))))
    refine sw_xc rfl (by first | (simp [AllT]; done) | simp [AllT, *]) rfl rfl (e_appendc (α := SlV) (i := 0) rfl (.cons rfl inferInstance (.cons rfl inferInstance (.nil))) rfl rfl (by exact fun w hw => Stb.cl (by assumption) hw) (by simp only [List.length_nil]; omega) rfl) (fun s23 => ?_)
    refine sr rfl rfl rfl ((q_move rfl rfl)) ?_
    refine sw_xc rfl (by first | (simp [AllT]; done) | simp [AllT, *]) rfl rfl (e_appendc (α := SlV) (i := 0) rfl (.cons rfl inferInstance (.cons rfl inferInstance (.nil))) rfl rfl (by exact fun w hw => Stb.cl (by assumption) hw) (by simp only [List.length_nil, List.length_append]; omega) rfl) (fun s25 => ?_)
    refine sw_step rfl rfl rfl (q_call (v := .bool (vectorsB (fl ++ pl))) (CanCall.mk Tryz.call73) rfl (.cons rfl inferInstance (.nil)) (fun _ w hw => callq hw (by have hm := mt_append (rd_own hw (.head _)) (hf.cl hw) (hp.cl hw); exact refVectors_spec _ (fv ++ pv) (fl ++ pl) w (rd_stb hm.l) hm.n (fun i hi => rd_stb (hm.r i hi))))) ?_
    refine sr rfl rfl rfl ((q_not rfl rfl)) (sr rfl rfl rfl ((q_or2 rfl rfl rfl)) (sw_nil (post_then ?_)))
    refine cw_cond rfl (fun h4 => ?_) (fun h4 => ?_)
    · skip
      have h5 : (inB least 1 100 && vectorsB (fl ++ pl)) = false := by
        rw [hg]
        simp only [hnn] at h4
        cases h6 : vectorsB (fl ++ pl) <;> simp_all
      refine cw_seq (cw_region (sr rfl rfl rfl ((q_assign rfl rfl)) (sw_nil (post_then (cw_ret (post_then_r (post_ret1 rfl (resOk_tmp rfl) ?_)))))))
      exact fun w' hw => ⟨by rw [cutE, if_neg h3, h5]; rfl, (fun w h => Cl.sel (by exact .nil _) w h) _ hw⟩
    · skip
      have h5 : (inB least 1 100 && vectorsB (fl ++ pl)) = true := by
        rw [hg]
        simp only [hnn] at h4
        cases h6 : vectorsB (fl ++ pl) <;> simp_all
      refine cw_skip (post_then (cw_seq (cw_region (sr rfl rfl rfl ((q_assign rfl rfl)) (sw_nil (post_then (cw_ret (post_ret1 rfl (resOk_tmp rfl) ?_))))))))
      exact fun w' hw => ⟨by rw [cutE, if_neg h3, h5]; rfl, (fun w h => Cl.sel (by exact .nil _) w h) _ hw⟩
theorem lawCut_spec (sf sp : SlV) (fv pv : List SlV) (fl pl : List (List Int)) (least : Int) (w : World) (hf : Stb w [] (fun w' => Mt w' sf.v fv fl)) (hp : Stb w [] (fun w' => Mt w' sp.v pv pl)) : Calls Tryz.prog 31 #[sf.v, sp.v, .int .i64 least] w fun e w' => e = .returned (.int .i64 (cutE fl pl least)) ∧ Cl w [] [] w' := by
  cases hg : inB least 1 100
  · exact lawCut_no sf sp fv pv fl pl least w hf hp hg
  · exact lawCut_yes sf sp fv pv fl pl least w hf hp hg
end Go.Proofs.YtomjbfeafodfbaaGreat

/-
  Rows: a list of slices, each the call's own, told by a function. General lemmas, no program text.
-/
set_option autoImplicit false
namespace Go.Sx
open Enc (enc val)
section
variable {α : Type} [Enc α] (e : TypeId) (vs : List SlV) (f : Nat → List α)
def rowsAt (is : List Nat) : List Asn := is.map fun i => ownL e (nth vs i).v (f i)
def rowsF : List Asn := rowsAt e vs f (List.range vs.length)
def rowsO (i : Nat) : List Asn := rowsAt e vs f ((List.range vs.length).erase i)
def rowsO2 (i j : Nat) : List Asn := rowsAt e vs f (((List.range vs.length).erase i).erase j)
variable {e vs f}
theorem rowsAt_out {is : List Nat} {i : Nat} (hi : i ∈ is) : (rowsAt e vs f is).Perm (ownL e (nth vs i).v (f i) :: rowsAt e vs f (is.erase i)) := (List.perm_cons_erase hi).map _
theorem rowsAt_congr {is : List Nat} {f' : Nat → List α} {vs' : List SlV} (h : ∀ i ∈ is, f' i = f i) (h2 : ∀ i ∈ is, nth vs' i = nth vs i) : rowsAt e vs' f' is = rowsAt e vs f is := List.map_congr_left fun i hi => by rw [h i hi, h2 i hi]
theorem rowsF_out {i : Nat} (hi : i < vs.length) : (rowsF e vs f).Perm (ownL e (nth vs i).v (f i) :: rowsO e vs f i) := rowsAt_out (by simpa using hi)
theorem rowsF_in {f' : Nat → List α} {i : Nat} {l : List α} (hi : i < vs.length) (h : ∀ k, k < vs.length → k ≠ i → f' k = f k) (hl : f' i = l) : (ownL e (nth vs i).v l :: rowsO e vs f i).Perm (rowsF e vs f') := by
  refine List.Perm.trans ?_ (rowsF_out (f := f') hi).symm
  rw [hl]
  have : rowsO e vs f' i = rowsO e vs f i := rowsAt_congr (fun k hk => by
    have hn : (List.range vs.length).Nodup := List.nodup_range
    have := (hn.mem_erase_iff).1 hk
    exact h k (by simpa using this.2) this.1) fun _ _ => rfl
  rw [this]
theorem rowsO_out {i j : Nat} (hj : j < vs.length) (hij : j ≠ i) : (rowsO e vs f i).Perm (ownL e (nth vs j).v (f j) :: rowsO2 e vs f i j) := rowsAt_out (by
  have hn : (List.range vs.length).Nodup := List.nodup_range
  exact (hn.mem_erase_iff).2 ⟨hij, by simpa using hj⟩)
/-- Two rows apart. -/
theorem rowsF_out2 {i j : Nat} (hi : i < vs.length) (hj : j < vs.length) (hij : j ≠ i) : (rowsF e vs f).Perm (ownL e (nth vs i).v (f i) :: ownL e (nth vs j).v (f j) :: rowsO2 e vs f i j) := (rowsF_out hi).trans ((rowsO_out hj hij).cons _)
theorem rowsF_in2 {f' : Nat → List α} {i j : Nat} {l : List α} (hi : i < vs.length) (hj : j < vs.length) (hij : j ≠ i) (h : ∀ k, k < vs.length → k ≠ i → f' k = f k) (hl : f' i = l) : (ownL e (nth vs i).v l :: ownL e (nth vs j).v (f j) :: rowsO2 e vs f i j).Perm (rowsF e vs f') :=
  ((rowsO_out (e := e) (f := f) hj hij).symm.cons _).trans (rowsF_in hi h hl)
theorem rowsF_snoc {s : SlV} : rowsF e (vs ++ [s]) f = rowsF e vs f ++ [ownL e s.v (f vs.length)] := by
  unfold rowsF
  rw [List.length_append, List.length_singleton, List.range_succ]
  unfold rowsAt
  rw [List.map_append]
  congr 1
  · refine List.map_congr_left fun i hi => ?_
    have hi : i < vs.length := by simpa using hi
    have : nth (vs ++ [s]) i = nth vs i := by simp only [nth, List.getD]; rw [List.getElem?_append_left hi]
    rw [this]
  · have : nth (vs ++ [s]) vs.length = s := by simp [nth]
    simp [this]
theorem rowsF_congr {f' : Nat → List α} (h : ∀ i, i < vs.length → f' i = f i) : rowsF e vs f' = rowsF e vs f := rowsAt_congr (fun i hi => h i (by simpa using hi)) fun _ _ => rfl
theorem rowsF_mem {i : Nat} (hi : i < vs.length) : ownL e (nth vs i).v (f i) ∈ rowsF e vs f := List.mem_map_of_mem (f := fun i => ownL e (nth vs i).v (f i)) (by simpa using hi)
end
end Go.Sx

set_option autoImplicit false
set_option maxRecDepth 100000
namespace Go.Proofs.YtomjbfeafodfbaaGreat
open Go.Sx
open Enc (enc val)
def rO (x : Option Int) : Int := x.getD (-1)
namespace CutP
variable (P : CutP)
/-- The least cost of the phones from P.m - (q + 1) on, the first one ending at most c frames behind f. -/
def rb (q f : Nat) : Nat → Option Int
  | 0 => none
  | c + 1 => if P.L ≤ c + 1 then match P.D q (f + (c + 1)) with
    | none => rb q f c
    | some v => match rb q f c with
      | none => some (P.S (P.m - (q + 1)) (f + (c + 1)) - P.S (P.m - (q + 1)) f + v)
      | some b => if P.S (P.m - (q + 1)) (f + (c + 1)) - P.S (P.m - (q + 1)) f + v < b then some (P.S (P.m - (q + 1)) (f + (c + 1)) - P.S (P.m - (q + 1)) f + v) else some b
    else rb q f c
variable {P}
theorem rb_spec (q f : Nat) : ∀ c, match P.rb q f c with
    | none => ∀ d, 1 ≤ d → d ≤ c → P.L ≤ d → P.D q (f + d) = none
    | some b => (∃ d v, 1 ≤ d ∧ d ≤ c ∧ P.L ≤ d ∧ P.D q (f + d) = some v ∧ b = P.S (P.m - (q + 1)) (f + d) - P.S (P.m - (q + 1)) f + v) ∧ ∀ d v, 1 ≤ d → d ≤ c → P.L ≤ d → P.D q (f + d) = some v → b ≤ P.S (P.m - (q + 1)) (f + d) - P.S (P.m - (q + 1)) f + v
  | 0 => by simp only [rb]; intro d a b; omega
  | c + 1 => by
    have ih := rb_spec q f c
    rw [rb]
    by_cases hL : P.L ≤ c + 1
    · rw [if_pos hL]
      cases hD : P.D q (f + (c + 1)) with
      | none =>
        simp only
        cases hr : P.rb q f c with
        | none =>
          rw [hr] at ih
          simp only at ih ⊢
          intro d a b h
          by_cases e : d = c + 1
          · rw [e]; exact hD
          · exact ih d a (by omega) h
        | some b0 =>
          rw [hr] at ih
          simp only at ih ⊢
          obtain ⟨⟨d, v, h1, h2, h3, h4, h5⟩, h6⟩ := ih
          refine ⟨⟨d, v, h1, by omega, h3, h4, h5⟩, fun d v a b h hv => ?_⟩
          by_cases e : d = c + 1
          · rw [e, hD] at hv; cases hv
          · exact h6 d v a (by omega) h hv
      | some v =>
        simp only
        cases hr : P.rb q f c with
        | none =>
          rw [hr] at ih
          simp only at ih ⊢
          refine ⟨⟨c + 1, v, by omega, Nat.le_refl _, hL, hD, rfl⟩, fun d v' a b h hv => ?_⟩
          by_cases e : d = c + 1
          · rw [e, hD] at hv; cases hv; rw [e]; exact Int.le_refl _
          · rw [ih d a (by omega) h] at hv; cases hv
        | some b0 =>
          rw [hr] at ih
          simp only at ih ⊢
          obtain ⟨⟨d0, v0, h1, h2, h3, h4, h5⟩, h6⟩ := ih
          split
          · rename_i o heq
            split at heq
            · cases heq
            · cases heq
          · rename_i o b heq
            split at heq
            · rename_i hlt
              cases heq
              refine ⟨⟨c + 1, v, by omega, Nat.le_refl _, hL, hD, rfl⟩, fun d v' a b h hv => ?_⟩
              by_cases e : d = c + 1
              · rw [e, hD] at hv; cases hv; rw [e]; exact Int.le_refl _
              · have := h6 d v' a (by omega) h hv; omega
            · rename_i hlt
              cases heq
              refine ⟨⟨d0, v0, h1, by omega, h3, h4, h5⟩, fun d v' a b h hv => ?_⟩
              by_cases e : d = c + 1
              · rw [e, hD] at hv; cases hv; rw [e]; omega
              · exact h6 d v' a (by omega) h hv
    · rw [if_neg hL]
      cases hr : P.rb q f c with
      | none =>
        rw [hr] at ih
        simp only at ih ⊢
        intro d a b h
        by_cases e : d = c + 1
        · omega
        · exact ih d a (by omega) h
      | some b0 =>
        rw [hr] at ih
        simp only at ih ⊢
        obtain ⟨⟨d, v, h1, h2, h3, h4, h5⟩, h6⟩ := ih
        refine ⟨⟨d, v, h1, by omega, h3, h4, h5⟩, fun d v a b h hv => ?_⟩
        by_cases e : d = c + 1
        · omega
        · exact h6 d v a (by omega) h hv
theorem rb_all (h : P.Ok) {q f : Nat} (hf : f ≤ P.n) : P.rb q f (P.n - f) = P.D (q + 1) f := by
  have h1 := rb_spec (P := P) q f (P.n - f)
  have hL := h.l1
  rw [D_succ]
  cases hB : P.B q (f + P.L) with
  | none =>
    cases hr : P.rb q f (P.n - f) with
    | none => rfl
    | some b =>
      rw [hr] at h1
      obtain ⟨⟨d, v, a1, a2, a3, a4, a5⟩, _⟩ := h1
      exfalso
      have hV : P.V q (f + d) = some (P.S (P.m - (q + 1)) (f + d) + v) := by simp [V, a4]
      exact bst_ne hV (lo := f + P.L) (c := P.n + 1 - (f + P.L)) (by omega) (by omega) hB
  | some y =>
    obtain ⟨b, g⟩ := y
    obtain ⟨h2, h3, h4⟩ := bst_spec hB
    simp only [V, Option.map_eq_some_iff] at h3
    obtain ⟨v, h5, h6⟩ := h3
    simp only [Option.map_some]
    cases hr : P.rb q f (P.n - f) with
    | none =>
      rw [hr] at h1
      have := h1 (g - f) (by omega) (by omega) (by omega)
      rw [show f + (g - f) = g by omega, h5] at this; cases this
    | some b0 =>
      rw [hr] at h1
      obtain ⟨⟨d, v', a1, a2, a3, a4, a5⟩, a6⟩ := h1
      have h7 := a6 (g - f) v (by omega) (by omega) (by omega) (by rw [show f + (g - f) = g by omega]; exact h5)
      rw [show f + (g - f) = g by omega] at h7
      have hV : P.V q (f + d) = some (P.S (P.m - (q + 1)) (f + d) + v') := by simp [V, a4]
      have h8 := (h4 (f + d) _ (by omega) (by omega) hV).1
      congr 1
      omega
theorem rb_nonneg (h : P.Ok) {q f c : Nat} (hq : q < P.m) (hf : f + c ≤ P.n) {b : Int} (hb : P.rb q f c = some b) : 0 ≤ b ∧ b ≤ 3200000000 := by
  have h1 := rb_spec (P := P) q f c
  rw [hb] at h1
  obtain ⟨⟨d, v, a1, a2, a3, a4, a5⟩, _⟩ := h1
  have h2 := D_bd h (by omega) (by omega) a4
  have h3 := S_le h (p := P.m - (q + 1)) (by omega) (f := f) (g := f + d) (by omega) (by omega)
  have h4 := h.n2
  omega
theorem rO_D (h : P.Ok) {q f : Nat} (hq : q ≤ P.m) (hf : f ≤ P.n) : -1 ≤ rO (P.D q f) ∧ rO (P.D q f) ≤ 1600000000 := by
  cases hD : P.D q f with
  | none => simp [rO]
  | some v =>
    have := D_bd h hq hf hD
    have := h.n2
    simp only [rO, Option.getD_some]; omega
theorem rO_rb (h : P.Ok) {q f c : Nat} (hq : q < P.m) (hf : f + c ≤ P.n) : -1 ≤ rO (P.rb q f c) ∧ rO (P.rb q f c) ≤ 3200000000 := by
  cases hb : P.rb q f c with
  | none => simp [rO]
  | some b =>
    have := rb_nonneg h hq hf hb
    simp only [rO, Option.getD_some]; omega
/-- One step of the table: what is compared. -/
theorem rb_step_yes (h : P.Ok) {q f c : Nat} (hq : q < P.m) (hf : f + (c + 1) ≤ P.n) (h1 : (P.L : Int) ≤ (c : Int) + 1) (h2 : 0 ≤ rO (P.D q (f + (c + 1)))) (h3 : rO (P.rb q f c) < 0 ∨ P.S (P.m - (q + 1)) (f + (c + 1)) - P.S (P.m - (q + 1)) f + rO (P.D q (f + (c + 1))) < rO (P.rb q f c)) :
    rO (P.rb q f (c + 1)) = P.S (P.m - (q + 1)) (f + (c + 1)) - P.S (P.m - (q + 1)) f + rO (P.D q (f + (c + 1))) := by
  rw [rb, if_pos (by omega)]
  cases hD : P.D q (f + (c + 1)) with
  | none => rw [hD] at h2; simp [rO] at h2
  | some v =>
    rw [hD] at h3
    simp only
    cases hb : P.rb q f c with
    | none => rfl
    | some b =>
      rw [hb] at h3
      have := rb_nonneg h hq (by omega) hb
      simp only [rO, Option.getD_some] at h3 ⊢
      rw [if_pos (by omega)]; rfl
theorem rb_step_no {q f c : Nat} (h0 : ¬ ((P.L : Int) ≤ (c : Int) + 1 ∧ 0 ≤ rO (P.D q (f + (c + 1))) ∧ (rO (P.rb q f c) < 0 ∨ P.S (P.m - (q + 1)) (f + (c + 1)) - P.S (P.m - (q + 1)) f + rO (P.D q (f + (c + 1))) < rO (P.rb q f c)))) (hD0 : ∀ v, P.D q (f + (c + 1)) = some v → 0 ≤ v) :
    rO (P.rb q f (c + 1)) = rO (P.rb q f c) := by
  rw [rb]
  by_cases hL : P.L ≤ c + 1
  · rw [if_pos hL]
    cases hD : P.D q (f + (c + 1)) with
    | none => rfl
    | some v =>
      have hv := hD0 v hD
      rw [hD] at h0
      simp only
      cases hb : P.rb q f c with
      | none =>
        exfalso; apply h0
        rw [hb]
        refine ⟨by omega, by simpa [rO] using hv, .inl (by simp [rO])⟩
      | some b =>
        rw [hb] at h0
        simp only [rO, Option.getD_some] at h0
        simp only
        rw [if_neg (fun hlt => h0 ⟨by omega, hv, .inr hlt⟩)]
  · rw [if_neg hL]
theorem D_none : ∀ {q f : Nat} {v : Int}, f ≤ P.n → P.D q f = some v → q * P.L ≤ P.n - f ∧ (q = 0 → f = P.n)
  | 0, f, v, _, e => by
    simp only [D] at e
    split at e
    · rename_i hf; exact ⟨by omega, fun _ => hf⟩
    · cases e
  | q + 1, f, v, hf, e => by
    rw [D_succ] at e
    cases hB : P.B q (f + P.L) with
    | none => rw [hB] at e; cases e
    | some y =>
      obtain ⟨b, g⟩ := y
      obtain ⟨h1, h2, _⟩ := bst_spec hB
      simp only [V, Option.map_eq_some_iff] at h2
      obtain ⟨u, h3, _⟩ := h2
      have := (D_none (by omega) h3).1
      rw [Nat.add_mul, Nat.one_mul]
      exact ⟨by omega, fun h => by omega⟩
end CutP
end Go.Proofs.YtomjbfeafodfbaaGreat

set_option autoImplicit false
set_option maxRecDepth 100000
namespace Go.Proofs.YtomjbfeafodfbaaGreat
open Go.Sx
open Enc (enc val)
theorem set_same {l : List Int} {i : Nat} {v : Int} (h : nth l i = v) (hi : i < l.length) : l.set i v = l := by
  rw [← h, nth_get hi]; exact List.set_getElem_self hi
theorem perm_rot {α : Type} {a b : α} {R : List α} : (a :: b :: R).Perm (b :: (R ++ [a])) := (List.Perm.swap b a R).trans (.cons b (List.perm_append_comm (l₁ := [a]) (l₂ := R)))
theorem perm_in1 {α : Type} {a b : α} {R T : List α} (h : (a :: R).Perm T) : (a :: b :: R).Perm (b :: T) := (List.Perm.swap b a R).trans (.cons b h)
theorem perm_in2 {α : Type} {a b c : α} {R T : List α} (h : (a :: b :: R).Perm T) : (a :: b :: c :: R).Perm (c :: T) :=
  ((List.Perm.swap c b R).cons a).trans ((List.Perm.swap c a (b :: R)).trans (.cons c h))
theorem perm_in3 {α : Type} {a b c d : α} {R T : List α} (h : (a :: b :: R).Perm T) : (d :: a :: b :: c :: R).Perm (d :: c :: T) := (perm_in2 h).cons d
set_option maxHeartbeats 4000000 in
theorem refCuts_spec (sf sp : SlV) (fv pv : List SlV) (P : CutP) (w : World) (hf : Stb w [] (fun w' => Mt w' sf.v fv P.fl)) (hp : Stb w [] (fun w' => Mt w' sp.v pv P.pl)) (ok : P.Ok) :
    Calls Tryz.prog 32 #[sf.v, sp.v, .int .i64 P.L] w fun e w' => ∃ y : SlV × List Int, e = .returned (.tuple #[y.1.v, .int .i64 (rO (P.D P.m 0))]) ∧ (P.D P.m 0 ≠ none → y.2 = P.pth P.m 0) ∧ Cl w [] [ownL 3 y.1.v y.2] w' := by
  have h1 : Stb w [] (RdL sf.v fv) := stb_map hf fun _ h => h.l
  have h2 : Stb w [] (RdL sp.v pv) := stb_map hp fun _ h => h.l
  have n1 : fv.length = P.n := hf.here.n
  have n2 : pv.length = P.m := hp.here.n
  have hL := ok.l1
  have hm2 := ok.m2
  have hn2 := ok.n2
  refine calls_cw (vs := [_, _, _]) Tryz.func32 rfl Tryz.ntmps32 rfl (Cl.start0 w) (cw_seq (cw_region (sr rfl rfl rfl ((q_assign rfl rfl)) (sr rfl rfl rfl ((q_assign rfl rfl)) (sw_nil (post_then (cw_seq (cw_region (sr rfl rfl rfl ((q_move rfl rfl)) ?_)))))))))
  refine sr rfl rfl rfl ((q_len rfl (.cons rfl inferInstance (.nil)) (by exact fun w hw => Stb.cl (by assumption) hw))) ?_
  refine sr rfl rfl rfl ((q_add rfl rfl rfl (by intro hc; omega))) ?_
  refine sw_x rfl rfl rfl (e_make (α := SlV) (zero := ⟨none, 0, 0⟩) rfl rfl rfl rfl rfl (by omega) (by omega) (by decide)) (fun s23 => ?_)
  have e0 : ((pv.length : Int) + 1).toNat = P.m + 1 := by omega
  rw [e0]
  refine sr rfl rfl rfl ((q_assign rfl rfl)) (sw_nil (post_then (cw_seq (cw_seq (cw_region (sr rfl rfl rfl ((q_assign rfl rfl)) (sw_nil (post_then (cw_block ?_)))))))))
  refine cw_loop (S := List SlV) (fun V => [(0, [], sf.v), (1, [], sp.v), (2, [], .int .i64 P.L), (8, [], s23.v), (9, [], .int .i64 V.length)]) (fun V => Cl w [] (ownL 28 s23.v (V ++ List.replicate (P.m + 1 - V.length) ⟨none, 0, 0⟩) :: rowsF 3 V (fun _ => List.replicate (P.n + 1) (-1 : Int)))) (fun V => V.length ≤ P.m + 1) (fun V => P.m + 1 - V.length) [] (Nat.zero_le _) (by exact .cons rfl (.cons rfl (.cons rfl (.cons rfl (.cons rfl .nil))))) (fun w' h => h) ?_
  intro V hV
  refine cw_seq (cw_seq (cw_region (sr rfl rfl rfl ((q_move rfl rfl)) (sr rfl rfl rfl ((q_move rfl rfl)) ?_))))
  refine sr rfl rfl rfl ((q_len rfl (.cons rfl inferInstance (.nil)) (by exact fun w hw => Stb.cl (by assumption) hw))) ?_
  refine sr rfl rfl rfl ((q_leq rfl rfl rfl)) (sw_nil (post_then ?_))
  refine cw_cond rfl (fun h => ?_) (fun h => ?_)
  · skip
    have hV' : V.length < P.m + 1 := by simp only [decide_eq_true_eq] at h; omega
    have hcl : (V ++ List.replicate (P.m + 1 - V.length) (⟨none, 0, 0⟩ : SlV)).length = P.m + 1 := by simp; omega
    refine cw_skip (post_then (cw_seq (cw_block (cw_seq (cw_region (sr rfl rfl rfl ((q_move rfl rfl)) (sr rfl rfl rfl ((q_move rfl rfl)) (sr rfl rfl rfl ((q_move rfl rfl)) ?_))))))))
    refine sr rfl rfl rfl ((q_len rfl (.cons rfl inferInstance (.nil)) (by exact fun w hw => Stb.cl (by assumption) hw))) ?_
    refine sr rfl rfl rfl ((q_add rfl rfl rfl (by intro hc; omega))) ?_
    refine sw_x rfl rfl rfl (e_make (α := Int) (zero := 0) rfl rfl rfl rfl rfl (by omega) (by omega) (by decide)) (fun s35 => ?_)
    have e1 : ((fv.length : Int) + 1).toNat = P.n + 1 := by omega
    rw [e1]
    refine sr rfl rfl rfl ((q_indexN rfl rfl rfl (by exact fun w hw => rd_own hw (by exact .tail _ (.head _))) (by intro hc; omega))) ?_
    refine sw_eff0 rfl rfl (e_storeEl1 (i := 1) rfl rfl rfl rfl rfl (by omega)) ?_
    refine sw_nil (post_then (cw_seq (cw_region (sr rfl rfl rfl ((q_assign rfl rfl)) (sw_nil (post_then (cw_block ?_)))))))
    have hcv : (V ++ List.replicate (P.m + 1 - V.length) (⟨none, 0, 0⟩ : SlV)).set V.length s35 = (V ++ [s35]) ++ List.replicate (P.m + 1 - (V ++ [s35]).length) ⟨none, 0, 0⟩ := by
      rw [List.set_append_right _ _ (Nat.le_refl _), Nat.sub_self, show P.m + 1 - V.length = (P.m + 1 - (V ++ [s35]).length) + 1 by simp; omega, List.replicate_succ, List.set_cons_zero]
      simp
    have hrow : nth ((V ++ List.replicate (P.m + 1 - V.length) (⟨none, 0, 0⟩ : SlV)).set V.length s35) V.length = s35 := by rw [nth_setP _ _ _ _ (by omega), if_pos rfl]
    have hcl2 : ((V ++ List.replicate (P.m + 1 - V.length) (⟨none, 0, 0⟩ : SlV)).set V.length s35).length = P.m + 1 := by rw [List.length_set, hcl]
    generalize (V ++ List.replicate (P.m + 1 - V.length) (⟨none, 0, 0⟩ : SlV)).set V.length s35 = cv at hcv hrow hcl2 ⊢
    refine cw_loop (S := Nat × List Int) (fun y => [(0, [], sf.v), (1, [], sp.v), (2, [], .int .i64 P.L), (8, [], s23.v), (9, [], .int .i64 V.length), (10, [], .int .i64 y.1)]) (fun y => Cl w [] (ownL 3 (nth cv V.length).v y.2 :: ownL 28 s23.v cv :: rowsF 3 V (fun _ => List.replicate (P.n + 1) (-1 : Int)))) (fun y => y.1 ≤ P.n + 1 ∧ y.2.length = P.n + 1 ∧ ∀ j, j < y.1 → nth y.2 j = -1) (fun y => P.n + 1 - y.1) (0, List.replicate (P.n + 1) 0) ⟨Nat.zero_le _, by simp, fun j hj => by omega⟩ (by exact .cons rfl (.cons rfl (.cons rfl (.cons rfl (.cons rfl (.cons rfl .nil)))))) (fun w' h => by rw [hrow]; exact h) ?_
    rintro ⟨k, l⟩ ⟨hk, hll, hlt⟩
    dsimp only at hk hll hlt ⊢
    refine cw_seq (cw_seq (cw_region (sr rfl rfl rfl ((q_move rfl rfl)) (sr rfl rfl rfl ((q_move rfl rfl)) ?_))))
    refine sr rfl rfl rfl ((q_len rfl (.cons rfl inferInstance (.nil)) (by exact fun w hw => Stb.cl (by assumption) hw))) ?_
    refine sr rfl rfl rfl ((q_leq rfl rfl rfl)) (sw_nil (post_then ?_))
    refine cw_cond rfl (fun h3 => ?_) (fun h3 => ?_)
    · skip
      have hk' : k < P.n + 1 := by simp only [decide_eq_true_eq] at h3; omega
      refine cw_skip (post_then (cw_seq (cw_block (cw_region (sr rfl rfl rfl ((q_move rfl rfl)) (sr rfl rfl rfl ((q_move rfl rfl)) ?_))))))
      refine sr rfl rfl rfl ((q_indexN rfl rfl rfl (by exact fun w hw => rd_own hw (by exact .tail _ (.head _))) (by intro hc; omega))) ?_
      refine sr rfl rfl rfl ((q_loadEl rfl rfl rfl (by exact fun w hw => rd_own hw (by exact .tail _ (.head _))) (by intro hc; omega))) ?_
      refine sr rfl rfl rfl ((q_move rfl rfl)) ?_
      refine sr rfl rfl rfl ((q_indexN rfl rfl rfl (by exact fun w hw => rd_own hw (by exact .head _)) (by intro hc; omega))) ?_
      refine sw_eff0 rfl rfl (e_storeEl1 (i := 0) rfl rfl rfl rfl rfl (by omega)) ?_
      refine sw_nil (post_blk (post_then (cw_region (sr rfl rfl rfl ((q_move rfl rfl)) ?_))))
      refine sr rfl rfl rfl ((q_add rfl rfl rfl (by intro hc; omega))) ?_
      refine sr rfl rfl rfl ((q_assign rfl rfl)) (sw_nil ?_)
      refine post_next (k + 1, l.set k (-1)) (by exact .cons rfl (.cons rfl (.cons rfl (.cons rfl (.cons rfl (.cons rfl .nil)))))) (fun _ h => h) ⟨by simp only; omega, by simp [hll], fun j hj => ?_⟩ (by simp only; omega)
      simp only at hj ⊢
      rw [nth_setP _ _ _ _ (by omega)]
      by_cases e : j = k
      · rw [if_pos e]
      · rw [if_neg e]; exact hlt j (by omega)
    · skip
      have hk' : k = P.n + 1 := by simp only [decide_eq_false_iff_not] at h3; omega
      have hl : l = List.replicate (P.n + 1) (-1) := by
        apply List.ext_getElem (by simp [hll])
        intro j a b
        have := hlt j (by omega)
        rw [nth_get a] at this
        simp [this]
      refine cw_exit (post_then_x (post_then_x (post_blk_eq (post_blk (post_then (cw_region (sr rfl rfl rfl ((q_move rfl rfl)) ?_)))))))
      refine sr rfl rfl rfl ((q_add rfl rfl rfl (by intro hc; omega))) ?_
      refine sr rfl rfl rfl ((q_assign rfl rfl)) (sw_nil ?_)
      refine post_next (V ++ [s35]) ?_ (fun w3 hw3 => ?_) (by simp; omega) (by simp; omega)
      · exact Le.cons rfl (Le.cons rfl (Le.cons rfl (Le.cons rfl (Le.cons' rfl (by congr 1; simp) Le.nil))))
      · rw [hrow, hcv, hl] at hw3
        rw [rowsF_snoc]
        exact hw3.perm perm_rot
  · skip
    have hV' : V.length = P.m + 1 := by simp only [decide_eq_false_iff_not] at h; omega
    rw [hV', Nat.sub_self, List.replicate_zero, List.append_nil]
    refine cw_c (C' := Cl w [] (ownL 3 (nth V pv.length).v (List.replicate (P.n + 1) (-1 : Int)) :: ownL 28 s23.v V :: rowsO 3 V (fun _ => List.replicate (P.n + 1) (-1 : Int)) P.m)) (fun w' hw => by rw [n2]; exact hw.perm ((rowsF_out (by omega)).cons _ |>.trans (.swap _ _ _))) ?_
    refine cw_exit (post_then_x (post_then_x (post_blk_eq (post_then (cw_seq (cw_region (sr rfl rfl rfl ((q_move rfl rfl)) (sr rfl rfl rfl ((q_move rfl rfl)) ?_))))))))
    refine sr rfl rfl rfl ((q_len rfl (.cons rfl inferInstance (.nil)) (by exact fun w hw => Stb.cl (by assumption) hw))) ?_
    refine sr rfl rfl rfl ((q_indexN rfl rfl rfl (by exact fun w hw => rd_own hw (by exact .tail _ (.head _))) (by intro hc; omega))) ?_
    refine sr rfl rfl rfl ((q_loadEl rfl rfl rfl (by exact fun w hw => rd_own hw (by exact .tail _ (.head _))) (by intro hc; omega))) ?_
    refine sr rfl rfl rfl ((q_move rfl rfl)) ?_
    refine sr rfl rfl rfl ((q_len rfl (.cons rfl inferInstance (.nil)) (by exact fun w hw => Stb.cl (by assumption) hw))) ?_
    refine sr rfl rfl rfl ((q_indexN rfl rfl rfl (by exact fun w hw => rd_own hw (by exact .head _)) (by intro hc; (simp only [List.length_set, List.length_append, List.length_cons, List.length_nil, List.length_replicate, List.length_take, List.length_drop, List.length_map]; omega)))) ?_
    refine sw_eff0 rfl rfl (e_storeEl1 (i := 0) rfl rfl rfl rfl rfl (by (simp only [List.length_set, List.length_append, List.length_cons, List.length_nil, List.length_replicate, List.length_take, List.length_drop, List.length_map]; omega))) ?_
    refine sw_nil (post_then (cw_seq (cw_seq (cw_region (sr rfl rfl rfl ((q_move rfl rfl)) ?_)))))
    refine sr rfl rfl rfl ((q_len rfl (.cons rfl inferInstance (.nil)) (by exact fun w hw => Stb.cl (by assumption) hw))) ?_
    refine sr rfl rfl rfl ((q_sub rfl rfl rfl (by intro hc; omega))) ?_
    refine sr rfl rfl rfl ((q_assign rfl rfl)) (sw_nil (post_then (cw_block ?_)))
    refine cw_loop (S := Nat × (Nat → List Int)) (fun y => [(0, [], sf.v), (1, [], sp.v), (2, [], .int .i64 P.L), (8, [], s23.v), (11, [], .int .i64 ((P.m : Int) - y.1 - 1))]) (fun y => Cl w [] (ownL 28 s23.v V :: rowsF 3 V y.2)) (fun y => y.1 ≤ P.m ∧ ∀ j, j ≤ P.m → (y.2 j).length = P.n + 1 ∧ ∀ f, f ≤ P.n → nth (y.2 j) f = if P.m - y.1 ≤ j then rO (P.D (P.m - j) f) else -1) (fun y => P.m - y.1) (0, fun j => if j = P.m then (List.replicate (P.n + 1) (-1 : Int)).set P.n 0 else List.replicate (P.n + 1) (-1 : Int)) ⟨Nat.zero_le _, fun j hj => ?_⟩ ?_ (fun w' hw => ?_) ?_
    · dsimp only
      by_cases e : j = P.m
      · rw [if_pos e]
        refine ⟨by simp, fun f hfn => ?_⟩
        rw [nth_setP _ _ _ _ (by simp), e, Nat.sub_self, CutP.D]
        by_cases e2 : f = P.n
        · simp [e2, rO]
        · rw [if_neg e2, if_neg e2, nth_get (by simp; omega), if_pos (by omega)]; simp [rO]
      · rw [if_neg e]
        refine ⟨by simp, fun f hfn => ?_⟩
        rw [if_neg (by omega), nth_get (by simp; omega)]; simp
    · exact Le.cons rfl (Le.cons rfl (Le.cons rfl (Le.cons rfl (Le.cons' rfl (by congr 1; simp only; omega) Le.nil))))
    · rw [n2, n1] at hw
      exact hw.perm (perm_in1 (rowsF_in (by omega) (fun k _ hk => by dsimp only; rw [if_neg hk]) (by dsimp only; rw [if_pos rfl])))
    rintro ⟨q, F⟩ ⟨hq, hF⟩
    dsimp only at hq hF ⊢
    have hFb : ∀ j, j ≤ P.m → ∀ f, -1 ≤ nth (F j) f ∧ nth (F j) f ≤ 1600000000 := fun j hj f => by
      obtain ⟨a, b⟩ := hF j hj
      by_cases hf : f ≤ P.n
      · rw [b f hf]
        split
        · exact CutP.rO_D ok (by omega) hf
        · omega
      · simp only [nth, List.getD, List.getElem?_eq_none (show (F j).length ≤ f by omega)]
        simp
    refine cw_seq (cw_seq (cw_region (sr rfl rfl rfl ((q_move rfl rfl)) (sr rfl rfl rfl ((q_geq rfl rfl rfl)) (sw_nil (post_then ?_))))))
    refine cw_cond rfl (fun h3 => ?_) (fun h3 => ?_)
    · skip
      obtain ⟨p, hpe⟩ : ∃ p, P.m - (q + 1) = p := ⟨_, rfl⟩
      have hq' : q < P.m := by simp only [decide_eq_true_eq] at h3; omega
      have hpm : p < P.m := by omega
      have ep : ((P.m : Int) - q - 1) = (p : Int) := by omega
      have hrp := stb_map hp fun _ h => h.r p hpm
      have hvp := ok.pv p hpm
      rw [ep]
      obtain ⟨hl1, hr1⟩ := hF (p + 1) (by omega)
      obtain ⟨hl0, hr0⟩ := hF p (by omega)
      refine cw_c (C' := Cl w [] (ownL 3 (nth V p).v (F p) :: ownL 3 (nth V (p + 1)).v (F (p + 1)) :: ownL 28 s23.v V :: rowsO2 3 V F p (p + 1))) (fun w' hw => hw.perm (perm_in2 (rowsF_out2 (by omega) (by omega) (by omega)).symm).symm) ?_
      refine cw_skip (post_then (cw_seq (cw_block (cw_seq (cw_region (sr rfl rfl rfl ((q_assign rfl rfl)) (sw_nil (post_then (cw_block ?_)))))))))
      refine cw_loop (S := Nat × List Int) (fun y => [(0, [], sf.v), (1, [], sp.v), (2, [], .int .i64 P.L), (8, [], s23.v), (11, [], .int .i64 p), (12, [], .int .i64 y.1)]) (fun y => Cl w [] (ownL 3 (nth V p).v y.2 :: ownL 3 (nth V (p + 1)).v (F (p + 1)) :: ownL 28 s23.v V :: rowsO2 3 V F p (p + 1))) (fun y => y.1 ≤ P.n + 1 ∧ y.2.length = P.n + 1 ∧ (∀ j, j < y.1 → nth y.2 j = rO (P.D (q + 1) j)) ∧ ∀ j, y.1 ≤ j → j ≤ P.n → nth y.2 j = -1) (fun y => P.n + 1 - y.1) (0, F p) ⟨Nat.zero_le _, hl0, fun j hj => by omega, fun j _ hj => by rw [hr0 j hj, if_neg (by omega)]⟩ (by exact .cons rfl (.cons rfl (.cons rfl (.cons rfl (.cons rfl (.cons rfl .nil)))))) (fun w' h => h) ?_
      rintro ⟨f, cur⟩ ⟨hf1, hcl, hcd, hcn⟩
      dsimp only at hf1 hcl hcd hcn ⊢
      refine cw_seq (cw_seq (cw_region (sr rfl rfl rfl ((q_move rfl rfl)) (sr rfl rfl rfl ((q_move rfl rfl)) ?_))))
      refine sr rfl rfl rfl ((q_len rfl (.cons rfl inferInstance (.nil)) (by exact fun w hw => Stb.cl (by assumption) hw))) ?_
      refine sr rfl rfl rfl ((q_leq rfl rfl rfl)) (sw_nil (post_then ?_))
      refine cw_cond rfl (fun h4 => ?_) (fun h4 => ?_)
      · skip
        have hfn : f ≤ P.n := by simp only [decide_eq_true_eq] at h4; omega
        have hcf : nth cur f = -1 := hcn f (Nat.le_refl _) hfn
        refine cw_skip (post_then (cw_seq (cw_block (cw_seq (cw_region (sr rfl rfl rfl ((q_assign rfl rfl)) (sw_nil (post_then (cw_seq (cw_region (sr rfl rfl rfl ((q_move rfl rfl)) (sr rfl rfl rfl ((q_assign rfl rfl)) (sw_nil (post_then (cw_block ?_)))))))))))))))
        refine cw_loop (S := Nat) (fun c => [(0, [], sf.v), (1, [], sp.v), (2, [], .int .i64 P.L), (8, [], s23.v), (11, [], .int .i64 p), (12, [], .int .i64 f), (13, [], .int .i64 (P.S p (f + c) - P.S p f)), (14, [], .int .i64 ((f + c : Nat) : Int))]) (fun c => Cl w [] (ownL 3 (nth V p).v (cur.set f (rO (P.rb q f c))) :: ownL 3 (nth V (p + 1)).v (F (p + 1)) :: ownL 28 s23.v V :: rowsO2 3 V F p (p + 1))) (fun c => f + c ≤ P.n) (fun c => P.n - (f + c)) 0 hfn ?_ (fun w' h => by rw [set_same (v := rO (P.rb q f 0)) (by rw [hcf]; rfl) (by omega)]; exact h) ?_
        · exact Le.cons rfl (Le.cons rfl (Le.cons rfl (Le.cons rfl (Le.cons rfl (Le.cons rfl (Le.cons' rfl (by congr 1; simp) (Le.cons' rfl (by congr 1) Le.nil)))))))
        intro c hc
        have e1 : (((f + c : Nat) : Int) + 1).toNat = f + (c + 1) := by omega
        have hScb := CutP.S_le ok hpm (f := f) (g := f + c) (by omega) hc
        have hcsl : (cur.set f (rO (P.rb q f c))).length = P.n + 1 := by rw [List.length_set, hcl]
        have hcsf : nth (cur.set f (rO (P.rb q f c))) f = rO (P.rb q f c) := by rw [nth_setP _ _ _ _ (by omega), if_pos rfl]
        have hrbb := CutP.rO_rb ok hq' hc
        refine cw_seq (cw_seq (cw_region (sr rfl rfl rfl ((q_move rfl rfl)) (sr rfl rfl rfl ((q_move rfl rfl)) ?_))))
        refine sr rfl rfl rfl ((q_len rfl (.cons rfl inferInstance (.nil)) (by exact fun w hw => Stb.cl (by assumption) hw))) ?_
        refine sr rfl rfl rfl ((q_lss rfl rfl rfl)) (sw_nil (post_then ?_))
        refine cw_cond rfl (fun h5 => ?_) (fun h5 => ?_)
        · skip
          have hk : f + c < P.n := by simp only [decide_eq_true_eq] at h5; omega
          have hrf := stb_map hf fun _ h => h.r (f + c) hk
          have hvf := ok.fv (f + c) hk
          have hlen := ok.eq (f + c) p hk hpm
          have hd := dist_bd hvf hvp
          have hS1 : P.S p (f + c) - P.S p f + dist (nth P.fl (f + c)) (nth P.pl p) = P.S p (f + (c + 1)) - P.S p f := by
            have : P.S p (f + (c + 1)) = P.S p (f + c) + dist (nth P.fl (f + c)) (nth P.pl p) := rfl
            omega
          have hb1 := hFb (p + 1) (by omega) (f + c + 1)
          have hrv : nth (F (p + 1)) (f + c + 1) = rO (P.D q (f + (c + 1))) := by
            have := hr1 (f + c + 1) (by omega)
            rw [if_pos (by omega), show P.m - (p + 1) = q by omega] at this
            exact this
          have hpq : P.m - (q + 1) = p := hpe
          refine cw_skip (post_then (cw_seq (cw_block (cw_seq ?_))))
          refine cw_region_q mixed_Tryz (by kernel_rfl) ?_
          refine qr rfl rfl rfl ((q_move rfl rfl)) (qr rfl rfl rfl ((q_move rfl rfl)) (qr rfl rfl rfl ((q_move rfl rfl)) ?_))
          refine qr rfl rfl rfl ((q_indexN rfl rfl rfl (by exact fun w hw => Stb.cl (by assumption) hw) (by intro hc; omega))) ?_
          refine qr rfl rfl rfl ((q_loadEl rfl rfl rfl (by exact fun w hw => Stb.cl (by assumption) hw) (by intro hc; omega))) ?_
          refine qr rfl rfl rfl ((q_move rfl rfl)) (qr rfl rfl rfl ((q_move rfl rfl)) ?_)
          refine qr rfl rfl rfl ((q_indexN rfl rfl rfl (by exact fun w hw => Stb.cl (by assumption) hw) (by intro hc; omega))) ?_
          refine qr rfl rfl rfl ((q_loadEl rfl rfl rfl (by exact fun w hw => Stb.cl (by assumption) hw) (by intro hc; omega))) ?_
          refine qw_step rfl rfl rfl (q_call (CanCall.mk Tryz.call74) rfl (.cons rfl inferInstance (.cons rfl inferInstance (.nil))) (fun _ w hw => callq hw (refDistance_spec _ _ _ _ w (stb_arg hw hrf) (stb_arg hw hrp) hvf hvp hlen))) ?_
          refine qr rfl rfl rfl ((q_add rfl rfl rfl (by intro hc; omega))) ?_
          refine qr rfl rfl rfl ((q_assign rfl rfl)) (qw_end (post_then (cw_seq ?_)))
          refine cw_region_q mixed_Tryz (by kernel_rfl) ?_
          refine qr rfl rfl rfl ((q_move rfl rfl)) ?_
          refine qr rfl rfl rfl ((q_add rfl rfl rfl (by intro hc; omega))) ?_
          refine qr rfl rfl rfl ((q_move rfl rfl)) ?_
          refine qr rfl rfl rfl ((q_sub rfl rfl rfl (by intro hc; omega))) ?_
          refine qr rfl rfl rfl ((q_move rfl rfl)) (qr rfl rfl rfl ((q_geq rfl rfl rfl)) (qr rfl rfl rfl ((q_move rfl rfl)) (qr rfl rfl rfl ((q_move rfl rfl)) (qr rfl rfl rfl ((q_move rfl rfl)) ?_))))
          refine qr rfl rfl rfl ((q_add rfl rfl rfl (by intro hc; omega))) ?_
          refine qr rfl rfl rfl ((q_indexN rfl rfl rfl (by exact fun w hw => rd_own hw (by exact .tail _ (.tail _ (.head _)))) (by intro hc; (simp only [List.length_set, List.length_append, List.length_cons, List.length_nil, List.length_replicate, List.length_take, List.length_drop, List.length_map]; omega)))) ?_
          refine qr rfl rfl rfl ((q_loadEl rfl rfl rfl (by exact fun w hw => rd_own hw (by exact .tail _ (.tail _ (.head _)))) (by intro hc; (simp only [List.length_set, List.length_append, List.length_cons, List.length_nil, List.length_replicate, List.length_take, List.length_drop, List.length_map]; omega)))) ?_
          refine qr rfl rfl rfl ((q_move rfl rfl)) ?_
          refine qr rfl rfl rfl ((q_add rfl rfl rfl (by intro hc; omega))) ?_
          refine qr rfl rfl rfl ((q_indexN rfl rfl rfl (by exact fun w hw => rd_own hw (by exact .tail _ (.head _))) (by intro hc; (simp only [List.length_set, List.length_append, List.length_cons, List.length_nil, List.length_replicate, List.length_take, List.length_drop, List.length_map]; omega)))) ?_
          refine qr rfl rfl rfl ((q_loadEl rfl rfl rfl (by exact fun w hw => rd_own hw (by exact .tail _ (.head _))) (by intro hc; (simp only [List.length_set, List.length_append, List.length_cons, List.length_nil, List.length_replicate, List.length_take, List.length_drop, List.length_map]; omega)))) ?_
          refine qr rfl rfl rfl ((q_geq rfl rfl rfl)) (qr rfl rfl rfl ((q_and2 rfl rfl rfl)) (qr rfl rfl rfl ((q_move rfl rfl)) (qr rfl rfl rfl ((q_move rfl rfl)) (qr rfl rfl rfl ((q_move rfl rfl)) ?_))))
          refine qr rfl rfl rfl ((q_indexN rfl rfl rfl (by exact fun w hw => rd_own hw (by exact .tail _ (.tail _ (.head _)))) (by intro hc; omega))) ?_
          refine qr rfl rfl rfl ((q_loadEl rfl rfl rfl (by exact fun w hw => rd_own hw (by exact .tail _ (.tail _ (.head _)))) (by intro hc; omega))) ?_
          refine qr rfl rfl rfl ((q_move rfl rfl)) ?_
          refine qr rfl rfl rfl ((q_indexN rfl rfl rfl (by exact fun w hw => rd_own hw (by exact .head _)) (by intro hc; omega))) ?_
          refine qr rfl rfl rfl ((q_loadEl rfl rfl rfl (by exact fun w hw => rd_own hw (by exact .head _)) (by intro hc; omega))) ?_
          refine qr rfl rfl rfl ((q_lss rfl rfl rfl)) (qr rfl rfl rfl ((q_move rfl rfl)) (qr rfl rfl rfl ((q_move rfl rfl)) (qr rfl rfl rfl ((q_move rfl rfl)) (qr rfl rfl rfl ((q_move rfl rfl)) ?_))))
          refine qr rfl rfl rfl ((q_add rfl rfl rfl (by intro hc; omega))) ?_
          refine qr rfl rfl rfl ((q_indexN rfl rfl rfl (by exact fun w hw => rd_own hw (by exact .tail _ (.tail _ (.head _)))) (by intro hc; (simp only [List.length_set, List.length_append, List.length_cons, List.length_nil, List.length_replicate, List.length_take, List.length_drop, List.length_map]; omega)))) ?_
          refine qr rfl rfl rfl ((q_loadEl rfl rfl rfl (by exact fun w hw => rd_own hw (by exact .tail _ (.tail _ (.head _)))) (by intro hc; (simp only [List.length_set, List.length_append, List.length_cons, List.length_nil, List.length_replicate, List.length_take, List.length_drop, List.length_map]; omega)))) ?_
          refine qr rfl rfl rfl ((q_move rfl rfl)) ?_
          refine qr rfl rfl rfl ((q_add rfl rfl rfl (by intro hc; omega))) ?_
          refine qr rfl rfl rfl ((q_indexN rfl rfl rfl (by exact fun w hw => rd_own hw (by exact .tail _ (.head _))) (by intro hc; (simp only [List.length_set, List.length_append, List.length_cons, List.length_nil, List.length_replicate, List.length_take, List.length_drop, List.length_map]; omega)))) ?_
          refine qr rfl rfl rfl ((q_loadEl rfl rfl rfl (by exact fun w hw => rd_own hw (by exact .tail _ (.head _))) (by intro hc; (simp only [List.length_set, List.length_append, List.length_cons, List.length_nil, List.length_replicate, List.length_take, List.length_drop, List.length_map]; omega)))) ?_
          refine qr rfl rfl rfl ((q_add rfl rfl rfl (by intro hc; (simp only [List.length_set, List.length_append, List.length_cons, List.length_nil, List.length_replicate, List.length_take, List.length_drop, List.length_map]; omega)))) ?_
          refine qr rfl rfl rfl ((q_move rfl rfl)) (qr rfl rfl rfl ((q_move rfl rfl)) ?_)
          refine qr rfl rfl rfl ((q_indexN rfl rfl rfl (by exact fun w hw => rd_own hw (by exact .tail _ (.tail _ (.head _)))) (by intro hc; omega))) ?_
          refine qr rfl rfl rfl ((q_loadEl rfl rfl rfl (by exact fun w hw => rd_own hw (by exact .tail _ (.tail _ (.head _)))) (by intro hc; omega))) ?_
          refine qr rfl rfl rfl ((q_move rfl rfl)) ?_
          refine qr rfl rfl rfl ((q_indexN rfl rfl rfl (by exact fun w hw => rd_own hw (by exact .head _)) (by intro hc; omega))) ?_
          refine qr rfl rfl rfl ((q_loadEl rfl rfl rfl (by exact fun w hw => rd_own hw (by exact .head _)) (by intro hc; omega))) ?_
          refine qr rfl rfl rfl ((q_lss rfl rfl rfl)) (qr rfl rfl rfl ((q_or2 rfl rfl rfl)) (qr rfl rfl rfl ((q_and2 rfl rfl rfl)) (qw_end (post_then ?_))))
          refine cw_cond rfl (fun h6 => ?_) (fun h6 => ?_)
          · skip
            have h7 : (P.L : Int) ≤ (c : Int) + 1 ∧ 0 ≤ rO (P.D q (f + (c + 1))) ∧ (rO (P.rb q f c) < 0 ∨ P.S (P.m - (q + 1)) (f + (c + 1)) - P.S (P.m - (q + 1)) f + rO (P.D q (f + (c + 1))) < rO (P.rb q f c)) := by
              simp only [hrv, hcsf, hS1, Bool.and_eq_true, Bool.or_eq_true, decide_eq_true_eq] at h6
              rw [hpq]
              exact ⟨by omega, h6.1.2, h6.2⟩
            have hst := CutP.rb_step_yes ok hq' (by omega) h7.1 h7.2.1 h7.2.2
            rw [hpq] at hst
            clear h6
            refine cw_region_a (Cl w [] (ownL 3 (nth V p).v (cur.set f (rO (P.rb q f c))) :: ownL 3 (nth V (p + 1)).v (F (p + 1)) :: ownL 28 s23.v V :: rowsO2 3 V F p (p + 1))) [17] mixed_Tryz ?_
            refine aw_pure 0 rfl (by kernel_rfl) (by kernel_rfl) (by kernel_rfl) (by kernel_rfl) (by kernel_rfl) rfl rfl rfl (q_move rfl rfl) ?_
            refine aw_pure 1 rfl (by kernel_rfl) (by kernel_rfl) (by kernel_rfl) (by kernel_rfl) (by kernel_rfl) rfl rfl rfl (q_move rfl rfl) ?_
            refine aw_take 2 (fun w h => h) rfl (by kernel_rfl) (by kernel_rfl) (by kernel_rfl) (by kernel_rfl) (by kernel_rfl) (by kernel_rfl) rfl rfl rfl (q_indexN rfl rfl rfl (by exact fun w hw => rd_own hw (by exact .tail _ (.tail _ (.head _)))) (by intro hc; omega)) ?_
            refine aw_take 3 (fun w h => h) rfl (by kernel_rfl) (by kernel_rfl) (by kernel_rfl) (by kernel_rfl) (by kernel_rfl) (by kernel_rfl) rfl rfl rfl (q_loadEl rfl rfl rfl (by exact fun w hw => rd_own hw (by exact .tail _ (.tail _ (.head _)))) (by intro hc; omega)) ?_
            refine aw_pure 4 rfl (by kernel_rfl) (by kernel_rfl) (by kernel_rfl) (by kernel_rfl) (by kernel_rfl) rfl rfl rfl (q_move rfl rfl) ?_
            refine aw_pure 5 rfl (by kernel_rfl) (by kernel_rfl) (by kernel_rfl) (by kernel_rfl) (by kernel_rfl) rfl rfl rfl (q_move rfl rfl) ?_
            refine aw_pure 6 rfl (by kernel_rfl) (by kernel_rfl) (by kernel_rfl) (by kernel_rfl) (by kernel_rfl) rfl rfl rfl (q_move rfl rfl) ?_
            refine aw_pure 7 rfl (by kernel_rfl) (by kernel_rfl) (by kernel_rfl) (by kernel_rfl) (by kernel_rfl) rfl rfl rfl (q_move rfl rfl) ?_
            refine aw_pure 8 rfl (by kernel_rfl) (by kernel_rfl) (by kernel_rfl) (by kernel_rfl) (by kernel_rfl) rfl rfl rfl (q_add rfl rfl rfl (by intro hc; omega)) ?_
            refine aw_take 9 (fun w h => h) rfl (by kernel_rfl) (by kernel_rfl) (by kernel_rfl) (by kernel_rfl) (by kernel_rfl) (by kernel_rfl) rfl rfl rfl (q_indexN rfl rfl rfl (by exact fun w hw => rd_own hw (by exact .tail _ (.tail _ (.head _)))) (by intro hc; (simp only [List.length_set, List.length_append, List.length_cons, List.length_nil, List.length_replicate, List.length_take, List.length_drop, List.length_map]; omega))) ?_
            refine aw_take 10 (fun w h => h) rfl (by kernel_rfl) (by kernel_rfl) (by kernel_rfl) (by kernel_rfl) (by kernel_rfl) (by kernel_rfl) rfl rfl rfl (q_loadEl rfl rfl rfl (by exact fun w hw => rd_own hw (by exact .tail _ (.tail _ (.head _)))) (by intro hc; (simp only [List.length_set, List.length_append, List.length_cons, List.length_nil, List.length_replicate, List.length_take, List.length_drop, List.length_map]; omega))) ?_
            refine aw_pure 11 rfl (by kernel_rfl) (by kernel_rfl) (by kernel_rfl) (by kernel_rfl) (by kernel_rfl) rfl rfl rfl (q_move rfl rfl) ?_
            refine aw_pure 12 rfl (by kernel_rfl) (by kernel_rfl) (by kernel_rfl) (by kernel_rfl) (by kernel_rfl) rfl rfl rfl (q_add rfl rfl rfl (by intro hc; omega)) ?_
            refine aw_take 13 (fun w h => h) rfl (by kernel_rfl) (by kernel_rfl) (by kernel_rfl) (by kernel_rfl) (by kernel_rfl) (by kernel_rfl) rfl rfl rfl (q_indexN rfl rfl rfl (by exact fun w hw => rd_own hw (by exact .tail _ (.head _))) (by intro hc; (simp only [List.length_set, List.length_append, List.length_cons, List.length_nil, List.length_replicate, List.length_take, List.length_drop, List.length_map]; omega))) ?_
            refine aw_take 14 (fun w h => h) rfl (by kernel_rfl) (by kernel_rfl) (by kernel_rfl) (by kernel_rfl) (by kernel_rfl) (by kernel_rfl) rfl rfl rfl (q_loadEl rfl rfl rfl (by exact fun w hw => rd_own hw (by exact .tail _ (.head _))) (by intro hc; (simp only [List.length_set, List.length_append, List.length_cons, List.length_nil, List.length_replicate, List.length_take, List.length_drop, List.length_map]; omega))) ?_
            refine aw_pure 15 rfl (by kernel_rfl) (by kernel_rfl) (by kernel_rfl) (by kernel_rfl) (by kernel_rfl) rfl rfl rfl (q_add rfl rfl rfl (by intro hc; (simp only [List.length_set, List.length_append, List.length_cons, List.length_nil, List.length_replicate, List.length_take, List.length_drop, List.length_map]; omega))) ?_
            refine aw_take 16 (fun w h => h) rfl (by kernel_rfl) (by kernel_rfl) (by kernel_rfl) (by kernel_rfl) (by kernel_rfl) (by kernel_rfl) rfl rfl rfl (q_indexN rfl rfl rfl (by exact fun w hw => rd_own hw (by exact .head _)) (by intro hc; omega)) ?_
            refine aw_one0 17 (by kernel_rfl) rfl rfl rfl (e_storeEl1 (i := 0) rfl rfl rfl rfl rfl (by omega)) (by intro hb; (exact absurd hb (by decide))) ?_
            refine aw_end (by kernel_rfl) ?_
            refine post_blk (post_then (cw_region (sr rfl rfl rfl ((q_move rfl rfl)) ?_)))
            refine sr rfl rfl rfl ((q_add rfl rfl rfl (by intro hc; omega))) ?_
            refine sr rfl rfl rfl ((q_assign rfl rfl)) (sw_nil ?_)
            refine post_next (c + 1) ?_ (fun w3 hw3 => ?_) (by omega) (by omega)
            · exact Le.cons rfl (Le.cons rfl (Le.cons rfl (Le.cons rfl (Le.cons rfl (Le.cons rfl (Le.cons' rfl (by congr 1) (Le.cons' rfl (by congr 1) Le.nil)))))))
            · rw [hst, ← hrv, ← hS1]
              have : ((cur.set f (rO (P.rb q f c))).set f (P.S p (f + c) - P.S p f + dist (nth P.fl (f + c)) (nth P.pl p) + nth (F (p + 1)) (f + c + 1))) = cur.set f (P.S p (f + c) - P.S p f + dist (nth P.fl (f + c)) (nth P.pl p) + nth (F (p + 1)) (f + c + 1)) := by rw [List.set_set]
              rw [← this]
              exact hw3
          · skip
            have h7 : ¬ ((P.L : Int) ≤ (c : Int) + 1 ∧ 0 ≤ rO (P.D q (f + (c + 1))) ∧ (rO (P.rb q f c) < 0 ∨ P.S (P.m - (q + 1)) (f + (c + 1)) - P.S (P.m - (q + 1)) f + rO (P.D q (f + (c + 1))) < rO (P.rb q f c))) := by
              rintro ⟨a1, a2, a3⟩
              rw [hpq] at a3
              have a4 : (P.L : Int) ≤ ((f + c : Nat) : Int) + 1 - f := by omega
              rcases a3 with a3 | a3 <;> simp [hrv, hcsf, hS1, a2, a3, a4] at h6 <;> omega
            have hst := CutP.rb_step_no h7 (fun v hv => (CutP.D_bd ok (by omega) (by omega) hv).1)
            clear h6
            refine cw_skip (post_blk (post_then (cw_region (sr rfl rfl rfl ((q_move rfl rfl)) ?_))))
            refine sr rfl rfl rfl ((q_add rfl rfl rfl (by intro hc; omega))) ?_
            refine sr rfl rfl rfl ((q_assign rfl rfl)) (sw_nil ?_)
            refine post_next (c + 1) ?_ (fun w3 hw3 => ?_) (by omega) (by omega)
            · exact Le.cons rfl (Le.cons rfl (Le.cons rfl (Le.cons rfl (Le.cons rfl (Le.cons rfl (Le.cons' rfl (by congr 1) (Le.cons' rfl (by congr 1) Le.nil)))))))
            · rw [hst]; exact hw3
        · skip
          have hk : f + c = P.n := by simp only [decide_eq_false_iff_not] at h5; omega
          have hra := CutP.rb_all (P := P) (q := q) ok hfn
          rw [show P.n - f = c by omega] at hra
          refine cw_exit (post_then_x (post_then_x (post_blk_eq (post_blk (post_then (cw_region (sr rfl rfl rfl ((q_move rfl rfl)) ?_)))))))
          refine sr rfl rfl rfl ((q_add rfl rfl rfl (by intro hc; omega))) ?_
          refine sr rfl rfl rfl ((q_assign rfl rfl)) (sw_nil ?_)
          refine post_next (f + 1, cur.set f (rO (P.rb q f c))) (by exact .cons rfl (.cons rfl (.cons rfl (.cons rfl (.cons rfl (.cons rfl .nil)))))) (fun _ h => h) ⟨by simp only; omega, hcsl, fun j hj => ?_, fun j hj hj2 => ?_⟩ (by simp only; omega)
          · simp only at hj ⊢
            rw [nth_setP _ _ _ _ (by omega)]
            by_cases e : j = f
            · rw [if_pos e, e, hra]
            · rw [if_neg e]; exact hcd j (by omega)
          · simp only at hj hj2 ⊢
            rw [nth_setP _ _ _ _ (by omega), if_neg (by omega)]; exact hcn j (by omega) hj2
      · skip
        have hfn : f = P.n + 1 := by simp only [decide_eq_false_iff_not] at h4; omega
        refine cw_exit (post_then_x (post_then_x (post_blk_eq (post_blk (post_then (cw_region (sr rfl rfl rfl ((q_move rfl rfl)) ?_)))))))
        refine sr rfl rfl rfl ((q_sub rfl rfl rfl (by intro hc; omega))) ?_
        refine sr rfl rfl rfl ((q_assign rfl rfl)) (sw_nil ?_)
        refine post_next (q + 1, fun j => if j = p then cur else F j) ?_ (fun w3 hw3 => ?_) ⟨by simp only; omega, fun j hj => ?_⟩ (by simp only; omega)
        · exact Le.cons rfl (Le.cons rfl (Le.cons rfl (Le.cons rfl (Le.cons' rfl (by congr 1; simp only; omega) Le.nil))))
        · exact hw3.perm (perm_in2 (rowsF_in2 (by omega) (by omega) (by omega) (fun k _ hk => by dsimp only; rw [if_neg hk]) (by dsimp only; rw [if_pos rfl])))
        · simp only
          by_cases e : j = p
          · rw [if_pos e]
            refine ⟨hcl, fun f hf => ?_⟩
            rw [if_pos (by omega), hcd f (by omega), show P.m - j = q + 1 by omega]
          · rw [if_neg e]
            obtain ⟨a, b⟩ := hF j hj
            refine ⟨a, fun f hf => ?_⟩
            rw [b f hf]
            by_cases e2 : P.m - q ≤ j
            · rw [if_pos e2, if_pos (by omega)]
            · rw [if_neg e2, if_neg (by omega)]
    · skip
      have hqm : q = P.m := by simp only [decide_eq_false_iff_not] at h3; omega
      subst hqm
      have hFd : ∀ j, j ≤ P.m → ∀ f, f ≤ P.n → nth (F j) f = rO (P.D (P.m - j) f) := fun j hj f hf => by rw [(hF j hj).2 f hf, if_pos (by omega)]
      have hFl : ∀ j, j ≤ P.m → (F j).length = P.n + 1 := fun j hj => (hF j hj).1
      have h00 := hFd 0 (Nat.zero_le _) 0 (Nat.zero_le _)
      rw [Nat.sub_zero] at h00
      have hl0 := hFl 0 (Nat.zero_le _)
      refine cw_c (C' := Cl w [] (ownL 3 (nth V 0).v (F 0) :: ownL 28 s23.v V :: rowsO 3 V F 0)) (fun w' hw => hw.perm (perm_in1 (rowsF_out (by omega)).symm).symm) ?_
      refine cw_exit (post_then_x (post_then_x (post_blk_eq (post_then (cw_seq (cw_seq (cw_region (sr rfl rfl rfl ((q_move rfl rfl)) ?_))))))))
      refine sr rfl rfl rfl ((q_indexN rfl rfl rfl (by exact fun w hw => rd_own hw (by exact .tail _ (.head _))) (by intro hc; (simp only [List.length_set, List.length_append, List.length_cons, List.length_nil, List.length_replicate, List.length_take, List.length_drop, List.length_map]; omega)))) ?_
      refine sr rfl rfl rfl ((q_loadEl rfl rfl rfl (by exact fun w hw => rd_own hw (by exact .tail _ (.head _))) (by intro hc; (simp only [List.length_set, List.length_append, List.length_cons, List.length_nil, List.length_replicate, List.length_take, List.length_drop, List.length_map]; omega)))) ?_
      refine sr rfl rfl rfl ((q_indexN rfl rfl rfl (by exact fun w hw => rd_own hw (by exact .head _)) (by intro hc; (simp only [List.length_set, List.length_append, List.length_cons, List.length_nil, List.length_replicate, List.length_take, List.length_drop, List.length_map]; omega)))) ?_
      refine sr rfl rfl rfl ((q_loadEl rfl rfl rfl (by exact fun w hw => rd_own hw (by exact .head _)) (by intro hc; (simp only [List.length_set, List.length_append, List.length_cons, List.length_nil, List.length_replicate, List.length_take, List.length_drop, List.length_map]; omega)))) ?_
      refine sr rfl rfl rfl ((q_lss rfl rfl rfl)) (sw_nil (post_then ?_))
      refine cw_cond rfl (fun h5 => ?_) (fun h5 => ?_)
      · skip
        have h6 : P.D P.m 0 = none := by
          cases hD : P.D P.m 0 with
          | none => rfl
          | some v =>
            have := CutP.D_bd ok (Nat.le_refl _) (Nat.zero_le _) hD
            rw [hD] at h00
            have e : nth (F 0) 0 = v := h00
            simp only [decide_eq_true_eq] at h5
            omega
        refine cw_seq (cw_region (sr rfl rfl rfl ((q_assign rfl rfl)) (sr rfl rfl rfl ((q_assign rfl rfl)) (sw_nil (post_then (cw_ret (post_then_r (post_ret2 rfl (resOk_tmp rfl) (resOk_tmp rfl) ?_))))))))
        refine fun w' hw => ⟨(⟨none, 0, 0⟩, []), by rw [h6]; rfl, fun h => absurd h6 h, ?_⟩
        exact ((fun w h => Cl.sel (by exact .nil _) w h) w' hw : Cl w [] [] w').addNil (α := Int) 3
      · skip
        obtain ⟨v0, hv0⟩ : ∃ v, P.D P.m 0 = some v := by
          cases hD : P.D P.m 0 with
          | none =>
            exfalso
            rw [hD] at h00
            have e : nth (F 0) 0 = -1 := h00
            simp only [decide_eq_false_iff_not] at h5
            omega
          | some v => exact ⟨v, rfl⟩
        refine cw_c (C' := Cl w [] (ownL 3 (SlV.v ⟨none, 0, 0⟩) ([] : List Int) :: ownL 28 s23.v V :: rowsF 3 V F)) (fun w' hw => (hw.perm (perm_in1 (rowsF_out (by omega)).symm)).addNil (α := Int) 3) ?_
        refine cw_skip (post_then (cw_seq (cw_region (sr rfl rfl rfl ((q_assign rfl rfl)) (sw_nil (post_then (cw_seq (cw_region (sr rfl rfl rfl ((q_assign rfl rfl)) (sw_nil (post_then (cw_seq (cw_seq (cw_region (sr rfl rfl rfl ((q_assign rfl rfl)) (sw_nil (post_then (cw_block ?_))))))))))))))))))
        refine cw_loop (S := (Nat × Nat) × (SlV × List Int)) (fun y => [(0, [], sf.v), (1, [], sp.v), (2, [], .int .i64 P.L), (8, [], s23.v), (15, [], y.2.1.v), (16, [], .int .i64 y.1.2), (17, [], .int .i64 y.1.1)]) (fun y => Cl w [] (ownL 3 y.2.1.v y.2.2 :: ownL 28 s23.v V :: rowsF 3 V F)) (fun y => y.1.1 ≤ P.m ∧ y.1.2 ≤ P.n ∧ y.2.2.length = y.1.1 ∧ y.2.2 ++ P.pth (P.m - y.1.1) y.1.2 = P.pth P.m 0 ∧ ∃ v, P.D (P.m - y.1.1) y.1.2 = some v) (fun y => P.m - y.1.1) ((0, 0), (⟨none, 0, 0⟩, [])) ⟨Nat.zero_le _, Nat.zero_le _, rfl, rfl, v0, hv0⟩ (by exact .cons rfl (.cons rfl (.cons rfl (.cons rfl (.cons rfl (.cons rfl (.cons rfl .nil))))))) (fun w' h => h) ?_
        rintro ⟨⟨p, f⟩, ⟨s15, out⟩⟩ ⟨hp1, hf1, hol, hpt, hDv⟩
        dsimp only at hp1 hf1 hol hpt hDv ⊢
        refine cw_seq (cw_seq (cw_region (sr rfl rfl rfl ((q_move rfl rfl)) (sr rfl rfl rfl ((q_move rfl rfl)) ?_))))
        refine sr rfl rfl rfl ((q_len rfl (.cons rfl inferInstance (.nil)) (by exact fun w hw => Stb.cl (by assumption) hw))) ?_
        refine sr rfl rfl rfl ((q_lss rfl rfl rfl)) (sw_nil (post_then ?_))
        refine cw_cond rfl (fun h7 => ?_) (fun h7 => ?_)
        · skip
          have hpm : p < P.m := by simp only [decide_eq_true_eq] at h7; omega
          have hrp := stb_map hp fun _ h => h.r p hpm
          have hvp := ok.pv p hpm
          obtain ⟨q, hqe⟩ : ∃ q, P.m - p = q + 1 := ⟨P.m - p - 1, by omega⟩
          have hpq : P.m - (q + 1) = p := by omega
          obtain ⟨v, hv⟩ := hDv
          have hv2 := hv
          rw [hqe, CutP.D_succ] at hv
          obtain ⟨b, g, hB⟩ : ∃ b g, P.B q (f + P.L) = some (b, g) := by
            cases hB : P.B q (f + P.L) with
            | none => rw [hB] at hv; cases hv
            | some y => exact ⟨y.1, y.2, rfl⟩
          rw [hB, hpq] at hv
          simp only [Option.map_some, Option.some.injEq] at hv
          obtain ⟨hb1, hb2, hb3⟩ := bst_spec hB
          have hgn : g ≤ P.n := by omega
          obtain ⟨u, hDg, hub⟩ : ∃ u, P.D q g = some u ∧ P.S p g + u = b := by
            simp only [CutP.V, Option.map_eq_some_iff, hpq] at hb2
            exact hb2
          obtain ⟨hr1, hl1⟩ : (∀ f, f ≤ P.n → nth (F (p + 1)) f = rO (P.D q f)) ∧ (F (p + 1)).length = P.n + 1 := ⟨fun f hf => by rw [hFd (p + 1) (by omega) f hf, show P.m - (p + 1) = q by omega], hFl _ (by omega)⟩
          obtain ⟨hr0, hl2⟩ : nth (F p) f = v ∧ (F p).length = P.n + 1 := ⟨by rw [hFd p hp1 f hf1, hv2]; rfl, hFl _ hp1⟩
          refine cw_c (C' := Cl w [] (ownL 3 s15.v out :: ownL 3 (nth V p).v (F p) :: ownL 3 (nth V (p + 1)).v (F (p + 1)) :: ownL 28 s23.v V :: rowsO2 3 V F p (p + 1))) (fun w' hw => hw.perm ((perm_in2 (rowsF_out2 (by omega) (by omega) (by omega)).symm).cons _).symm) ?_
          refine cw_skip (post_then (cw_seq (cw_block (cw_seq (cw_region (sr rfl rfl rfl ((q_assign rfl rfl)) (sw_nil (post_then (cw_seq (cw_region (sr rfl rfl rfl ((q_move rfl rfl)) (sr rfl rfl rfl ((q_assign rfl rfl)) (sw_nil (post_then (cw_block ?_)))))))))))))))
          refine cw_loop (S := Nat) (fun c => [(0, [], sf.v), (1, [], sp.v), (2, [], .int .i64 P.L), (8, [], s23.v), (15, [], s15.v), (16, [], .int .i64 f), (17, [], .int .i64 p), (18, [], .int .i64 (P.S p (f + c) - P.S p f)), (19, [], .int .i64 ((f + c : Nat) : Int))]) (fun _ => Cl w [] (ownL 3 s15.v out :: ownL 3 (nth V p).v (F p) :: ownL 3 (nth V (p + 1)).v (F (p + 1)) :: ownL 28 s23.v V :: rowsO2 3 V F p (p + 1))) (fun c => f + c < g) (fun c => P.n - (f + c)) 0 (by omega) ?_ (fun w' h => h) ?_
          · exact Le.cons rfl (Le.cons rfl (Le.cons rfl (Le.cons rfl (Le.cons rfl (Le.cons rfl (Le.cons rfl (Le.cons' rfl (by congr 1; simp) (Le.cons' rfl (by congr 1) Le.nil))))))))
          intro c hc
          have hScb := CutP.S_le ok hpm (f := f) (g := f + c) (by omega) (by omega)
          refine cw_seq (cw_seq (cw_region (sr rfl rfl rfl ((q_move rfl rfl)) (sr rfl rfl rfl ((q_move rfl rfl)) ?_))))
          refine sr rfl rfl rfl ((q_len rfl (.cons rfl inferInstance (.nil)) (by exact fun w hw => Stb.cl (by assumption) hw))) ?_
          refine sr rfl rfl rfl ((q_lss rfl rfl rfl)) (sw_nil (post_then ?_))
          refine cw_cond rfl (fun h8 => ?_) (fun h8 => ?_)
          · skip
            have hk : f + c < P.n := by simp only [decide_eq_true_eq] at h8; omega
            have hrf := stb_map hf fun _ h => h.r (f + c) hk
            have hvf := ok.fv (f + c) hk
            have hlen := ok.eq (f + c) p hk hpm
            have hd := dist_bd hvf hvp
            have hS1 : P.S p (f + c) - P.S p f + dist (nth P.fl (f + c)) (nth P.pl p) = P.S p (f + c + 1) - P.S p f := by
              have : P.S p (f + c + 1) = P.S p (f + c) + dist (nth P.fl (f + c)) (nth P.pl p) := rfl
              omega
            have hrv := hr1 (f + c + 1) (by omega)
            have hbv := CutP.rO_D ok (q := q) (f := f + c + 1) (by omega) (by omega)
            rw [← hrv] at hbv
            refine cw_skip (post_then (cw_seq (cw_block (cw_seq ?_))))
            refine cw_region_q mixed_Tryz (by kernel_rfl) ?_
            refine qr rfl rfl rfl ((q_move rfl rfl)) (qr rfl rfl rfl ((q_move rfl rfl)) (qr rfl rfl rfl ((q_move rfl rfl)) ?_))
            refine qr rfl rfl rfl ((q_indexN rfl rfl rfl (by exact fun w hw => Stb.cl (by assumption) hw) (by intro hc; omega))) ?_
            refine qr rfl rfl rfl ((q_loadEl rfl rfl rfl (by exact fun w hw => Stb.cl (by assumption) hw) (by intro hc; omega))) ?_
            refine qr rfl rfl rfl ((q_move rfl rfl)) (qr rfl rfl rfl ((q_move rfl rfl)) ?_)
            refine qr rfl rfl rfl ((q_indexN rfl rfl rfl (by exact fun w hw => Stb.cl (by assumption) hw) (by intro hc; omega))) ?_
            refine qr rfl rfl rfl ((q_loadEl rfl rfl rfl (by exact fun w hw => Stb.cl (by assumption) hw) (by intro hc; omega))) ?_
            refine qw_step rfl rfl rfl (q_call (CanCall.mk Tryz.call74) rfl (.cons rfl inferInstance (.cons rfl inferInstance (.nil))) (fun _ w hw => callq hw (refDistance_spec _ _ _ _ w (stb_arg hw hrf) (stb_arg hw hrp) hvf hvp hlen))) ?_
            refine qr rfl rfl rfl ((q_add rfl rfl rfl (by intro hc; omega))) ?_
            refine qr rfl rfl rfl ((q_assign rfl rfl)) (qw_end (post_then (cw_seq ?_)))
            refine cw_region_q mixed_Tryz (by kernel_rfl) ?_
            refine qr rfl rfl rfl ((q_move rfl rfl)) ?_
            refine qr rfl rfl rfl ((q_add rfl rfl rfl (by intro hc; omega))) ?_
            refine qr rfl rfl rfl ((q_move rfl rfl)) ?_
            refine qr rfl rfl rfl ((q_sub rfl rfl rfl (by intro hc; omega))) ?_
            refine qr rfl rfl rfl ((q_move rfl rfl)) (qr rfl rfl rfl ((q_geq rfl rfl rfl)) (qr rfl rfl rfl ((q_move rfl rfl)) (qr rfl rfl rfl ((q_move rfl rfl)) (qr rfl rfl rfl ((q_move rfl rfl)) ?_))))
            refine qr rfl rfl rfl ((q_add rfl rfl rfl (by intro hc; omega))) ?_
            refine qr rfl rfl rfl ((q_indexN rfl rfl rfl (by exact fun w hw => rd_own hw (by exact .tail _ (.tail _ (.tail _ (.head _))))) (by intro hc; (simp only [List.length_set, List.length_append, List.length_cons, List.length_nil, List.length_replicate, List.length_take, List.length_drop, List.length_map]; omega)))) ?_
            refine qr rfl rfl rfl ((q_loadEl rfl rfl rfl (by exact fun w hw => rd_own hw (by exact .tail _ (.tail _ (.tail _ (.head _))))) (by intro hc; (simp only [List.length_set, List.length_append, List.length_cons, List.length_nil, List.length_replicate, List.length_take, List.length_drop, List.length_map]; omega)))) ?_
            refine qr rfl rfl rfl ((q_move rfl rfl)) ?_
            refine qr rfl rfl rfl ((q_add rfl rfl rfl (by intro hc; omega))) ?_
            refine qr rfl rfl rfl ((q_indexN rfl rfl rfl (by exact fun w hw => rd_own hw (by exact .tail _ (.tail _ (.head _)))) (by intro hc; (simp only [List.length_set, List.length_append, List.length_cons, List.length_nil, List.length_replicate, List.length_take, List.length_drop, List.length_map]; omega)))) ?_
            refine qr rfl rfl rfl ((q_loadEl rfl rfl rfl (by exact fun w hw => rd_own hw (by exact .tail _ (.tail _ (.head _)))) (by intro hc; (simp only [List.length_set, List.length_append, List.length_cons, List.length_nil, List.length_replicate, List.length_take, List.length_drop, List.length_map]; omega)))) ?_
            refine qr rfl rfl rfl ((q_geq rfl rfl rfl)) (qr rfl rfl rfl ((q_and2 rfl rfl rfl)) (qr rfl rfl rfl ((q_move rfl rfl)) (qr rfl rfl rfl ((q_move rfl rfl)) (qr rfl rfl rfl ((q_move rfl rfl)) (qr rfl rfl rfl ((q_move rfl rfl)) ?_)))))
            refine qr rfl rfl rfl ((q_add rfl rfl rfl (by intro hc; omega))) ?_
            refine qr rfl rfl rfl ((q_indexN rfl rfl rfl (by exact fun w hw => rd_own hw (by exact .tail _ (.tail _ (.tail _ (.head _))))) (by intro hc; (simp only [List.length_set, List.length_append, List.length_cons, List.length_nil, List.length_replicate, List.length_take, List.length_drop, List.length_map]; omega)))) ?_
            refine qr rfl rfl rfl ((q_loadEl rfl rfl rfl (by exact fun w hw => rd_own hw (by exact .tail _ (.tail _ (.tail _ (.head _))))) (by intro hc; (simp only [List.length_set, List.length_append, List.length_cons, List.length_nil, List.length_replicate, List.length_take, List.length_drop, List.length_map]; omega)))) ?_
            refine qr rfl rfl rfl ((q_move rfl rfl)) ?_
            refine qr rfl rfl rfl ((q_add rfl rfl rfl (by intro hc; omega))) ?_
            refine qr rfl rfl rfl ((q_indexN rfl rfl rfl (by exact fun w hw => rd_own hw (by exact .tail _ (.tail _ (.head _)))) (by intro hc; (simp only [List.length_set, List.length_append, List.length_cons, List.length_nil, List.length_replicate, List.length_take, List.length_drop, List.length_map]; omega)))) ?_
            refine qr rfl rfl rfl ((q_loadEl rfl rfl rfl (by exact fun w hw => rd_own hw (by exact .tail _ (.tail _ (.head _)))) (by intro hc; (simp only [List.length_set, List.length_append, List.length_cons, List.length_nil, List.length_replicate, List.length_take, List.length_drop, List.length_map]; omega)))) ?_
            refine qr rfl rfl rfl ((q_add rfl rfl rfl (by intro hc; (simp only [List.length_set, List.length_append, List.length_cons, List.length_nil, List.length_replicate, List.length_take, List.length_drop, List.length_map]; omega)))) ?_
            refine qr rfl rfl rfl ((q_move rfl rfl)) (qr rfl rfl rfl ((q_move rfl rfl)) ?_)
            refine qr rfl rfl rfl ((q_indexN rfl rfl rfl (by exact fun w hw => rd_own hw (by exact .tail _ (.tail _ (.tail _ (.head _))))) (by intro hc; omega))) ?_
            refine qr rfl rfl rfl ((q_loadEl rfl rfl rfl (by exact fun w hw => rd_own hw (by exact .tail _ (.tail _ (.tail _ (.head _))))) (by intro hc; omega))) ?_
            refine qr rfl rfl rfl ((q_move rfl rfl)) ?_
            refine qr rfl rfl rfl ((q_indexN rfl rfl rfl (by exact fun w hw => rd_own hw (by exact .tail _ (.head _))) (by intro hc; omega))) ?_
            refine qr rfl rfl rfl ((q_loadEl rfl rfl rfl (by exact fun w hw => rd_own hw (by exact .tail _ (.head _))) (by intro hc; omega))) ?_
            refine qr rfl rfl rfl ((q_eql rfl rfl rfl)) (qr rfl rfl rfl ((q_and2 rfl rfl rfl)) (qw_end (post_then ?_)))
            have hiff : (P.L : Int) ≤ ((f + c : Nat) : Int) + 1 - f → 0 ≤ nth (F (p + 1)) (f + c + 1) → P.S p (f + c + 1) - P.S p f + nth (F (p + 1)) (f + c + 1) = nth (F p) f → f + c + 1 = g := fun a1 a2 a3 => by
              rw [hrv] at a2 a3
              cases hD : P.D q (f + c + 1) with
              | none => rw [hD] at a2; simp [rO] at a2
              | some u' =>
                rw [hD, hr0] at a3
                have a3 : P.S p (f + c + 1) - P.S p f + u' = v := a3
                by_cases e : f + c + 1 = g
                · exact e
                · have hV : P.V q (f + c + 1) = some (P.S p (f + c + 1) + u') := by simp only [CutP.V, hD, Option.map_some, hpq]
                  have := (hb3 (f + c + 1) _ (by omega) (by omega) hV).2 (by omega)
                  omega
            refine cw_cond rfl (fun h9 => ?_) (fun h9 => ?_)
            · skip
              have hg : f + c + 1 = g := by
                simp only [hS1, Bool.and_eq_true, decide_eq_true_eq] at h9
                exact hiff h9.1.1 h9.1.2 h9.2
              refine cw_seq (cw_region (sr rfl rfl rfl ((q_move rfl rfl)) (sr rfl rfl rfl ((q_move rfl rfl)) ?_)))
              refine sr rfl rfl rfl ((q_add rfl rfl rfl (by intro hc; omega))) ?_
              refine sr rfl rfl rfl ((q_move rfl rfl)) ?_
              refine sr rfl rfl rfl ((q_sub rfl rfl rfl (by intro hc; omega))) ?_
              refine sw_x rfl rfl rfl (e_build1 (α := Int) rfl rfl rfl rfl) (fun s228 => ?_)
              refine sw_x rfl rfl rfl (e_append (i := 1) rfl (.cons rfl inferInstance (.cons rfl inferInstance (.nil))) rfl rfl (by exact fun w hw => rd_own hw (by exact .head _)) (by simp only [List.length_set, List.length_append, List.length_cons, List.length_nil, List.length_replicate, List.length_take, List.length_drop, List.length_map]; omega) rfl) (fun s229 => ?_)
              refine sr rfl rfl rfl ((q_assign rfl rfl)) (sw_nil (post_then (cw_seq (cw_region (sr rfl rfl rfl ((q_move rfl rfl)) ?_)))))
              refine sr rfl rfl rfl ((q_add rfl rfl rfl (by intro hc; omega))) ?_
              refine sr rfl rfl rfl ((q_assign rfl rfl)) (sw_nil (post_then (cw_exit (post_blk_ne rfl (post_then_x (post_then_x (post_blk_eq (post_blk (post_then (cw_region (sr rfl rfl rfl ((q_move rfl rfl)) ?_)))))))))))
              refine sr rfl rfl rfl ((q_add rfl rfl rfl (by intro hc; omega))) ?_
              refine sr rfl rfl rfl ((q_assign rfl rfl)) (sw_nil ?_)
              refine post_next ((p + 1, g), (s229, out ++ [(g : Int) - f])) ?_ (fun w3 hw3 => ?_) ⟨by simp only; omega, hgn, by simp [hol], ?_, ?_⟩ (by simp only; omega)
              · exact Le.cons rfl (Le.cons rfl (Le.cons rfl (Le.cons rfl (Le.cons rfl (Le.cons' rfl (by congr 1; simp only; omega) (Le.cons' rfl (by congr 1) Le.nil))))))
              · have : ((f + c : Nat) : Int) + 1 - f = (g : Int) - f := by omega
                rw [← this]
                exact hw3.tail.perm ((perm_in2 (rowsF_in2 (by omega) (by omega) (by omega) (fun _ _ _ => rfl) rfl)).cons _)
              · simp only
                rw [← hpt, hqe, CutP.pth, hB, show P.m - (p + 1) = q by omega]
                simp
              · simp only
                exact ⟨u, by rw [show P.m - (p + 1) = q by omega]; exact hDg⟩
            · skip
              have hg : f + c + 1 ≠ g := by
                intro hg
                have a1 : (P.L : Int) ≤ ((f + c : Nat) : Int) + 1 - f := by omega
                have a4 : nth (F (p + 1)) (f + c + 1) = u := by rw [hrv, hg, hDg]; rfl
                have a2 : 0 ≤ u := (CutP.D_bd ok (by omega) hgn hDg).1
                have a3 : P.S p (f + c + 1) - P.S p f + u = v := by rw [hg]; omega
                simp only [hS1, hr0, a4, a1, a2, a3, decide_true, Bool.and_true] at h9
                cases h9
              refine cw_skip (post_blk (post_then (cw_region (sr rfl rfl rfl ((q_move rfl rfl)) ?_))))
              refine sr rfl rfl rfl ((q_add rfl rfl rfl (by intro hc; omega))) ?_
              refine sr rfl rfl rfl ((q_assign rfl rfl)) (sw_nil ?_)
              exact post_next (c + 1) (Le.cons rfl (Le.cons rfl (Le.cons rfl (Le.cons rfl (Le.cons rfl (Le.cons rfl (Le.cons rfl (Le.cons' rfl (by congr 1) (Le.cons' rfl (by congr 1) Le.nil))))))))) (fun w3 hw3 => hw3) (by omega) (by omega)
          · skip
            exfalso
            simp only [decide_eq_false_iff_not] at h8
            omega
        · skip
          have hpm : p = P.m := by simp only [decide_eq_false_iff_not] at h7; omega
          rw [hpm, Nat.sub_self, CutP.pth, List.append_nil] at hpt
          refine cw_c (C' := Cl w [] (ownL 3 s15.v out :: ownL 3 (nth V 0).v (F 0) :: ownL 28 s23.v V :: rowsO 3 V F 0)) (fun w' hw => hw.perm ((perm_in1 (rowsF_out (by omega)).symm).symm.cons _)) ?_
          refine cw_exit (post_then_x (post_then_x (post_blk_eq (post_then (cw_seq ?_)))))
          refine cw_region_q mixed_Tryz (by kernel_rfl) ?_
          refine qr rfl rfl rfl ((q_move rfl rfl)) (qr rfl rfl rfl ((q_move rfl rfl)) ?_)
          refine qr rfl rfl rfl ((q_indexN rfl rfl rfl (by exact fun w hw => rd_own hw (by exact .tail _ (.tail _ (.head _)))) (by intro hc; (simp only [List.length_set, List.length_append, List.length_cons, List.length_nil, List.length_replicate, List.length_take, List.length_drop, List.length_map]; omega)))) ?_
          refine qr rfl rfl rfl ((q_loadEl rfl rfl rfl (by exact fun w hw => rd_own hw (by exact .tail _ (.tail _ (.head _)))) (by intro hc; (simp only [List.length_set, List.length_append, List.length_cons, List.length_nil, List.length_replicate, List.length_take, List.length_drop, List.length_map]; omega)))) ?_
          refine qr rfl rfl rfl ((q_indexN rfl rfl rfl (by exact fun w hw => rd_own hw (by exact .tail _ (.head _))) (by intro hc; (simp only [List.length_set, List.length_append, List.length_cons, List.length_nil, List.length_replicate, List.length_take, List.length_drop, List.length_map]; omega)))) ?_
          refine qr rfl rfl rfl ((q_loadEl rfl rfl rfl (by exact fun w hw => rd_own hw (by exact .tail _ (.head _))) (by intro hc; (simp only [List.length_set, List.length_append, List.length_cons, List.length_nil, List.length_replicate, List.length_take, List.length_drop, List.length_map]; omega)))) ?_
          refine qr rfl rfl rfl ((q_assign rfl rfl)) (qr rfl rfl rfl ((q_assign rfl rfl)) (qw_end (post_then (cw_ret (post_ret2 rfl (resOk_tmp rfl) (resOk_tmp rfl) ?_)))))
          refine fun w' hw => ⟨(s15, out), by rw [← h00]; rfl, fun _ => hpt, (fun w h => Cl.sel (by exact .take 0 rfl (.nil _)) w h) _ hw⟩
end Go.Proofs.YtomjbfeafodfbaaGreat

set_option autoImplicit false
set_option maxRecDepth 100000
namespace Go.Proofs.YtomjbfeafodfbaaGreat
open Go.Sx
open Enc (enc val)
namespace CutP
variable (P : CutP)
def lnTo (ls : List Int) : Nat → Option (Nat × Int)
  | 0 => some (0, 0)
  | k + 1 => match lnTo ls k with
    | none => none
    | some (f, c) => if nth ls k < P.L ∨ (P.n : Int) - f < nth ls k then none else some (f + (nth ls k).toNat, c + (P.S k (f + (nth ls k).toNat) - P.S k f))
variable {P}
theorem ln_step {ls : List Int} {k f : Nat} {c : Int} (h : P.lnTo ls k = some (f, c)) (hn : ¬ (nth ls k < P.L ∨ (P.n : Int) - f < nth ls k)) : P.lnTo ls (k + 1) = some (f + (nth ls k).toNat, c + (P.S k (f + (nth ls k).toNat) - P.S k f)) := by
  rw [lnTo, h]; simp only; rw [if_neg hn]
theorem ln_none {ls : List Int} {k f : Nat} {c : Int} (h : P.lnTo ls k = some (f, c)) (hn : nth ls k < P.L ∨ (P.n : Int) - f < nth ls k) : ∀ {m : Nat}, k < m → P.lnTo ls m = none
  | 0, hm => by omega
  | m + 1, hm => by
    by_cases e : k = m
    · subst e; rw [lnTo, h]; simp only; rw [if_pos hn]
    · rw [lnTo, ln_none h hn (m := m) (by omega)]
theorem ln_some {ls : List Int} {m : Nat} {y : Nat × Int} (h : P.lnTo ls m = some y) : ∀ {k : Nat}, k ≤ m → ∃ z, P.lnTo ls k = some z := by
  intro k hk
  cases hl : P.lnTo ls k with
  | some z => exact ⟨z, rfl⟩
  | none =>
    exfalso
    have : ∀ d, P.lnTo ls (k + d) = none := fun d => by
      induction d with
      | zero => exact hl
      | succ d ih => rw [show k + (d + 1) = (k + d) + 1 by omega, lnTo, ih]
    have := this (m - k)
    rw [show k + (m - k) = m by omega, h] at this; cases this
theorem ln_bd (h : P.Ok) {ls : List Int} : ∀ {k f : Nat} {c : Int}, k ≤ P.m → P.lnTo ls k = some (f, c) → f ≤ P.n ∧ 0 ≤ c ∧ c ≤ 800000 * f
  | 0, f, c, _, e => by
    simp only [lnTo, Option.some.injEq, Prod.mk.injEq] at e
    omega
  | k + 1, f, c, hk, e => by
    rw [lnTo] at e
    cases hl : P.lnTo ls k with
    | none => rw [hl] at e; cases e
    | some y =>
      obtain ⟨f0, c0⟩ := y
      rw [hl] at e
      simp only at e
      split at e
      · cases e
      · rename_i hn
        simp only [Option.some.injEq, Prod.mk.injEq] at e
        obtain ⟨rfl, rfl⟩ := e
        have := ln_bd h (by omega) hl
        have := S_le h (p := k) (by omega) (f := f0) (g := f0 + (nth ls k).toNat) (by omega) (by omega)
        omega
/-- No cut costs less. -/
theorem ln_le {ls : List Int} {c' : Int} (h : P.lnTo ls P.m = some (P.n, c')) : ∀ {q f : Nat} {c : Int}, q ≤ P.m → P.lnTo ls (P.m - q) = some (f, c) → ∃ v, P.D q f = some v ∧ c + v ≤ c'
  | 0, f, c, _, e => by
    rw [Nat.sub_zero, h] at e
    simp only [Option.some.injEq, Prod.mk.injEq] at e
    obtain ⟨rfl, rfl⟩ := e
    exact ⟨0, by simp [D], by omega⟩
  | q + 1, f, c, hq, e => by
    obtain ⟨⟨g, c1⟩, h1⟩ := ln_some h (k := P.m - q) (by omega)
    obtain ⟨u, h2, h3⟩ := ln_le h (by omega) h1
    have e1 : P.m - q = (P.m - (q + 1)) + 1 := by omega
    rw [e1, lnTo, e] at h1
    simp only at h1
    split at h1
    · cases h1
    · rename_i hn
      simp only [Option.some.injEq, Prod.mk.injEq] at h1
      obtain ⟨rfl, rfl⟩ := h1
      have hV : P.V q (f + (nth ls (P.m - (q + 1))).toNat) = some (P.S (P.m - (q + 1)) (f + (nth ls (P.m - (q + 1))).toNat) + u) := by simp [V, h2]
      rw [D_succ]
      cases hB : P.B q (f + P.L) with
      | none => exact absurd hB (bst_ne hV (by omega) (by omega))
      | some y =>
        obtain ⟨b, g⟩ := y
        obtain ⟨_, _, h5⟩ := bst_spec hB
        have := (h5 _ _ (by omega) (by omega) hV).1
        exact ⟨_, rfl, by simp only; omega⟩
theorem nth_appR {a b : List Int} {i : Nat} (h : a.length ≤ i) : nth (a ++ b) i = nth b (i - a.length) := by simp only [nth, List.getD]; rw [List.getElem?_append_right h]
/-- The chosen cut costs what it says. -/
theorem ln_pth {v : Int} (h : P.D P.m 0 = some v) (hL : 1 ≤ P.L) : ∀ {k : Nat}, k ≤ P.m → ∃ t f u, t.length = k ∧ t ++ P.pth (P.m - k) f = P.pth P.m 0 ∧ f ≤ P.n ∧ P.D (P.m - k) f = some u ∧ P.lnTo (P.pth P.m 0) k = some (f, v - u)
  | 0, _ => ⟨[], 0, v, rfl, rfl, Nat.zero_le _, h, by simp [lnTo]⟩
  | k + 1, hk => by
    obtain ⟨t, f, u, h1, h2, h3, h4, h5⟩ := ln_pth h hL (k := k) (by omega)
    have e1 : P.m - k = (P.m - (k + 1)) + 1 := by omega
    have e2 : P.m - (P.m - (k + 1) + 1) = k := by omega
    rw [e1, D_succ, e2] at h4
    cases hB : P.B (P.m - (k + 1)) (f + P.L) with
    | none => rw [hB] at h4; cases h4
    | some y =>
      obtain ⟨b, g⟩ := y
      rw [hB] at h4
      simp only [Option.map_some, Option.some.injEq] at h4
      obtain ⟨a1, a2, _⟩ := bst_spec hB
      simp only [V, Option.map_eq_some_iff, e2] at a2
      obtain ⟨u', a3, a4⟩ := a2
      rw [e1, pth, hB] at h2
      simp only at h2
      have hk : nth (P.pth P.m 0) k = (g : Int) - f := by
        rw [← h2, nth_appR (by omega), h1, Nat.sub_self]; rfl
      have hg : f + ((g : Int) - f).toNat = g := by omega
      refine ⟨t ++ [(g : Int) - f], g, u', by simp [h1], by rw [← h2]; simp, by omega, a3, ?_⟩
      rw [ln_step h5 (by rw [hk]; omega), hk, hg]
      congr 2
      omega
theorem pth_len {q f : Nat} {v : Int} (h : P.D q f = some v) : (P.pth q f).length = q := by
  induction q generalizing f v with
  | zero => rfl
  | succ q ih =>
    rw [D_succ] at h
    cases hB : P.B q (f + P.L) with
    | none => rw [hB] at h; cases h
    | some y =>
      obtain ⟨b, g⟩ := y
      obtain ⟨_, a2, _⟩ := bst_spec hB
      simp only [V, Option.map_eq_some_iff] at a2
      obtain ⟨u', a3, _⟩ := a2
      rw [pth, hB]
      simp [ih a3]
theorem ln_own {v : Int} (h : P.D P.m 0 = some v) (hL : 1 ≤ P.L) : P.lnTo (P.pth P.m 0) P.m = some (P.n, v) := by
  obtain ⟨t, f, u, _, _, h3, h4, h5⟩ := ln_pth h hL (Nat.le_refl _)
  rw [Nat.sub_self] at h4
  simp only [D] at h4
  split at h4
  · rename_i hf
    cases h4
    rw [h5, hf]; simp
  · cases h4
end CutP
/-- What the program says of lengths. -/
def lenE (P : CutP) (ls : List Int) : Int × Int := if ls.length = P.m then match P.lnTo ls P.m with
  | some (f, c) => if f = P.n then (c, 0) else (0, 2)
  | none => (0, 2) else (0, 2)
theorem cutCost_bad (sf sp sl : SlV) (fv pv : List SlV) (fl pl : List (List Int)) (least : Int) (w : World) (hf : Stb w [] (fun w' => Mt w' sf.v fv fl)) (hp : Stb w [] (fun w' => Mt w' sp.v pv pl)) (hE : cutE fl pl least ≠ 0) :
    Calls Tryz.prog 55 #[sf.v, sp.v, .int .i64 least, sl.v] w fun e w' => e = .returned (.tuple #[.int .i64 0, .int .i64 (cutE fl pl least)]) ∧ Cl w [] [] w' := by
  refine calls_cw (vs := [_, _, _, _]) Tryz.func55 rfl Tryz.ntmps55 rfl (Cl.start0 w) (cw_seq (cw_region (sr rfl rfl rfl ((q_assign rfl rfl)) (sr rfl rfl rfl ((q_assign rfl rfl)) (sw_nil (post_then (cw_seq (cw_seq (cw_region (sr rfl rfl rfl ((q_move rfl rfl)) (sr rfl rfl rfl ((q_move rfl rfl)) (sr rfl rfl rfl ((q_move rfl rfl)) (sw_step rfl rfl rfl (q_call (CanCall.mk Tryz.call71) rfl (.cons rfl inferInstance (.cons rfl inferInstance (.cons rfl inferInstance (.nil)))) (fun _ w hw => callq hw (cutting_spec sf sp fv pv fl pl least w (stb_arg hw hf) (stb_arg hw hp)))) (sr rfl rfl rfl ((q_assign rfl rfl)) (sw_nil (post_then (cw_seq (cw_region (sr rfl rfl rfl ((q_move rfl rfl)) (sr rfl rfl rfl ((q_neq rfl rfl rfl)) (sw_nil (post_then ?_))))))))))))))))))))))
  refine cw_cond rfl (fun h => ?_) (fun h => ?_)
  · skip
    refine cw_seq (cw_region (sr rfl rfl rfl ((q_move rfl rfl)) (sr rfl rfl rfl ((q_assign rfl rfl)) (sr rfl rfl rfl ((q_assign rfl rfl)) (sw_nil (post_then (cw_ret (post_then_r (post_ret2 rfl (resOk_tmp rfl) (resOk_tmp rfl) ?_)))))))))
    exact fun w' hw => ⟨rfl, hw⟩
  · skip
    exfalso
    simp only [Bool.not_eq_false', decide_eq_true_eq] at h
    exact hE h
theorem cutCost_spec (sf sp sl : SlV) (fv pv : List SlV) (P : CutP) (ls : List Int) (w : World) (hf : Stb w [] (fun w' => Mt w' sf.v fv P.fl)) (hp : Stb w [] (fun w' => Mt w' sp.v pv P.pl)) (hl : Stb w [] (RdL sl.v ls)) (hE : cutE P.fl P.pl P.L = 0) (ok : P.Ok) :
    Calls Tryz.prog 55 #[sf.v, sp.v, .int .i64 P.L, sl.v] w fun e w' => e = .returned (.tuple #[.int .i64 (lenE P ls).1, .int .i64 (lenE P ls).2]) ∧ Cl w [] [] w' := by
  have h1 : Stb w [] (RdL sf.v fv) := stb_map hf fun _ h => h.l
  have h2 : Stb w [] (RdL sp.v pv) := stb_map hp fun _ h => h.l
  have n1 : fv.length = P.n := hf.here.n
  have n2 : pv.length = P.m := hp.here.n
  have hL := ok.l1
  have hm2 := ok.m2
  have hn2 := ok.n2
  have hll := rd_len hl.here
  refine calls_cw (vs := [_, _, _, _]) Tryz.func55 rfl Tryz.ntmps55 rfl (Cl.start0 w) (cw_seq (cw_region (sr rfl rfl rfl ((q_assign rfl rfl)) (sr rfl rfl rfl ((q_assign rfl rfl)) (sw_nil (post_then (cw_seq (cw_seq (cw_region (sr rfl rfl rfl ((q_move rfl rfl)) (sr rfl rfl rfl ((q_move rfl rfl)) (sr rfl rfl rfl ((q_move rfl rfl)) (sw_step rfl rfl rfl (q_call (CanCall.mk Tryz.call71) rfl (.cons rfl inferInstance (.cons rfl inferInstance (.cons rfl inferInstance (.nil)))) (fun _ w hw => callq hw (cutting_spec sf sp fv pv P.fl P.pl P.L w (stb_arg hw hf) (stb_arg hw hp)))) (sr rfl rfl rfl ((q_assign rfl rfl)) (sw_nil (post_then (cw_seq (cw_region (sr rfl rfl rfl ((q_move rfl rfl)) (sr rfl rfl rfl ((q_neq rfl rfl rfl)) (sw_nil (post_then ?_))))))))))))))))))))))
  refine cw_cond rfl (fun h => ?_) (fun h => ?_)
  · skip
    exfalso
    simp [hE] at h
  · skip
    clear h
    refine cw_skip (post_then (cw_seq (cw_seq (cw_region (sr rfl rfl rfl ((q_move rfl rfl)) ?_)))))
    refine sr rfl rfl rfl ((q_len rfl (.cons rfl inferInstance (.nil)) (by exact fun w hw => Stb.cl (by assumption) hw))) ?_
    refine sr rfl rfl rfl ((q_move rfl rfl)) ?_
    refine sr rfl rfl rfl ((q_len rfl (.cons rfl inferInstance (.nil)) (by exact fun w hw => Stb.cl (by assumption) hw))) ?_
    refine sr rfl rfl rfl ((q_neq rfl rfl rfl)) (sw_nil (post_then ?_))
    refine cw_cond rfl (fun h => ?_) (fun h => ?_)
    · skip
      have hne : ¬ ls.length = P.m := by simp only [Bool.not_eq_true', decide_eq_false_iff_not] at h; omega
      refine cw_seq (cw_region (sr rfl rfl rfl ((q_assign rfl rfl)) (sr rfl rfl rfl ((q_assign rfl rfl)) (sw_nil (post_then (cw_ret (post_then_r (post_ret2 rfl (resOk_tmp rfl) (resOk_tmp rfl) ?_))))))))
      exact fun w' hw => ⟨by rw [lenE, if_neg hne], hw⟩
    · skip
      have hlm : ls.length = P.m := by simp only [Bool.not_eq_false', decide_eq_true_eq] at h; omega
      refine cw_skip (post_then (cw_seq (cw_region (sr rfl rfl rfl ((q_assign rfl rfl)) (sr rfl rfl rfl ((q_assign rfl rfl)) (sw_nil (post_then (cw_seq (cw_seq (cw_region (sr rfl rfl rfl ((q_move rfl rfl)) ?_)))))))))))
      refine sr rfl rfl rfl ((q_len rfl (.cons rfl inferInstance (.nil)) (by exact fun w hw => Stb.cl (by assumption) hw))) ?_
      refine sr rfl rfl rfl ((q_move rfl rfl)) (sw_nil (post_then (cw_block ?_)))
      refine cw_loop (S := Nat × (Nat × Int)) (fun y => [(0, [], sf.v), (1, [], sp.v), (2, [], .int .i64 P.L), (11, [], .int .i64 y.2.1), (12, [], .int .i64 y.2.2), (27, [], sl.v), (28, [], .int .i64 ls.length), (29, [], .int .i64 y.1)]) (fun _ => Cl w [] []) (fun y => y.1 ≤ P.m ∧ P.lnTo ls y.1 = some y.2) (fun y => P.m - y.1) (0, (0, 0)) ⟨Nat.zero_le _, rfl⟩ (by exact .cons rfl (.cons rfl (.cons rfl (.cons rfl (.cons rfl (.cons rfl (.cons rfl (.cons rfl .nil)))))))) (fun _ h => h) ?_
      rintro ⟨k, ⟨f, c⟩⟩ ⟨hk, hln⟩
      dsimp only at hk hln ⊢
      obtain ⟨hfn, hc0, hc1⟩ := CutP.ln_bd ok hk hln
      refine cw_seq (cw_region (sr rfl rfl rfl ((q_lss rfl rfl rfl)) (sw_nil (post_then (cw_seq ?_)))))
      refine cw_cond rfl (fun h3 => ?_) (fun h3 => ?_)
      · skip
        have hk' : k < P.m := by simp only [decide_eq_true_eq] at h3; omega
        have hrp := stb_map hp fun _ h => h.r k hk'
        have hvp := ok.pv k hk'
        refine cw_skip (post_then (cw_seq (cw_block (cw_seq (cw_region (sr rfl rfl rfl ((q_move rfl rfl)) ?_))))))
        refine sr rfl rfl rfl ((q_indexN rfl rfl rfl (by exact fun w hw => Stb.cl (by assumption) hw) (by intro hc; omega))) ?_
        refine sr rfl rfl rfl ((q_loadEl rfl rfl rfl (by exact fun w hw => Stb.cl (by assumption) hw) (by intro hc; omega))) ?_
        refine sr rfl rfl rfl ((q_assign rfl rfl)) (sr rfl rfl rfl ((q_assign rfl rfl)) (sw_nil (post_then (cw_seq (cw_seq (cw_region (sr rfl rfl rfl ((q_move rfl rfl)) (sr rfl rfl rfl ((q_move rfl rfl)) (sr rfl rfl rfl ((q_lss rfl rfl rfl)) (sr rfl rfl rfl ((q_move rfl rfl)) (sr rfl rfl rfl ((q_move rfl rfl)) (sr rfl rfl rfl ((q_move rfl rfl)) ?_))))))))))))
        refine sr rfl rfl rfl ((q_len rfl (.cons rfl inferInstance (.nil)) (by exact fun w hw => Stb.cl (by assumption) hw))) ?_
        refine sr rfl rfl rfl ((q_move rfl rfl)) ?_
        refine sr rfl rfl rfl ((q_sub rfl rfl rfl (by intro hc; omega))) ?_
        refine sr rfl rfl rfl ((q_gtr rfl rfl rfl)) (sr rfl rfl rfl ((q_or2 rfl rfl rfl)) (sw_nil (post_then ?_)))
        refine cw_cond rfl (fun h4 => ?_) (fun h4 => ?_)
        · skip
          have h5 : nth ls k < P.L ∨ (P.n : Int) - f < nth ls k := by
            simp only [Bool.or_eq_true, decide_eq_true_eq, n1] at h4; exact h4
          refine cw_seq (cw_region (sr rfl rfl rfl ((q_assign rfl rfl)) (sr rfl rfl rfl ((q_assign rfl rfl)) (sw_nil (post_then (cw_ret (post_then_r (post_blk_r (post_then_r (post_then_r (post_blk_r (post_then_r (post_ret2 rfl (resOk_tmp rfl) (resOk_tmp rfl) ?_)))))))))))))
          exact fun w' hw => ⟨by rw [lenE, if_pos hlm, CutP.ln_none hln h5 hk'], hw⟩
        · skip
          have h5 : ¬ (nth ls k < P.L ∨ (P.n : Int) - f < nth ls k) := by
            simp only [Bool.or_eq_false_iff, decide_eq_false_iff_not, n1] at h4; omega
          have hst := CutP.ln_step hln h5
          obtain ⟨N, hN⟩ : ∃ N : Nat, nth ls k = N := ⟨(nth ls k).toNat, by omega⟩
          rw [hN] at hst h5 ⊢
          rw [Int.toNat_natCast] at hst
          refine cw_skip (post_then (cw_seq (cw_region (sr rfl rfl rfl ((q_move rfl rfl)) (sr rfl rfl rfl ((q_move rfl rfl)) (sw_nil (post_then (cw_block ?_))))))))
          refine cw_loop (S := Nat) (fun j => [(0, [], sf.v), (1, [], sp.v), (2, [], .int .i64 P.L), (11, [], .int .i64 ((f + j : Nat) : Int)), (12, [], .int .i64 (c + (P.S k (f + j) - P.S k f))), (13, [], .int .i64 k), (27, [], sl.v), (28, [], .int .i64 ls.length), (29, [], .int .i64 k), (45, [], .int .i64 N), (46, [], .int .i64 j)]) (fun _ => Cl w [] []) (fun j => j ≤ N) (fun j => N - j) 0 (Nat.zero_le _) ?_ (fun _ h => h) ?_
          · exact Le.cons rfl (Le.cons rfl (Le.cons rfl (Le.cons' rfl (by congr 1) (Le.cons' rfl (by congr 1; simp) (Le.cons rfl (Le.cons rfl (Le.cons rfl (Le.cons rfl (Le.cons rfl (Le.cons rfl Le.nil))))))))))
          intro j hj
          have hSb := CutP.S_le ok hk' (f := f) (g := f + j) (by omega) (by omega)
          refine cw_seq (cw_region (sr rfl rfl rfl ((q_lss rfl rfl rfl)) (sw_nil (post_then (cw_seq ?_)))))
          refine cw_cond rfl (fun h6 => ?_) (fun h6 => ?_)
          · skip
            have hj' : j < N := by simp only [decide_eq_true_eq] at h6; omega
            have hrf := stb_map hf fun _ h => h.r (f + j) (show f + j < P.n by omega)
            have hvf := ok.fv (f + j) (by omega)
            have hlen := ok.eq (f + j) k (by omega) hk'
            have hd := dist_bd hvf hvp
            have hS1 : c + (P.S k (f + j) - P.S k f) + dist (nth P.fl (f + j)) (nth P.pl k) = c + (P.S k (f + (j + 1)) - P.S k f) := by
              have : P.S k (f + (j + 1)) = P.S k (f + j) + dist (nth P.fl (f + j)) (nth P.pl k) := rfl
              omega
            refine cw_skip (post_then (cw_seq (cw_block (cw_seq ?_))))
            refine cw_region_q mixed_Tryz (by kernel_rfl) ?_
            refine qr rfl rfl rfl ((q_move rfl rfl)) (qr rfl rfl rfl ((q_move rfl rfl)) (qr rfl rfl rfl ((q_move rfl rfl)) ?_))
            refine qr rfl rfl rfl ((q_indexN rfl rfl rfl (by exact fun w hw => Stb.cl (by assumption) hw) (by intro hc; omega))) ?_
            refine qr rfl rfl rfl ((q_loadEl rfl rfl rfl (by exact fun w hw => Stb.cl (by assumption) hw) (by intro hc; omega))) ?_
            refine qr rfl rfl rfl ((q_move rfl rfl)) (qr rfl rfl rfl ((q_move rfl rfl)) ?_)
            refine qr rfl rfl rfl ((q_indexN rfl rfl rfl (by exact fun w hw => Stb.cl (by assumption) hw) (by intro hc; omega))) ?_
            refine qr rfl rfl rfl ((q_loadEl rfl rfl rfl (by exact fun w hw => Stb.cl (by assumption) hw) (by intro hc; omega))) ?_
            refine qw_step rfl rfl rfl (q_call (CanCall.mk Tryz.call72) rfl (.cons rfl inferInstance (.cons rfl inferInstance (.nil))) (fun _ w hw => callq hw (distance_spec _ _ _ _ w (stb_arg hw hrf) (stb_arg hw hrp) hvf hvp hlen))) ?_
            refine qr rfl rfl rfl ((q_add rfl rfl rfl (by intro hc; omega))) ?_
            refine qr rfl rfl rfl ((q_assign rfl rfl)) (qw_end (post_then (cw_region (sr rfl rfl rfl ((q_move rfl rfl)) ?_))))
            refine sr rfl rfl rfl ((q_add rfl rfl rfl (by intro hc; omega))) ?_
            refine sr rfl rfl rfl ((q_assign rfl rfl)) (sw_nil (post_blk (post_then (cw_region ?_))))
            refine sr rfl rfl rfl ((q_add rfl rfl rfl (by intro hc; omega))) ?_
            refine sr rfl rfl rfl ((q_move rfl rfl)) (sw_nil ?_)
            exact post_next (j + 1) (Le.cons rfl (Le.cons rfl (Le.cons rfl (Le.cons' rfl (by congr 1) (Le.cons' rfl (by congr 1) (Le.cons rfl (Le.cons rfl (Le.cons rfl (Le.cons rfl (Le.cons rfl (Le.cons' rfl (by congr 1) Le.nil))))))))))) (fun _ h => h) (by omega) (by omega)
          · skip
            have hj' : j = N := by simp only [decide_eq_false_iff_not] at h6; omega
            subst hj'
            refine cw_exit (post_then_x (post_then_x (post_blk_eq (post_blk (post_then (cw_region ?_))))))
            refine sr rfl rfl rfl ((q_add rfl rfl rfl (by intro hc; omega))) ?_
            refine sr rfl rfl rfl ((q_move rfl rfl)) (sw_nil ?_)
            exact post_next (k + 1, (f + j, c + (P.S k (f + j) - P.S k f))) (by exact .cons rfl (.cons rfl (.cons rfl (.cons rfl (.cons rfl (.cons rfl (.cons rfl (.cons rfl .nil)))))))) (fun _ h => h) ⟨by simp only; omega, hst⟩ (by simp only; omega)
      · skip
        have hk' : k = P.m := by simp only [decide_eq_false_iff_not] at h3; omega
        subst hk'
        refine cw_exit (post_then_x (post_then_x (post_blk_eq (post_then (cw_seq (cw_seq (cw_region (sr rfl rfl rfl ((q_move rfl rfl)) (sr rfl rfl rfl ((q_move rfl rfl)) ?_)))))))))
        refine sr rfl rfl rfl ((q_len rfl (.cons rfl inferInstance (.nil)) (by exact fun w hw => Stb.cl (by assumption) hw))) ?_
        refine sr rfl rfl rfl ((q_neq rfl rfl rfl)) (sw_nil (post_then ?_))
        refine cw_cond rfl (fun h4 => ?_) (fun h4 => ?_)
        · skip
          have h5 : ¬ f = P.n := by simp only [Bool.not_eq_true', decide_eq_false_iff_not] at h4; omega
          refine cw_seq (cw_region (sr rfl rfl rfl ((q_assign rfl rfl)) (sr rfl rfl rfl ((q_assign rfl rfl)) (sw_nil (post_then (cw_ret (post_then_r (post_ret2 rfl (resOk_tmp rfl) (resOk_tmp rfl) ?_))))))))
          exact fun w' hw => ⟨by rw [lenE, if_pos hlm, hln]; simp only; rw [if_neg h5], hw⟩
        · skip
          have h5 : f = P.n := by simp only [Bool.not_eq_false', decide_eq_true_eq] at h4; omega
          refine cw_skip (post_then (cw_seq (cw_region (sr rfl rfl rfl ((q_move rfl rfl)) (sr rfl rfl rfl ((q_assign rfl rfl)) (sr rfl rfl rfl ((q_assign rfl rfl)) (sw_nil (post_then (cw_ret (post_ret2 rfl (resOk_tmp rfl) (resOk_tmp rfl) ?_))))))))))
          exact fun w' hw => ⟨by rw [lenE, if_pos hlm, hln]; simp only; rw [if_pos h5], hw⟩
def lenR (P : CutP) (ls : List Int) : Int × Bool := if ls.length = P.m then match P.lnTo ls P.m with
  | some (f, c) => (c, decide (f = P.n))
  | none => (0, false) else (0, false)
theorem refCutCost_spec (sf sp sl : SlV) (fv pv : List SlV) (P : CutP) (ls : List Int) (w : World) (hf : Stb w [] (fun w' => Mt w' sf.v fv P.fl)) (hp : Stb w [] (fun w' => Mt w' sp.v pv P.pl)) (hl : Stb w [] (RdL sl.v ls)) (ok : P.Ok) :
    Calls Tryz.prog 56 #[sf.v, sp.v, .int .i64 P.L, sl.v] w fun e w' => e = .returned (.tuple #[.int .i64 (lenR P ls).1, .bool (lenR P ls).2]) ∧ Cl w [] [] w' := by
  have h1 : Stb w [] (RdL sf.v fv) := stb_map hf fun _ h => h.l
  have h2 : Stb w [] (RdL sp.v pv) := stb_map hp fun _ h => h.l
  have n1 : fv.length = P.n := hf.here.n
  have n2 : pv.length = P.m := hp.here.n
  have hL := ok.l1
  have hm2 := ok.m2
  have hn2 := ok.n2
  have hll := rd_len hl.here
  refine calls_cw (vs := [_, _, _, _]) Tryz.func56 rfl Tryz.ntmps56 rfl (Cl.start0 w) (cw_seq (cw_region (sr rfl rfl rfl ((q_assign rfl rfl)) (sr rfl rfl rfl ((q_assign rfl rfl)) (sw_nil (post_then (cw_seq (cw_seq (cw_region (sr rfl rfl rfl ((q_move rfl rfl)) ?_))))))))))
  refine sr rfl rfl rfl ((q_len rfl (.cons rfl inferInstance (.nil)) (by exact fun w hw => Stb.cl (by assumption) hw))) ?_
  refine sr rfl rfl rfl ((q_move rfl rfl)) ?_
  refine sr rfl rfl rfl ((q_len rfl (.cons rfl inferInstance (.nil)) (by exact fun w hw => Stb.cl (by assumption) hw))) ?_
  refine sr rfl rfl rfl ((q_neq rfl rfl rfl)) (sw_nil (post_then ?_))
  refine cw_cond rfl (fun h => ?_) (fun h => ?_)
  · skip
    have hne : ¬ ls.length = P.m := by simp only [Bool.not_eq_true', decide_eq_false_iff_not] at h; omega
    refine cw_seq (cw_region (sr rfl rfl rfl ((q_assign rfl rfl)) (sr rfl rfl rfl ((q_assign rfl rfl)) (sw_nil (post_then (cw_ret (post_then_r (post_ret2 rfl (resOk_tmp rfl) (resOk_tmp rfl) ?_))))))))
    exact fun w' hw => ⟨by rw [lenR, if_neg hne], hw⟩
  · skip
    have hlm : ls.length = P.m := by simp only [Bool.not_eq_false', decide_eq_true_eq] at h; omega
    refine cw_skip (post_then (cw_seq (cw_region (sr rfl rfl rfl ((q_assign rfl rfl)) (sr rfl rfl rfl ((q_assign rfl rfl)) (sw_nil (post_then (cw_seq (cw_seq (cw_region (sr rfl rfl rfl ((q_assign rfl rfl)) (sw_nil (post_then (cw_block ?_))))))))))))))
    refine cw_loop (S := Nat × (Nat × Int)) (fun y => [(0, [], sf.v), (1, [], sp.v), (2, [], .int .i64 P.L), (3, [], sl.v), (10, [], .int .i64 y.2.2), (11, [], .int .i64 y.2.1), (12, [], .int .i64 y.1)]) (fun _ => Cl w [] []) (fun y => y.1 ≤ P.m ∧ P.lnTo ls y.1 = some y.2) (fun y => P.m - y.1) (0, (0, 0)) ⟨Nat.zero_le _, rfl⟩ (by exact .cons rfl (.cons rfl (.cons rfl (.cons rfl (.cons rfl (.cons rfl (.cons rfl .nil))))))) (fun _ h => h) ?_
    rintro ⟨k, ⟨f, c⟩⟩ ⟨hk, hln⟩
    dsimp only at hk hln ⊢
    obtain ⟨hfn, hc0, hc1⟩ := CutP.ln_bd ok hk hln
    refine cw_seq (cw_seq (cw_region (sr rfl rfl rfl ((q_move rfl rfl)) (sr rfl rfl rfl ((q_move rfl rfl)) ?_))))
    refine sr rfl rfl rfl ((q_len rfl (.cons rfl inferInstance (.nil)) (by exact fun w hw => Stb.cl (by assumption) hw))) ?_
    refine sr rfl rfl rfl ((q_lss rfl rfl rfl)) (sw_nil (post_then ?_))
    refine cw_cond rfl (fun h3 => ?_) (fun h3 => ?_)
    · skip
      have hk' : k < P.m := by simp only [decide_eq_true_eq] at h3; omega
      have hrp := stb_map hp fun _ h => h.r k hk'
      have hvp := ok.pv k hk'
      refine cw_skip (post_then (cw_seq (cw_block (cw_seq (cw_seq (cw_region (sr rfl rfl rfl ((q_move rfl rfl)) (sr rfl rfl rfl ((q_move rfl rfl)) ?_))))))))
      refine sr rfl rfl rfl ((q_indexN rfl rfl rfl (by exact fun w hw => Stb.cl (by assumption) hw) (by intro hc; omega))) ?_
      refine sr rfl rfl rfl ((q_loadEl rfl rfl rfl (by exact fun w hw => Stb.cl (by assumption) hw) (by intro hc; omega))) ?_
      refine sr rfl rfl rfl ((q_move rfl rfl)) (sr rfl rfl rfl ((q_lss rfl rfl rfl)) (sr rfl rfl rfl ((q_move rfl rfl)) (sr rfl rfl rfl ((q_move rfl rfl)) (sr rfl rfl rfl ((q_move rfl rfl)) ?_))))
      refine sr rfl rfl rfl ((q_indexN rfl rfl rfl (by exact fun w hw => Stb.cl (by assumption) hw) (by intro hc; omega))) ?_
      refine sr rfl rfl rfl ((q_loadEl rfl rfl rfl (by exact fun w hw => Stb.cl (by assumption) hw) (by intro hc; omega))) ?_
      refine sr rfl rfl rfl ((q_move rfl rfl)) ?_
      refine sr rfl rfl rfl ((q_len rfl (.cons rfl inferInstance (.nil)) (by exact fun w hw => Stb.cl (by assumption) hw))) ?_
      refine sr rfl rfl rfl ((q_move rfl rfl)) ?_
      refine sr rfl rfl rfl ((q_sub rfl rfl rfl (by intro hc; omega))) ?_
      refine sr rfl rfl rfl ((q_gtr rfl rfl rfl)) (sr rfl rfl rfl ((q_or2 rfl rfl rfl)) (sw_nil (post_then ?_)))
      refine cw_cond rfl (fun h4 => ?_) (fun h4 => ?_)
      · skip
        have h5 : nth ls k < P.L ∨ (P.n : Int) - f < nth ls k := by
          simp only [Bool.or_eq_true, decide_eq_true_eq, n1] at h4; exact h4
        refine cw_seq (cw_region (sr rfl rfl rfl ((q_assign rfl rfl)) (sr rfl rfl rfl ((q_assign rfl rfl)) (sw_nil (post_then (cw_ret (post_then_r (post_blk_r (post_then_r (post_then_r (post_blk_r (post_then_r (post_ret2 rfl (resOk_tmp rfl) (resOk_tmp rfl) ?_)))))))))))))
        exact fun w' hw => ⟨by rw [lenR, if_pos hlm, CutP.ln_none hln h5 hk'], hw⟩
      · skip
        have h5 : ¬ (nth ls k < P.L ∨ (P.n : Int) - f < nth ls k) := by
          simp only [Bool.or_eq_false_iff, decide_eq_false_iff_not, n1] at h4; omega
        have hst := CutP.ln_step hln h5
        obtain ⟨N, hN⟩ : ∃ N : Nat, nth ls k = N := ⟨(nth ls k).toNat, by omega⟩
        rw [hN] at hst h5
        rw [Int.toNat_natCast] at hst
        refine cw_skip (post_then (cw_seq (cw_seq (cw_region (sr rfl rfl rfl ((q_assign rfl rfl)) (sw_nil (post_then (cw_block ?_))))))))
        refine cw_loop (S := Nat) (fun j => [(0, [], sf.v), (1, [], sp.v), (2, [], .int .i64 P.L), (3, [], sl.v), (10, [], .int .i64 (c + (P.S k (f + j) - P.S k f))), (11, [], .int .i64 f), (12, [], .int .i64 k), (13, [], .int .i64 j)]) (fun _ => Cl w [] []) (fun j => j ≤ N) (fun j => N - j) 0 (Nat.zero_le _) ?_ (fun _ h => h) ?_
        · exact Le.cons rfl (Le.cons rfl (Le.cons rfl (Le.cons rfl (Le.cons' rfl (by congr 1; simp) (Le.cons rfl (Le.cons rfl (Le.cons rfl Le.nil)))))))
        intro j hj
        have hSb := CutP.S_le ok hk' (f := f) (g := f + j) (by omega) (by omega)
        refine cw_seq (cw_seq (cw_region (sr rfl rfl rfl ((q_move rfl rfl)) (sr rfl rfl rfl ((q_move rfl rfl)) (sr rfl rfl rfl ((q_move rfl rfl)) ?_)))))
        refine sr rfl rfl rfl ((q_indexN rfl rfl rfl (by exact fun w hw => Stb.cl (by assumption) hw) (by intro hc; omega))) ?_
        refine sr rfl rfl rfl ((q_loadEl rfl rfl rfl (by exact fun w hw => Stb.cl (by assumption) hw) (by intro hc; omega))) ?_
        refine sr rfl rfl rfl ((q_lss rfl rfl rfl)) (sw_nil (post_then ?_))
        refine cw_cond rfl (fun h6 => ?_) (fun h6 => ?_)
        · skip
          have hj' : j < N := by simp only [decide_eq_true_eq] at h6; omega
          have hrf := stb_map hf fun _ h => h.r (f + j) (show f + j < P.n by omega)
          have hvf := ok.fv (f + j) (by omega)
          have hlen := ok.eq (f + j) k (by omega) hk'
          have hd := dist_bd hvf hvp
          refine cw_skip (post_then (cw_seq (cw_block ?_)))
          refine cw_region_q mixed_Tryz (by kernel_rfl) ?_
          refine qr rfl rfl rfl ((q_move rfl rfl)) (qr rfl rfl rfl ((q_move rfl rfl)) (qr rfl rfl rfl ((q_move rfl rfl)) (qr rfl rfl rfl ((q_move rfl rfl)) ?_)))
          refine qr rfl rfl rfl ((q_add rfl rfl rfl (by intro hc; omega))) ?_
          refine qr rfl rfl rfl ((q_indexN rfl rfl rfl (by exact fun w hw => Stb.cl (by assumption) hw) (by intro hc; omega))) ?_
          refine qr rfl rfl rfl ((q_loadEl rfl rfl rfl (by exact fun w hw => Stb.cl (by assumption) hw) (by intro hc; omega))) ?_
          refine qr rfl rfl rfl ((q_move rfl rfl)) (qr rfl rfl rfl ((q_move rfl rfl)) ?_)
          refine qr rfl rfl rfl ((q_indexN rfl rfl rfl (by exact fun w hw => Stb.cl (by assumption) hw) (by intro hc; omega))) ?_
          refine qr rfl rfl rfl ((q_loadEl rfl rfl rfl (by exact fun w hw => Stb.cl (by assumption) hw) (by intro hc; omega))) ?_
          refine qw_step rfl rfl rfl (q_call (CanCall.mk Tryz.call74) rfl (.cons rfl inferInstance (.cons rfl inferInstance (.nil))) (fun _ w hw => callq hw (refDistance_spec _ _ _ _ w (stb_arg hw hrf) (stb_arg hw hrp) hvf hvp hlen))) ?_
          refine qr rfl rfl rfl ((q_add rfl rfl rfl (by intro hc; omega))) ?_
          refine qr rfl rfl rfl ((q_assign rfl rfl)) (qw_end (post_blk (post_then (cw_region (sr rfl rfl rfl ((q_move rfl rfl)) ?_)))))
          refine sr rfl rfl rfl ((q_add rfl rfl rfl (by intro hc; omega))) ?_
          refine sr rfl rfl rfl ((q_assign rfl rfl)) (sw_nil ?_)
          refine post_next (j + 1) (Le.cons rfl (Le.cons rfl (Le.cons rfl (Le.cons rfl (Le.cons' rfl ?_ (Le.cons rfl (Le.cons rfl (Le.cons' rfl (by congr 1) Le.nil)))))))) (fun _ h => h) (by omega) (by omega)
          have : P.S k (f + (j + 1)) = P.S k (f + j) + dist (nth P.fl (f + j)) (nth P.pl k) := rfl
          rw [this]
          congr 1
          omega
        · skip
          have hj' : j = N := by simp only [decide_eq_false_iff_not] at h6; omega
          subst hj'
          refine cw_exit (post_then_x (post_then_x (post_blk_eq (post_then (cw_region (sr rfl rfl rfl ((q_move rfl rfl)) (sr rfl rfl rfl ((q_move rfl rfl)) (sr rfl rfl rfl ((q_move rfl rfl)) ?_))))))))
          refine sr rfl rfl rfl ((q_indexN rfl rfl rfl (by exact fun w hw => Stb.cl (by assumption) hw) (by intro hc; omega))) ?_
          refine sr rfl rfl rfl ((q_loadEl rfl rfl rfl (by exact fun w hw => Stb.cl (by assumption) hw) (by intro hc; omega))) ?_
          refine sr rfl rfl rfl ((q_add rfl rfl rfl (by intro hc; omega))) ?_
          refine sr rfl rfl rfl ((q_assign rfl rfl)) (sw_nil (post_blk (post_then (cw_region (sr rfl rfl rfl ((q_move rfl rfl)) ?_)))))
          refine sr rfl rfl rfl ((q_add rfl rfl rfl (by intro hc; omega))) ?_
          refine sr rfl rfl rfl ((q_assign rfl rfl)) (sw_nil ?_)
          refine post_next (k + 1, (f + j, c + (P.S k (f + j) - P.S k f))) (Le.cons rfl (Le.cons rfl (Le.cons rfl (Le.cons rfl (Le.cons rfl (Le.cons' rfl (by congr 1; simp only; omega) (Le.cons' rfl (by congr 1) Le.nil))))))) (fun _ h => h) ⟨by simp only; omega, hst⟩ (by simp only; omega)
    · skip
      have hk' : k = P.m := by simp only [decide_eq_false_iff_not] at h3; omega
      subst hk'
      refine cw_exit (post_then_x (post_then_x (post_blk_eq (post_then (cw_seq (cw_region (sr rfl rfl rfl ((q_move rfl rfl)) (sr rfl rfl rfl ((q_move rfl rfl)) (sr rfl rfl rfl ((q_move rfl rfl)) ?_)))))))))
      refine sr rfl rfl rfl ((q_len rfl (.cons rfl inferInstance (.nil)) (by exact fun w hw => Stb.cl (by assumption) hw))) ?_
      refine sr rfl rfl rfl ((q_eql rfl rfl rfl)) (sr rfl rfl rfl ((q_assign rfl rfl)) (sr rfl rfl rfl ((q_assign rfl rfl)) (sw_nil (post_then (cw_ret (post_ret2 rfl (resOk_tmp rfl) (resOk_tmp rfl) ?_))))))
      refine fun w' hw => ⟨?_, hw⟩
      rw [lenR, if_pos hlm, hln, n1]
      simp only [Int.natCast_inj]
end Go.Proofs.YtomjbfeafodfbaaGreat

set_option autoImplicit false
set_option maxRecDepth 100000
namespace Go.Proofs.YtomjbfeafodfbaaGreat
open Go.Sx
open Enc (enc val)
theorem cut_or {fl pl : List (List Int)} {L : Nat} : (fl.length < pl.length * (L : Int) ∨ pl.length = 0 ∧ 0 < fl.length) ∨ (pl.length * L ≤ fl.length ∧ (pl.length = 0 → fl.length = 0)) := by
  have e : ((pl.length : Int) * (L : Int)) = ((pl.length * L : Nat) : Int) := by rw [Int.natCast_mul]
  rw [e]
  omega
theorem lawCuts (sf sp : SlV) (fv pv : List SlV) (fl pl : List (List Int)) (least : Int) (w : World) (hf : Stb w [] (fun w' => Mt w' sf.v fv fl)) (hp : Stb w [] (fun w' => Mt w' sp.v pv pl)) :
    Calls Tryz.prog 6 #[sf.v, sp.v, .int .i64 least] w fun e w' => e = .returned (.bool true) ∧ Cl w [] [] w' := by
  refine calls_cw (vs := [_, _, _]) Tryz.func6 rfl Tryz.ntmps6 rfl (Cl.start0 w) (cw_seq (cw_region (sr rfl rfl rfl ((q_assign rfl rfl)) (sw_nil (post_then (cw_seq (cw_seq (cw_region (sr rfl rfl rfl ((q_move rfl rfl)) (sw_step rfl rfl rfl (q_call (CanCall.mk Tryz.call29) rfl (.cons rfl inferInstance (.cons rfl inferInstance (.nil))) (fun _ w hw => callq hw (vectors_spec sf fv fl 12 w (stb_arg hw hf)))) (sr rfl rfl rfl ((q_not rfl rfl)) (sr rfl rfl rfl ((q_move rfl rfl)) (sr rfl rfl rfl ((q_move rfl rfl)) (sw_step rfl rfl rfl (q_call (CanCall.mk Tryz.call29) rfl (.cons rfl inferInstance (.cons rfl inferInstance (.nil))) (fun _ w hw => callq hw (vectors_spec sp pv pl 6 w (stb_arg hw hp)))) (sr rfl rfl rfl ((q_not rfl rfl)) (sr rfl rfl rfl ((q_or2 rfl rfl rfl)) (sw_nil (post_then ?_))))))))))))))))))
  refine cw_cond rfl (fun h => ?_) (fun h => ?_)
  · skip
    refine cw_seq (cw_region (sw_step rfl rfl rfl (q_call (CanCall.mk Tryz.call18) rfl (.nil) (fun _ w hw => callq hw (known_spec w))) (sr rfl rfl rfl ((q_assign rfl rfl)) (sw_nil (post_then (cw_ret (post_then_r (post_ret1 rfl (resOk_tmp rfl) ?_))))))))
    exact fun w' hw => ⟨rfl, (fun w h => Cl.sel (by exact .nil _) w h) _ hw⟩
  · skip
    clear h
    by_cases hE : cutE fl pl least = 0
    · obtain ⟨L, rfl, ok⟩ := cutE_ok hE
      rcases cut_or (fl := fl) (pl := pl) (L := L) with hN | hN
      · refine cw_skip (post_then (cw_seq (cw_region (sr rfl rfl rfl ((q_move rfl rfl)) (sr rfl rfl rfl ((q_move rfl rfl)) (sr rfl rfl rfl ((q_move rfl rfl)) (sw_step rfl rfl rfl (q_call (v := .tuple #[SlV.v ⟨none, 0, 0⟩, .int .i64 0, .int .i64 5]) (CanCall.mk Tryz.call30) rfl (.cons rfl inferInstance (.cons rfl inferInstance (.cons rfl inferInstance (.nil)))) (fun _ w hw => callq hw (cut_none sf sp fv pv fl pl L w (stb_arg hw hf) (stb_arg hw hp) hE hN))) (sr rfl rfl rfl ((q_move rfl rfl)) (sr rfl rfl rfl ((q_extract rfl rfl rfl)) (sr rfl rfl rfl ((q_extract rfl rfl rfl)) (sr rfl rfl rfl ((q_extract rfl rfl rfl)) (sr rfl rfl rfl ((q_assign rfl rfl)) (sr rfl rfl rfl ((q_assign rfl rfl)) (sr rfl rfl rfl ((q_assign rfl rfl)) (sw_nil (post_then (cw_seq (cw_seq (cw_region (sr rfl rfl rfl ((q_move rfl rfl)) (sr rfl rfl rfl ((q_move rfl rfl)) (sr rfl rfl rfl ((q_move rfl rfl)) (sw_step rfl rfl rfl (q_call (CanCall.mk Tryz.call31) rfl (.cons rfl inferInstance (.cons rfl inferInstance (.cons rfl inferInstance (.nil)))) (fun _ w hw => callq hw (lawCut_spec sf sp fv pv fl pl _ w (stb_arg hw hf) (stb_arg hw hp)))) (sr rfl rfl rfl ((q_assign rfl rfl)) (sw_nil (post_then (cw_seq (cw_region (sr rfl rfl rfl ((q_move rfl rfl)) (sr rfl rfl rfl ((q_neq rfl rfl rfl)) (sw_nil (post_then ?_))))))))))))))))))))))))))))))))
        refine cw_cond rfl (fun h => ?_) (fun h => ?_)
        · skip
          simp [hE] at h
        · skip
          clear h
          have hD : CutP.D ⟨fl, pl, L⟩ pl.length 0 = none := by
            cases hD : CutP.D ⟨fl, pl, L⟩ pl.length 0 with
            | none => rfl
            | some v =>
              obtain ⟨a1, a2⟩ := CutP.D_none (P := ⟨fl, pl, L⟩) (Nat.zero_le _) hD
              have e : ((pl.length : Int) * (L : Int)) = ((pl.length * L : Nat) : Int) := by rw [Int.natCast_mul]
              rw [e] at hN
              simp only [CutP.n] at a1 a2
              omega
          refine cw_skip (post_then (cw_seq (cw_region (sr rfl rfl rfl ((q_move rfl rfl)) (sr rfl rfl rfl ((q_move rfl rfl)) (sr rfl rfl rfl ((q_move rfl rfl)) ?_))))))
          refine sw_x rfl rfl rfl (e_call (CanCall.mk Tryz.call32) rfl (.cons rfl inferInstance (.cons rfl inferInstance (.cons rfl inferInstance (.nil)))) (fun w hw => refCuts_spec sf sp fv pv ⟨fl, pl, L⟩ w (stb_arg hw hf) (stb_arg hw hp) ok)) (fun y => ?_)
          refine sw_imp fun _ => ?_
          obtain ⟨s12, out⟩ := y
          have e1 : rO (CutP.D ⟨fl, pl, L⟩ (CutP.m ⟨fl, pl, L⟩) 0) = -1 := by
            show rO (CutP.D ⟨fl, pl, L⟩ pl.length 0) = -1
            rw [hD]; rfl
          rw [e1]
          refine sr rfl rfl rfl ((q_move rfl rfl)) (sr rfl rfl rfl ((q_extract rfl rfl rfl)) (sr rfl rfl rfl ((q_extract rfl rfl rfl)) (sr rfl rfl rfl ((q_assign rfl rfl)) (sr rfl rfl rfl ((q_assign rfl rfl)) (sw_nil (post_then (cw_seq (cw_seq (cw_region (sr rfl rfl rfl ((q_move rfl rfl)) (sr rfl rfl rfl ((q_lss rfl rfl rfl)) (sw_nil (post_then ?_)))))))))))))
          refine cw_cond rfl (fun h => ?_) (fun h => ?_)
          · skip
            refine cw_seq (cw_region (sr rfl rfl rfl ((q_move rfl rfl)) (sr rfl rfl rfl ((q_eql rfl rfl rfl)) (sr rfl rfl rfl ((q_move rfl rfl)) (sr rfl rfl rfl ((q_move rfl rfl)) (sr rfl rfl rfl ((q_lenV rfl (.cons rfl inferInstance (.nil)))) (sr rfl rfl rfl ((q_eql rfl rfl rfl)) (sr rfl rfl rfl ((q_and2 rfl rfl rfl)) (sr rfl rfl rfl ((q_move rfl rfl)) (sr rfl rfl rfl ((q_move rfl rfl)) (sr rfl rfl rfl ((q_eql rfl rfl rfl)) (sr rfl rfl rfl ((q_and2 rfl rfl rfl)) (sr rfl rfl rfl ((q_move rfl rfl)) (sw_step rfl rfl rfl (q_call (CanCall.mk Tryz.call18) rfl (.nil) (fun _ w hw => callq hw (known_spec w))) (sr rfl rfl rfl ((q_and2 rfl rfl rfl)) (sr rfl rfl rfl ((q_assign rfl rfl)) (sw_nil (post_then (cw_ret (post_then_r (post_ret1 rfl (resOk_tmp rfl) ?_)))))))))))))))))))))
            exact fun w' hw => ⟨rfl, (fun w h => Cl.sel (by exact .nil _) w h) _ hw⟩
          · skip
            simp at h
      · skip
        refine cw_skip (post_then (cw_seq (cw_region (sr rfl rfl rfl ((q_move rfl rfl)) (sr rfl rfl rfl ((q_move rfl rfl)) (sr rfl rfl rfl ((q_move rfl rfl)) ?_))))))
        refine sw_x rfl rfl rfl (e_call (CanCall.mk Tryz.call30) rfl (.cons rfl inferInstance (.cons rfl inferInstance (.cons rfl inferInstance (.nil)))) (fun w hw => cut_yes sf sp fv pv ⟨fl, pl, L⟩ w (stb_arg hw hf) (stb_arg hw hp) hE ok hN.1 hN.2)) (fun y => ?_)
        refine sw_imp fun hy => ?_
        obtain ⟨s1, l1⟩ := y
        dsimp only at hy ⊢
        obtain ⟨v, hv⟩ := CutP.D_some ok (q := pl.length) (f := 0) (Nat.le_refl _) (Nat.zero_le _) (by simpa [CutP.n] using hN.1) (fun e => (hN.2 e).symm)
        have hvb := CutP.D_bd ok (Nat.le_refl _) (Nat.zero_le _) hv
        refine sr rfl rfl rfl ((q_move rfl rfl)) (sr rfl rfl rfl ((q_extract rfl rfl rfl)) (sr rfl rfl rfl ((q_extract rfl rfl rfl)) (sr rfl rfl rfl ((q_extract rfl rfl rfl)) (sr rfl rfl rfl ((q_assign rfl rfl)) (sr rfl rfl rfl ((q_assign rfl rfl)) (sr rfl rfl rfl ((q_assign rfl rfl)) (sw_nil (post_then (cw_seq (cw_seq (cw_region (sr rfl rfl rfl ((q_move rfl rfl)) (sr rfl rfl rfl ((q_move rfl rfl)) (sr rfl rfl rfl ((q_move rfl rfl)) (sw_step rfl rfl rfl (q_call (CanCall.mk Tryz.call31) rfl (.cons rfl inferInstance (.cons rfl inferInstance (.cons rfl inferInstance (.nil)))) (fun _ w hw => callq hw (lawCut_spec sf sp fv pv fl pl _ w (stb_arg hw hf) (stb_arg hw hp)))) (sr rfl rfl rfl ((q_assign rfl rfl)) (sw_nil (post_then (cw_seq (cw_region (sr rfl rfl rfl ((q_move rfl rfl)) (sr rfl rfl rfl ((q_neq rfl rfl rfl)) (sw_nil (post_then ?_))))))))))))))))))))))))
        refine cw_cond rfl (fun h => ?_) (fun h => ?_)
        · skip
          simp [hE] at h
        · skip
          clear h
          refine cw_skip (post_then (cw_seq (cw_region (sr rfl rfl rfl ((q_move rfl rfl)) (sr rfl rfl rfl ((q_move rfl rfl)) (sr rfl rfl rfl ((q_move rfl rfl)) ?_))))))
          refine sw_x rfl rfl rfl (e_call (CanCall.mk Tryz.call32) rfl (.cons rfl inferInstance (.cons rfl inferInstance (.cons rfl inferInstance (.nil)))) (fun w hw => refCuts_spec sf sp fv pv ⟨fl, pl, L⟩ w (stb_arg hw hf) (stb_arg hw hp) ok)) (fun y => ?_)
          refine sw_imp fun hy2 => ?_
          obtain ⟨s2, l2⟩ := y
          dsimp only at hy2 ⊢
          have hv' : CutP.D ⟨fl, pl, L⟩ (CutP.m ⟨fl, pl, L⟩) 0 = some v := hv
          have hy2 := hy2 (by rw [hv']; simp)
          subst hy hy2
          have e1 : rO (CutP.D ⟨fl, pl, L⟩ (CutP.m ⟨fl, pl, L⟩) 0) = v := by rw [hv']; rfl
          have e2 : (CutP.D ⟨fl, pl, L⟩ (CutP.m ⟨fl, pl, L⟩) 0).getD 0 = v := by rw [hv']; rfl
          rw [e1, e2]
          refine sr rfl rfl rfl ((q_move rfl rfl)) (sr rfl rfl rfl ((q_extract rfl rfl rfl)) (sr rfl rfl rfl ((q_extract rfl rfl rfl)) (sr rfl rfl rfl ((q_assign rfl rfl)) (sr rfl rfl rfl ((q_assign rfl rfl)) (sw_nil (post_then (cw_seq (cw_seq (cw_region (sr rfl rfl rfl ((q_move rfl rfl)) (sr rfl rfl rfl ((q_lss rfl rfl rfl)) (sw_nil (post_then ?_)))))))))))))
          refine cw_cond rfl (fun h => ?_) (fun h => ?_)
          · skip
            simp only [decide_eq_true_eq] at h
            omega
          · skip
            refine cw_skip (post_then (cw_seq (cw_region (sr rfl rfl rfl ((q_move rfl rfl)) (sr rfl rfl rfl ((q_eql rfl rfl rfl)) (sr rfl rfl rfl ((q_move rfl rfl)) (sr rfl rfl rfl ((q_move rfl rfl)) (sr rfl rfl rfl ((q_move rfl rfl)) (sr rfl rfl rfl ((q_eql rfl rfl rfl)) (sr rfl rfl rfl ((q_and2 rfl rfl rfl)) (sr rfl rfl rfl ((q_move rfl rfl)) (sr rfl rfl rfl ((q_move rfl rfl)) (sr rfl rfl rfl ((q_move rfl rfl)) ?_)))))))))))))
            refine sw_step rfl rfl rfl (q_call (CanCall.mk Tryz.call23) rfl (.cons rfl inferInstance (.cons rfl inferInstance (.nil))) (fun _ w hw => callq hw (same_true _ _ _ _ rfl w (stb_own (e := 3) hw (by exact .tail _ (.head _))) (stb_own (e := 3) hw (by exact .head _))))) ?_
            refine sr rfl rfl rfl ((q_and2 rfl rfl rfl)) (sr rfl rfl rfl ((q_move rfl rfl)) (sw_step rfl rfl rfl (q_call (CanCall.mk Tryz.call18) rfl (.nil) (fun _ w hw => callq hw (known_spec w))) (sr rfl rfl rfl ((q_and2 rfl rfl rfl)) (sr rfl rfl rfl ((q_assign rfl rfl)) (sw_nil (post_then (cw_ret (post_ret1 rfl (resOk_tmp rfl) ?_))))))))
            exact fun w' hw => ⟨by simp [hE], (fun w h => Cl.sel (by exact .nil _) w h) _ hw⟩
    · skip
      refine cw_skip (post_then (cw_seq (cw_region (sr rfl rfl rfl ((q_move rfl rfl)) (sr rfl rfl rfl ((q_move rfl rfl)) (sr rfl rfl rfl ((q_move rfl rfl)) (sw_step rfl rfl rfl (q_call (v := .tuple #[SlV.v ⟨none, 0, 0⟩, .int .i64 0, .int .i64 (cutE fl pl least)]) (CanCall.mk Tryz.call30) rfl (.cons rfl inferInstance (.cons rfl inferInstance (.cons rfl inferInstance (.nil)))) (fun _ w hw => callq hw (cut_bad sf sp fv pv fl pl least w (stb_arg hw hf) (stb_arg hw hp) hE))) (sr rfl rfl rfl ((q_move rfl rfl)) (sr rfl rfl rfl ((q_extract rfl rfl rfl)) (sr rfl rfl rfl ((q_extract rfl rfl rfl)) (sr rfl rfl rfl ((q_extract rfl rfl rfl)) (sr rfl rfl rfl ((q_assign rfl rfl)) (sr rfl rfl rfl ((q_assign rfl rfl)) (sr rfl rfl rfl ((q_assign rfl rfl)) (sw_nil (post_then (cw_seq (cw_seq (cw_region (sr rfl rfl rfl ((q_move rfl rfl)) (sr rfl rfl rfl ((q_move rfl rfl)) (sr rfl rfl rfl ((q_move rfl rfl)) (sw_step rfl rfl rfl (q_call (CanCall.mk Tryz.call31) rfl (.cons rfl inferInstance (.cons rfl inferInstance (.cons rfl inferInstance (.nil)))) (fun _ w hw => callq hw (lawCut_spec sf sp fv pv fl pl _ w (stb_arg hw hf) (stb_arg hw hp)))) (sr rfl rfl rfl ((q_assign rfl rfl)) (sw_nil (post_then (cw_seq (cw_region (sr rfl rfl rfl ((q_move rfl rfl)) (sr rfl rfl rfl ((q_neq rfl rfl rfl)) (sw_nil (post_then ?_))))))))))))))))))))))))))))))))
      refine cw_cond rfl (fun h => ?_) (fun h => ?_)
      · skip
        refine cw_seq (cw_region (sr rfl rfl rfl ((q_move rfl rfl)) (sr rfl rfl rfl ((q_move rfl rfl)) (sr rfl rfl rfl ((q_eql rfl rfl rfl)) (sr rfl rfl rfl ((q_move rfl rfl)) (sr rfl rfl rfl ((q_move rfl rfl)) (sr rfl rfl rfl ((q_lenV rfl (.cons rfl inferInstance (.nil)))) (sr rfl rfl rfl ((q_eql rfl rfl rfl)) (sr rfl rfl rfl ((q_and2 rfl rfl rfl)) (sr rfl rfl rfl ((q_move rfl rfl)) (sr rfl rfl rfl ((q_move rfl rfl)) (sr rfl rfl rfl ((q_eql rfl rfl rfl)) (sr rfl rfl rfl ((q_and2 rfl rfl rfl)) (sr rfl rfl rfl ((q_move rfl rfl)) (sw_step rfl rfl rfl (q_call (CanCall.mk Tryz.call18) rfl (.nil) (fun _ w hw => callq hw (known_spec w))) (sr rfl rfl rfl ((q_and2 rfl rfl rfl)) (sr rfl rfl rfl ((q_assign rfl rfl)) (sw_nil (post_then (cw_ret (post_then_r (post_ret1 rfl (resOk_tmp rfl) ?_))))))))))))))))))))))
        exact fun w' hw => ⟨by simp, (fun w h => Cl.sel (by exact .nil _) w h) _ hw⟩
      · skip
        simp [hE] at h
end Go.Proofs.YtomjbfeafodfbaaGreat

set_option autoImplicit false
set_option maxRecDepth 100000
namespace Go.Proofs.YtomjbfeafodfbaaGreat
open Go.Sx
open Enc (enc val)
theorem lenE_no {P : CutP} {ls : List Int} (h : (lenR P ls).2 = false) : lenE P ls = (0, 2) := by
  unfold lenR at h
  unfold lenE
  by_cases h1 : ls.length = P.m
  · rw [if_pos h1] at h ⊢
    cases h2 : P.lnTo ls P.m with
    | none => rfl
    | some y =>
      obtain ⟨f, c⟩ := y
      rw [h2] at h
      simp only [decide_eq_false_iff_not] at h
      simp only
      rw [if_neg h]
  · rw [if_neg h1]
theorem lenE_yes {P : CutP} {ls : List Int} (h : (lenR P ls).2 = true) : ∃ c, ls.length = P.m ∧ P.lnTo ls P.m = some (P.n, c) ∧ lenE P ls = (c, 0) ∧ lenR P ls = (c, true) := by
  unfold lenR at h
  by_cases h1 : ls.length = P.m
  · rw [if_pos h1] at h
    cases h2 : P.lnTo ls P.m with
    | none => rw [h2] at h; cases h
    | some y =>
      obtain ⟨f, c⟩ := y
      rw [h2] at h
      simp only [decide_eq_true_eq] at h
      subst h
      exact ⟨c, h1, rfl, by simp [lenE, h1, h2], by simp [lenR, h1, h2]⟩
  · rw [if_neg h1] at h; cases h
theorem lawLengths (sf sp sl : SlV) (fv pv : List SlV) (fl pl : List (List Int)) (least : Int) (ls : List Int) (w : World) (hf : Stb w [] (fun w' => Mt w' sf.v fv fl)) (hp : Stb w [] (fun w' => Mt w' sp.v pv pl)) (hl : Stb w [] (RdL sl.v ls)) :
    Calls Tryz.prog 13 #[sf.v, sp.v, .int .i64 least, sl.v] w fun e w' => e = .returned (.bool true) ∧ Cl w [] [] w' := by
  have hL := rd_len hl.here
  refine calls_cw (vs := [_, _, _, _]) Tryz.func13 rfl Tryz.ntmps13 rfl (Cl.start0 w) (cw_seq (cw_region (sr rfl rfl rfl ((q_assign rfl rfl)) (sw_nil (post_then (cw_seq (cw_seq (cw_region (sr rfl rfl rfl ((q_move rfl rfl)) (sw_step rfl rfl rfl (q_call (CanCall.mk Tryz.call29) rfl (.cons rfl inferInstance (.cons rfl inferInstance (.nil))) (fun _ w hw => callq hw (vectors_spec sf fv fl 12 w (stb_arg hw hf)))) (sr rfl rfl rfl ((q_not rfl rfl)) (sr rfl rfl rfl ((q_move rfl rfl)) (sr rfl rfl rfl ((q_move rfl rfl)) (sw_step rfl rfl rfl (q_call (CanCall.mk Tryz.call29) rfl (.cons rfl inferInstance (.cons rfl inferInstance (.nil))) (fun _ w hw => callq hw (vectors_spec sp pv pl 6 w (stb_arg hw hp)))) (sr rfl rfl rfl ((q_not rfl rfl)) (sr rfl rfl rfl ((q_or2 rfl rfl rfl)) (sr rfl rfl rfl ((q_move rfl rfl)) (sr rfl rfl rfl ((q_move rfl rfl)) ?_))))))))))))))))))
  refine sr rfl rfl rfl ((q_len rfl (.cons rfl inferInstance (.nil)) (by exact fun w hw => Stb.cl (by assumption) hw))) ?_
  refine sr rfl rfl rfl ((q_gtr rfl rfl rfl)) (sr rfl rfl rfl ((q_or2 rfl rfl rfl)) (sw_nil (post_then ?_)))
  refine cw_cond rfl (fun h => ?_) (fun h => ?_)
  · skip
    refine cw_seq (cw_region (sw_step rfl rfl rfl (q_call (CanCall.mk Tryz.call18) rfl (.nil) (fun _ w hw => callq hw (known_spec w))) (sr rfl rfl rfl ((q_assign rfl rfl)) (sw_nil (post_then (cw_ret (post_then_r (post_ret1 rfl (resOk_tmp rfl) ?_))))))))
    exact fun w' hw => ⟨rfl, (fun w h => Cl.sel (by exact .nil _) w h) _ hw⟩
  · skip
    clear h
    by_cases hE : cutE fl pl least = 0
    · obtain ⟨L, rfl, ok⟩ := cutE_ok hE
      refine cw_skip (post_then (cw_seq (cw_region (sr rfl rfl rfl ((q_move rfl rfl)) (sr rfl rfl rfl ((q_move rfl rfl)) (sr rfl rfl rfl ((q_move rfl rfl)) (sr rfl rfl rfl ((q_move rfl rfl)) (sw_step rfl rfl rfl (q_call (CanCall.mk Tryz.call55) rfl (.cons rfl inferInstance (.cons rfl inferInstance (.cons rfl inferInstance (.cons rfl inferInstance (.nil))))) (fun _ w hw => callq hw (cutCost_spec sf sp sl fv pv ⟨fl, pl, L⟩ ls w (stb_arg hw hf) (stb_arg hw hp) (stb_arg hw hl) hE ok))) (sr rfl rfl rfl ((q_move rfl rfl)) (sr rfl rfl rfl ((q_extract rfl rfl rfl)) (sr rfl rfl rfl ((q_extract rfl rfl rfl)) (sr rfl rfl rfl ((q_assign rfl rfl)) (sr rfl rfl rfl ((q_assign rfl rfl)) (sw_nil (post_then (cw_seq (cw_seq (cw_region (sr rfl rfl rfl ((q_move rfl rfl)) (sr rfl rfl rfl ((q_move rfl rfl)) (sr rfl rfl rfl ((q_move rfl rfl)) (sw_step rfl rfl rfl (q_call (CanCall.mk Tryz.call31) rfl (.cons rfl inferInstance (.cons rfl inferInstance (.cons rfl inferInstance (.nil)))) (fun _ w hw => callq hw (lawCut_spec sf sp fv pv fl pl _ w (stb_arg hw hf) (stb_arg hw hp)))) (sr rfl rfl rfl ((q_assign rfl rfl)) (sw_nil (post_then (cw_seq (cw_region (sr rfl rfl rfl ((q_move rfl rfl)) (sr rfl rfl rfl ((q_neq rfl rfl rfl)) (sw_nil (post_then ?_)))))))))))))))))))))))))))))))
      refine cw_cond rfl (fun h => ?_) (fun h => ?_)
      · skip
        simp [hE] at h
      · skip
        clear h
        refine cw_skip (post_then (cw_seq (cw_region (sr rfl rfl rfl ((q_move rfl rfl)) (sr rfl rfl rfl ((q_move rfl rfl)) (sr rfl rfl rfl ((q_move rfl rfl)) (sr rfl rfl rfl ((q_move rfl rfl)) (sw_step rfl rfl rfl (q_call (CanCall.mk Tryz.call56) rfl (.cons rfl inferInstance (.cons rfl inferInstance (.cons rfl inferInstance (.cons rfl inferInstance (.nil))))) (fun _ w hw => callq hw (refCutCost_spec sf sp sl fv pv ⟨fl, pl, L⟩ ls w (stb_arg hw hf) (stb_arg hw hp) (stb_arg hw hl) ok))) (sr rfl rfl rfl ((q_move rfl rfl)) (sr rfl rfl rfl ((q_extract rfl rfl rfl)) (sr rfl rfl rfl ((q_extract rfl rfl rfl)) (sr rfl rfl rfl ((q_assign rfl rfl)) (sr rfl rfl rfl ((q_assign rfl rfl)) (sw_nil (post_then (cw_seq (cw_seq (cw_region (sr rfl rfl rfl ((q_move rfl rfl)) (sr rfl rfl rfl ((q_not rfl rfl)) (sw_nil (post_then ?_))))))))))))))))))))))
        refine cw_cond rfl (fun h => ?_) (fun h => ?_)
        · skip
          have hx := lenE_no (P := ⟨fl, pl, L⟩) (ls := ls) (by simpa using h)
          refine cw_seq (cw_region (sr rfl rfl rfl ((q_move rfl rfl)) (sr rfl rfl rfl ((q_eql rfl rfl rfl)) (sr rfl rfl rfl ((q_move rfl rfl)) (sr rfl rfl rfl ((q_move rfl rfl)) (sr rfl rfl rfl ((q_eql rfl rfl rfl)) (sr rfl rfl rfl ((q_and2 rfl rfl rfl)) (sr rfl rfl rfl ((q_move rfl rfl)) (sw_step rfl rfl rfl (q_call (CanCall.mk Tryz.call18) rfl (.nil) (fun _ w hw => callq hw (known_spec w))) (sr rfl rfl rfl ((q_and2 rfl rfl rfl)) (sr rfl rfl rfl ((q_assign rfl rfl)) (sw_nil (post_then (cw_ret (post_then_r (post_ret1 rfl (resOk_tmp rfl) ?_))))))))))))))))
          exact fun w' hw => ⟨by simp [hx], (fun w h => Cl.sel (by exact .nil _) w h) _ hw⟩
        · skip
          obtain ⟨c, hlm, hx, e1, e2⟩ := lenE_yes (P := ⟨fl, pl, L⟩) (ls := ls) (by simpa using h)
          clear h
          obtain ⟨v, hv, hle⟩ := CutP.ln_le (P := ⟨fl, pl, L⟩) hx (q := pl.length) (f := 0) (c := 0) (Nat.le_refl _) (by simp only [CutP.m, Nat.sub_self]; rfl)
          have hn := CutP.D_none (P := ⟨fl, pl, L⟩) (Nat.zero_le _) hv
          have hown := CutP.ln_own (P := ⟨fl, pl, L⟩) hv ok.l1.1
          have hpl := CutP.pth_len (P := ⟨fl, pl, L⟩) hv
          have e3 : lenE ⟨fl, pl, L⟩ (CutP.pth ⟨fl, pl, L⟩ (CutP.m ⟨fl, pl, L⟩) 0) = (v, 0) := by
            unfold lenE
            rw [if_pos (show (CutP.pth ⟨fl, pl, L⟩ (CutP.m ⟨fl, pl, L⟩) 0).length = CutP.m ⟨fl, pl, L⟩ from hpl), hown]
            simp
          have e4 : (CutP.D ⟨fl, pl, L⟩ (CutP.m ⟨fl, pl, L⟩) 0).getD 0 = v := by
            show (CutP.D ⟨fl, pl, L⟩ pl.length 0).getD 0 = v
            rw [hv]; rfl
          rw [e1, e2]
          refine cw_skip (post_then (cw_seq (cw_region (sr rfl rfl rfl ((q_move rfl rfl)) (sr rfl rfl rfl ((q_move rfl rfl)) (sr rfl rfl rfl ((q_move rfl rfl)) ?_))))))
          refine sw_x rfl rfl rfl (e_call (CanCall.mk Tryz.call30) rfl (.cons rfl inferInstance (.cons rfl inferInstance (.cons rfl inferInstance (.nil)))) (fun w hw => cut_yes sf sp fv pv ⟨fl, pl, L⟩ w (stb_arg hw hf) (stb_arg hw hp) hE ok (by have := hn.1; simp only [Nat.sub_zero] at this; exact this) (fun e => (hn.2 e).symm))) (fun y => ?_)
          refine sw_imp fun hy => ?_
          obtain ⟨s1, l1⟩ := y
          dsimp only at hy ⊢
          subst hy
          rw [e4]
          refine sr rfl rfl rfl ((q_move rfl rfl)) (sr rfl rfl rfl ((q_extract rfl rfl rfl)) (sr rfl rfl rfl ((q_extract rfl rfl rfl)) (sr rfl rfl rfl ((q_extract rfl rfl rfl)) (sr rfl rfl rfl ((q_assign rfl rfl)) (sr rfl rfl rfl ((q_assign rfl rfl)) (sr rfl rfl rfl ((q_assign rfl rfl)) (sw_nil (post_then (cw_seq (cw_seq (cw_region (sr rfl rfl rfl ((q_move rfl rfl)) (sr rfl rfl rfl ((q_neq rfl rfl rfl)) (sr rfl rfl rfl ((q_move rfl rfl)) (sr rfl rfl rfl ((q_move rfl rfl)) (sr rfl rfl rfl ((q_move rfl rfl)) (sr rfl rfl rfl ((q_neq rfl rfl rfl)) (sr rfl rfl rfl ((q_or2 rfl rfl rfl)) (sr rfl rfl rfl ((q_move rfl rfl)) (sr rfl rfl rfl ((q_move rfl rfl)) (sr rfl rfl rfl ((q_neq rfl rfl rfl)) (sr rfl rfl rfl ((q_or2 rfl rfl rfl)) (sr rfl rfl rfl ((q_move rfl rfl)) (sr rfl rfl rfl ((q_move rfl rfl)) (sr rfl rfl rfl ((q_move rfl rfl)) (sr rfl rfl rfl ((q_gtr rfl rfl rfl)) (sr rfl rfl rfl ((q_or2 rfl rfl rfl)) (sw_nil (post_then ?_)))))))))))))))))))))))))))))
          refine cw_cond rfl (fun h => ?_) (fun h => ?_)
          · skip
            exfalso
            simp at h
            omega
          · skip
            clear h
            refine cw_skip (post_then (cw_seq (cw_region (sr rfl rfl rfl ((q_move rfl rfl)) (sr rfl rfl rfl ((q_move rfl rfl)) (sr rfl rfl rfl ((q_move rfl rfl)) (sr rfl rfl rfl ((q_move rfl rfl)) ?_)))))))
            refine sw_step rfl rfl rfl (q_call (CanCall.mk Tryz.call55) rfl (.cons rfl inferInstance (.cons rfl inferInstance (.cons rfl inferInstance (.cons rfl inferInstance (.nil))))) (fun _ w hw => callq hw (cutCost_spec sf sp s1 fv pv ⟨fl, pl, L⟩ _ w (stb_arg hw hf) (stb_arg hw hp) (stb_own (e := 3) hw (by exact .head _)) hE ok))) ?_
            rw [e3]
            refine sr rfl rfl rfl ((q_move rfl rfl)) (sr rfl rfl rfl ((q_extract rfl rfl rfl)) (sr rfl rfl rfl ((q_extract rfl rfl rfl)) (sr rfl rfl rfl ((q_assign rfl rfl)) (sr rfl rfl rfl ((q_assign rfl rfl)) (sw_nil (post_then (cw_seq (cw_region (sr rfl rfl rfl ((q_move rfl rfl)) (sr rfl rfl rfl ((q_eql rfl rfl rfl)) (sr rfl rfl rfl ((q_move rfl rfl)) (sr rfl rfl rfl ((q_move rfl rfl)) (sr rfl rfl rfl ((q_move rfl rfl)) (sr rfl rfl rfl ((q_eql rfl rfl rfl)) (sr rfl rfl rfl ((q_and2 rfl rfl rfl)) (sr rfl rfl rfl ((q_move rfl rfl)) (sw_step rfl rfl rfl (q_call (CanCall.mk Tryz.call18) rfl (.nil) (fun _ w hw => callq hw (known_spec w))) (sr rfl rfl rfl ((q_and2 rfl rfl rfl)) (sr rfl rfl rfl ((q_assign rfl rfl)) (sw_nil (post_then (cw_ret (post_ret1 rfl (resOk_tmp rfl) ?_)))))))))))))))))))))))
            exact fun w' hw => ⟨by simp, (fun w h => Cl.sel (by exact .nil _) w h) _ hw⟩
    · skip
      refine cw_skip (post_then (cw_seq (cw_region (sr rfl rfl rfl ((q_move rfl rfl)) (sr rfl rfl rfl ((q_move rfl rfl)) (sr rfl rfl rfl ((q_move rfl rfl)) (sr rfl rfl rfl ((q_move rfl rfl)) (sw_step rfl rfl rfl (q_call (CanCall.mk Tryz.call55) rfl (.cons rfl inferInstance (.cons rfl inferInstance (.cons rfl inferInstance (.cons rfl inferInstance (.nil))))) (fun _ w hw => callq hw (cutCost_bad sf sp sl fv pv fl pl least w (stb_arg hw hf) (stb_arg hw hp) hE))) (sr rfl rfl rfl ((q_move rfl rfl)) (sr rfl rfl rfl ((q_extract rfl rfl rfl)) (sr rfl rfl rfl ((q_extract rfl rfl rfl)) (sr rfl rfl rfl ((q_assign rfl rfl)) (sr rfl rfl rfl ((q_assign rfl rfl)) (sw_nil (post_then (cw_seq (cw_seq (cw_region (sr rfl rfl rfl ((q_move rfl rfl)) (sr rfl rfl rfl ((q_move rfl rfl)) (sr rfl rfl rfl ((q_move rfl rfl)) (sw_step rfl rfl rfl (q_call (CanCall.mk Tryz.call31) rfl (.cons rfl inferInstance (.cons rfl inferInstance (.cons rfl inferInstance (.nil)))) (fun _ w hw => callq hw (lawCut_spec sf sp fv pv fl pl _ w (stb_arg hw hf) (stb_arg hw hp)))) (sr rfl rfl rfl ((q_assign rfl rfl)) (sw_nil (post_then (cw_seq (cw_region (sr rfl rfl rfl ((q_move rfl rfl)) (sr rfl rfl rfl ((q_neq rfl rfl rfl)) (sw_nil (post_then ?_)))))))))))))))))))))))))))))))
      refine cw_cond rfl (fun h => ?_) (fun h => ?_)
      · skip
        refine cw_seq (cw_region (sr rfl rfl rfl ((q_move rfl rfl)) (sr rfl rfl rfl ((q_move rfl rfl)) (sr rfl rfl rfl ((q_eql rfl rfl rfl)) (sr rfl rfl rfl ((q_move rfl rfl)) (sr rfl rfl rfl ((q_move rfl rfl)) (sr rfl rfl rfl ((q_eql rfl rfl rfl)) (sr rfl rfl rfl ((q_and2 rfl rfl rfl)) (sr rfl rfl rfl ((q_move rfl rfl)) (sw_step rfl rfl rfl (q_call (CanCall.mk Tryz.call18) rfl (.nil) (fun _ w hw => callq hw (known_spec w))) (sr rfl rfl rfl ((q_and2 rfl rfl rfl)) (sr rfl rfl rfl ((q_assign rfl rfl)) (sw_nil (post_then (cw_ret (post_then_r (post_ret1 rfl (resOk_tmp rfl) ?_)))))))))))))))))
        exact fun w' hw => ⟨by simp, (fun w h => Cl.sel (by exact .nil _) w h) _ hw⟩
      · skip
        simp [hE] at h
end Go.Proofs.YtomjbfeafodfbaaGreat

/-
  What came in, opened by its type: cells and what they read as, whatever the shape. General lemmas, no program text.
-/
set_option autoImplicit false
namespace Go.Sx
open Go.ChangeShapes Go.WideShapes Go.ChangeAt Go.RowKit Go.WideElems
/-- A value of type t that came in: its cells are those of some x; it reads as some y. -/
class Deep (P : Program) (t : TypeId) (α β : outParam Type) [Enc α] where
  rd : α → β → World → Prop
  keep : ∀ {a : α} {b : β} {w w' : World}, rd a b w → Chg [] w w' → rd a b w'
  opens : ∀ {H : Type} {enc : TypeId × Value → H} {w : World} {sp : Nat → Bool} {fuel : Nat} {cs : List Value} {x : DataW H × List MemPlace}, DataW.trod enc P w 0 sp true fuel t cs = some x → ∃ a b, cs = Enc.enc a ∧ rd a b w
  vals : ∀ {w : World} {r : Reach} {b0 : Nat} {v : Value} {a : α}, Value.okWide P w r b0 t v → v.cells = (Enc.enc a).toArray → v = Enc.val a
theorem open_deep {P : Program} {t : TypeId} {α β : Type} [Enc α] [hD : Deep P t α β] {H : Type} {enc : TypeId × Value → H} {W : World} {r : Reach} {b0 : Nat} {v : Value} {d : DataW H} {ps : List MemPlace}
    (hval : Value.okWide P W r b0 t v) (hd : DataW.Trod enc P W 0 (fun _ => true) true t v d ps) : ∃ (a : α) (b : β), v = Enc.val a ∧ Stb W [] (hD.rd a b) := by
  obtain ⟨fuel, hf⟩ := hd
  obtain ⟨a, b, hc, hr⟩ := hD.opens hf
  exact ⟨a, b, hD.vals hval (by rw [← hc]), ⟨fun w' k => hD.keep hr k⟩⟩
/-- int -/
@[reducible] def deepInt {P : Program} {t : TypeId} (ht : P.underlying t = some (.int .i64)) : Deep P t Int Int where
  rd a b _ := a = b ∧ -9223372036854775808 ≤ b ∧ b ≤ 9223372036854775807
  keep h _ := h
  opens h := by
    obtain ⟨n, h1, _, hw⟩ := DataW.trod_int ht h
    refine ⟨n, n, h1, rfl, ?_⟩
    have e1 : IntKind.i64.min = -9223372036854775808 := by decide
    have e2 : IntKind.i64.max = 9223372036854775807 := by decide
    simp [Lit.wf, e1, e2] at hw
    omega
  vals hv hc := by
    obtain ⟨n, rfl⟩ := okWide_int ht hv
    simpa [Value.cells, Enc.enc, Enc.val] using hc
@[reducible] def deepBool {P : Program} {t : TypeId} (ht : P.underlying t = some .bool) : Deep P t Bool Bool where
  rd a b _ := a = b
  keep h _ := h
  opens h := by
    obtain ⟨n, h1, _⟩ := DataW.trod_bool ht h
    exact ⟨n, n, h1, rfl⟩
  vals hv hc := by
    obtain ⟨n, rfl⟩ := okWide_bool ht hv
    simpa [Value.cells, Enc.enc, Enc.val] using hc
@[reducible] def deepString {P : Program} {t : TypeId} (ht : P.underlying t = some .string) : Deep P t ByteArray ByteArray where
  rd a b _ := a = b ∧ b.size ≤ maxLen
  keep h _ := h
  opens h := by
    obtain ⟨n, h1, _, hw⟩ := DataW.trod_string ht h
    exact ⟨n, n, h1, rfl, hw⟩
  vals hv hc := by
    obtain ⟨n, rfl⟩ := okWide_string ht hv
    simpa [Value.cells, Enc.enc, Enc.val] using hc
/-- Slices. -/
def rdSl {α β : Type} [Enc α] (rd : α → β → World → Prop) (s : SlV) (l : List β) (w : World) : Prop :=
  ∃ ls : List α, RdL s.v ls w ∧ ls.length = l.length ∧ ∀ (i : Nat) (a : α) (b : β), ls[i]? = some a → l[i]? = some b → rd a b w
theorem rdSl_flat {α : Type} [Enc α] {rd : α → α → World → Prop} (hf : ∀ a b w, rd a b w → a = b) {s : SlV} {l : List α} {w : World} (h : rdSl rd s l w) : RdL s.v l w := by
  obtain ⟨ls, h1, h2, h3⟩ := h
  have : ls = l := by
    refine List.ext_getElem h2 fun i hi hj => ?_
    exact hf _ _ _ (h3 i _ _ (List.getElem?_eq_getElem hi) (List.getElem?_eq_getElem hj))
  rw [← this]; exact h1
theorem stb_flat {α : Type} [Enc α] {rd : α → α → World → Prop} (hf : ∀ a b w, rd a b w → a = b) {s : SlV} {l : List α} {w : World} {fp : List Nat} (h : Stb w fp (rdSl rd s l)) : Stb w fp (RdL s.v l) := ⟨fun w' k => rdSl_flat hf (h.stb w' k)⟩
theorem rdSl_mem {α β : Type} [Enc α] {rd : α → β → World → Prop} {p : β → Prop} (hf : ∀ a b w, rd a b w → p b) {s : SlV} {l : List β} {w : World} (h : rdSl rd s l w) : ∀ b ∈ l, p b := by
  obtain ⟨ls, h1, h2, h3⟩ := h
  intro b hb
  obtain ⟨i, hi, rfl⟩ := List.getElem_of_mem hb
  exact hf _ _ _ (h3 i _ _ (List.getElem?_eq_getElem (by omega)) (List.getElem?_eq_getElem hi))
theorem pick {α : Type} {n : Nat} {p : Nat → α → Prop} (h : ∀ i, i < n → ∃ a, p i a) : ∃ l : List α, l.length = n ∧ ∀ i a, l[i]? = some a → p i a := by
  induction n with
  | zero => exact ⟨[], rfl, fun i a h => by simp at h⟩
  | succ n ih =>
    obtain ⟨l, hl, hp⟩ := ih fun i hi => h i (by omega)
    obtain ⟨a, ha⟩ := h n (by omega)
    refine ⟨l ++ [a], by simp [hl], fun i b hb => ?_⟩
    by_cases hi : i < n
    · rw [List.getElem?_append_left (by omega)] at hb; exact hp i b hb
    · by_cases hi' : i = n
      · subst hi'
        rw [List.getElem?_append_right (by omega), hl] at hb
        simp at hb; subst hb; exact ha
      · rw [List.getElem?_eq_none (by simp; omega)] at hb; cases hb
/-- A row of cells as the memory holds it. -/
theorem cells_at {w : World} {base : Nat} {a : Addr} {n : Nat} {cs : List Value} (h : w.cells? base a n = some cs) : cs.length = n ∧ ∀ j v, cs[j]? = some v → w.cell? (a.add j) = some v := by
  unfold World.cells? at h
  split at h
  · have hl := mapM_some_length h
    rw [List.length_range] at hl
    refine ⟨hl, fun j v hj => ?_⟩
    have hlt := (List.getElem?_eq_some_iff.1 hj).1
    have := mapM_some_get h j j (List.getElem?_range (by omega))
    rw [this, hj]
  · cases h
@[reducible] def deepSlice {P : Program} {t e : TypeId} {α β : Type} [Enc α] (ht : P.underlying t = some (.slice e)) (hc : P.cellsOf e = Enc.sz α) [hD : Deep P e α β] : Deep P t SlV (List β) where
  rd := rdSl hD.rd
  keep := fun ⟨ls, h1, h2, h3⟩ k => ⟨ls, (rd_stb h1).stb _ k, h2, fun i a b ha hb => hD.keep (h3 i a b ha hb) k⟩
  opens {H enc w sp fuel cs x} h := by
    rcases DataW.trod_slice ht h with ⟨rfl, _⟩ | ⟨a, len, cap, elems, rest, n, _, rfl, _, _, hl, hm, hlen, hel, _, _⟩
    · exact ⟨⟨none, 0, 0⟩, [], rfl, [], ⟨none, 0, 0, rfl, rfl, Nat.le_refl _, by simp [maxLen], fun i x j v hx => by simp at hx⟩, rfl, fun i a b h => by simp at h⟩
    · have key : ∀ i, i < len → ∃ y : α × β, (∀ j v, (Enc.enc y.1)[j]? = some v → w.cell? ((a.add (i * Enc.sz α)).add j) = some v) ∧ hD.rd y.1 y.2 w := by
        intro i hi
        have h1 := hel i hi
        rw [hc] at h1
        have h2 : ∃ z, elems[i]? = some z := ⟨_, List.getElem?_eq_getElem (by omega)⟩
        obtain ⟨z, hz⟩ := h2
        rw [hz, Option.bind_eq_some_iff] at h1
        obtain ⟨cs', hcs, hy⟩ := h1
        obtain ⟨x, y, hx, hr⟩ := hD.opens hy
        refine ⟨(x, y), fun j v hj => ?_, hr⟩
        rw [← hx] at hj
        exact (cells_at hcs).2 j v hj
      obtain ⟨l, hl2, hp⟩ := pick key
      refine ⟨⟨some a, len, cap⟩, l.map (·.2), rfl, l.map (·.1), ⟨some a, len, cap, rfl, by simpa using hl2, hl, hm, fun i x j v hx hv => ⟨a, rfl, ?_⟩⟩, by simp, fun i x y hx hy => ?_⟩
      · rw [List.getElem?_map, Option.map_eq_some_iff] at hx
        obtain ⟨z, hz, rfl⟩ := hx
        have := (hp i z hz).1 j v hv
        rw [addr_add_assoc] at this
        exact this
      · rw [List.getElem?_map, Option.map_eq_some_iff] at hx hy
        obtain ⟨z, hz, rfl⟩ := hx
        obtain ⟨z', hz', rfl⟩ := hy
        rw [hz] at hz'; cases hz'
        exact (hp i z hz).2
  vals hv hc' := by
    obtain ⟨a0, len, cap, rfl⟩ := okWide_slice ht hv
    rename_i a
    simpa [Value.cells, Enc.enc, Enc.val] using hc'
/-- A field of a struct. -/
theorem trod_fld {P : Program} {t : TypeId} {fs : Array Field} {H : Type} {enc : TypeId × Value → H} {w : World} {sp : Nat → Bool} {fuel : Nat} {cs : List Value} {x : DataW H × List MemPlace} (ht : P.underlying t = some (.struct fs))
    (h : DataW.trod enc P w 0 sp true fuel t cs = some x) (i : Nat) {f : Field} (hf : fs[i]? = some f) {ty off c : Nat} (e1 : f.type = ty) (e2 : f.offset = off) (e3 : P.cellsOf ty = c) : ∃ n y, DataW.trod enc P w 0 sp true n ty ((cs.drop off).take c) = some y := by
  subst e1 e2 e3
  obtain ⟨xs, n, _, _, _, hl, hx⟩ := DataW.trod_struct ht h
  have := hx i f hf
  have hi := (Array.getElem?_eq_some_iff.1 hf).1
  rw [List.getElem?_eq_getElem (by omega)] at this
  exact ⟨n, _, this⟩
theorem trod_len {P : Program} {t : TypeId} {fs : Array Field} {H : Type} {enc : TypeId × Value → H} {w : World} {sp : Nat → Bool} {fuel : Nat} {cs : List Value} {x : DataW H × List MemPlace} (ht : P.underlying t = some (.struct fs))
    (h : DataW.trod enc P w 0 sp true fuel t cs = some x) : cs.length = P.cellsOf t := by
  obtain ⟨xs, n, _, _, h1, _⟩ := DataW.trod_struct ht h
  exact h1
theorem vals_struct {P : Program} {t : TypeId} {fs : Array Field} {α : Type} [Enc α] (ht : P.underlying t = some (.struct fs)) (hv : ∀ a : α, Enc.val a = .agg (Enc.enc a).toArray) {w : World} {r : Reach} {b0 : Nat} {v : Value} {a : α} (hok : Value.okWide P w r b0 t v) (hc : v.cells = (Enc.enc a).toArray) : v = Enc.val a := by
  obtain ⟨cs, rfl, _⟩ := okWide_struct ht hok
  rw [hv]
  simp [Value.cells] at hc
  rw [hc]
end Go.Sx

set_option autoImplicit false
set_option maxRecDepth 100000
namespace Go.Proofs.YtomjbfeafodfbaaGreat
open Go.Sx
instance : Deep Tryz.prog 3 Int Int := deepInt Tryz.underlying3
instance : Deep Tryz.prog 9 ByteArray ByteArray := deepString Tryz.underlying9
theorem cells3 : Tryz.prog.cellsOf 3 = 1 := by kernel_rfl
theorem cells9 : Tryz.prog.cellsOf 9 = 1 := by kernel_rfl
theorem cells28 : Tryz.prog.cellsOf 28 = 1 := by kernel_rfl
instance dL : Deep Tryz.prog 28 SlV (List Int) := deepSlice Tryz.underlying28 (by kernel_rfl)
instance : Deep Tryz.prog 31 SlV (List (List Int)) := deepSlice Tryz.underlying31 (by kernel_rfl)
theorem mt_of {w : World} {s : SlV} {l : List (List Int)} {rd : Int → Int → World → Prop} (hf : ∀ a b w, rd a b w → a = b) (h : Stb w [] (rdSl (rdSl rd) s l)) : ∃ vs, Stb w [] (fun w' => Mt w' s.v vs l) := by
  obtain ⟨vs, h1, h2, h3⟩ := h.here
  have hm : Mt w s.v vs l := ⟨h1, h2, fun i hi => rdSl_flat hf (h3 i _ _ (nth_some (by omega)) (nth_some hi))⟩
  exact ⟨vs, hm.stb⟩
structure UnIn (u : Un) (w : World) : Prop where
  s1 : u.phone.size ≤ maxLen
  s2 : u.before.size ≤ maxLen
  s3 : u.after.size ≤ maxLen
  b : RdL u.bs.v u.bl w
  e : RdL u.es.v u.el w
instance dUn : Deep Tryz.prog 49 Un Un where
  rd a b w := a = b ∧ UnIn b w
  keep := fun ⟨h1, h2⟩ k => ⟨h1, h2.s1, h2.s2, h2.s3, (rd_stb h2.b).stb _ k, (rd_stb h2.e).stb _ k⟩
  opens {H enc w sp fuel cs x} h := by
    have hl := trod_len Tryz.underlying49 h
    obtain ⟨_, _, h0⟩ := trod_fld Tryz.underlying49 h 0 rfl rfl rfl cells9
    obtain ⟨_, _, h1⟩ := trod_fld Tryz.underlying49 h 1 rfl rfl rfl cells9
    obtain ⟨_, _, h2⟩ := trod_fld Tryz.underlying49 h 2 rfl rfl rfl cells9
    obtain ⟨_, _, h3⟩ := trod_fld Tryz.underlying49 h 3 rfl rfl rfl cells3
    obtain ⟨_, _, h4⟩ := trod_fld Tryz.underlying49 h 4 rfl rfl rfl cells3
    obtain ⟨_, _, h5⟩ := trod_fld Tryz.underlying49 h 5 rfl rfl rfl cells3
    obtain ⟨_, _, h6⟩ := trod_fld Tryz.underlying49 h 6 rfl rfl rfl cells3
    obtain ⟨_, _, h7⟩ := trod_fld Tryz.underlying49 h 7 rfl rfl rfl cells3
    obtain ⟨_, _, h8⟩ := trod_fld Tryz.underlying49 h 8 rfl rfl rfl cells28
    obtain ⟨_, _, h9⟩ := trod_fld Tryz.underlying49 h 9 rfl rfl rfl cells28
    obtain ⟨x0, _, e0, rfl, z0⟩ := (deepString Tryz.underlying9).opens h0
    obtain ⟨x1, _, e1, rfl, z1⟩ := (deepString Tryz.underlying9).opens h1
    obtain ⟨x2, _, e2, rfl, z2⟩ := (deepString Tryz.underlying9).opens h2
    obtain ⟨x3, _, e3, _⟩ := (deepInt Tryz.underlying3).opens h3
    obtain ⟨x4, _, e4, _⟩ := (deepInt Tryz.underlying3).opens h4
    obtain ⟨x5, _, e5, _⟩ := (deepInt Tryz.underlying3).opens h5
    obtain ⟨x6, _, e6, _⟩ := (deepInt Tryz.underlying3).opens h6
    obtain ⟨x7, _, e7, _⟩ := (deepInt Tryz.underlying3).opens h7
    obtain ⟨x8, l8, e8, r8⟩ := dL.opens h8
    obtain ⟨x9, l9, e9, r9⟩ := dL.opens h9
    rw [show Tryz.prog.cellsOf 49 = 10 by kernel_rfl] at hl
    match cs, hl with
    | [c0, c1, c2, c3, c4, c5, c6, c7, c8, c9], _ =>
    simp [Enc.enc] at e0 e1 e2 e3 e4 e5 e6 e7 e8 e9
    subst e0 e1 e2 e3 e4 e5 e6 e7 e8 e9
    exact ⟨⟨x0, x1, x2, x3, x4, x5, x6, x7, x8, x9, l8, l9⟩, _, rfl, rfl, z0, z1, z2, rdSl_flat (fun a b w h => h.1) r8, rdSl_flat (fun a b w h => h.1) r9⟩
  vals := vals_struct Tryz.underlying49 fun _ => rfl
structure WaIn (t : Wan) : Prop where
  s1 : t.phone.size ≤ maxLen
  s2 : t.before.size ≤ maxLen
  s3 : t.after.size ≤ maxLen
instance dWan : Deep Tryz.prog 51 Wan Wan where
  rd a b _ := a = b ∧ WaIn b
  keep h _ := h
  opens {H enc w sp fuel cs x} h := by
    have hl := trod_len Tryz.underlying51 h
    obtain ⟨_, _, h0⟩ := trod_fld Tryz.underlying51 h 0 rfl rfl rfl cells9
    obtain ⟨_, _, h1⟩ := trod_fld Tryz.underlying51 h 1 rfl rfl rfl cells9
    obtain ⟨_, _, h2⟩ := trod_fld Tryz.underlying51 h 2 rfl rfl rfl cells9
    obtain ⟨_, _, h3⟩ := trod_fld Tryz.underlying51 h 3 rfl rfl rfl cells3
    obtain ⟨_, _, h4⟩ := trod_fld Tryz.underlying51 h 4 rfl rfl rfl cells3
    obtain ⟨x0, _, e0, rfl, z0⟩ := (deepString Tryz.underlying9).opens h0
    obtain ⟨x1, _, e1, rfl, z1⟩ := (deepString Tryz.underlying9).opens h1
    obtain ⟨x2, _, e2, rfl, z2⟩ := (deepString Tryz.underlying9).opens h2
    obtain ⟨x3, _, e3, _⟩ := (deepInt Tryz.underlying3).opens h3
    obtain ⟨x4, _, e4, _⟩ := (deepInt Tryz.underlying3).opens h4
    rw [show Tryz.prog.cellsOf 51 = 5 by kernel_rfl] at hl
    match cs, hl with
    | [c0, c1, c2, c3, c4], _ =>
    simp [Enc.enc] at e0 e1 e2 e3 e4
    subst e0 e1 e2 e3 e4
    exact ⟨⟨x0, x1, x2, x3, x4⟩, _, rfl, rfl, z0, z1, z2⟩
  vals := vals_struct Tryz.underlying51 fun _ => rfl
instance dWts : Deep Tryz.prog 25 Wts Wts where
  rd a b _ := a = b
  keep h _ := h
  opens {H enc w sp fuel cs x} h := by
    have hl := trod_len Tryz.underlying25 h
    obtain ⟨_, _, h0⟩ := trod_fld Tryz.underlying25 h 0 rfl rfl rfl cells3
    obtain ⟨_, _, h1⟩ := trod_fld Tryz.underlying25 h 1 rfl rfl rfl cells3
    obtain ⟨_, _, h2⟩ := trod_fld Tryz.underlying25 h 2 rfl rfl rfl cells3
    obtain ⟨_, _, h3⟩ := trod_fld Tryz.underlying25 h 3 rfl rfl rfl cells3
    obtain ⟨x0, _, e0, _⟩ := (deepInt Tryz.underlying3).opens h0
    obtain ⟨x1, _, e1, _⟩ := (deepInt Tryz.underlying3).opens h1
    obtain ⟨x2, _, e2, _⟩ := (deepInt Tryz.underlying3).opens h2
    obtain ⟨x3, _, e3, _⟩ := (deepInt Tryz.underlying3).opens h3
    rw [show Tryz.prog.cellsOf 25 = 4 by kernel_rfl] at hl
    match cs, hl with
    | [c0, c1, c2, c3], _ =>
    simp [Enc.enc] at e0 e1 e2 e3
    subst e0 e1 e2 e3
    exact ⟨⟨x0, x1, x2, x3⟩, _, rfl, rfl⟩
  vals := vals_struct Tryz.underlying25 fun _ => rfl
instance : Deep Tryz.prog 22 SlV (List Un) := deepSlice Tryz.underlying22 (by kernel_rfl)
instance : Deep Tryz.prog 23 SlV (List Wan) := deepSlice Tryz.underlying23 (by kernel_rfl)
/-- A unit, units, targets that came in. -/
theorem un_in {w : World} {u : Un} (h : UnIn u w) : ∃ x : Unit, Stb w [] (fun w' => UnIn u w') := ⟨(), ⟨fun w' k => ⟨h.s1, h.s2, h.s3, (rd_stb h.b).stb w' k, (rd_stb h.e).stb w' k⟩⟩⟩
end Go.Proofs.YtomjbfeafodfbaaGreat
