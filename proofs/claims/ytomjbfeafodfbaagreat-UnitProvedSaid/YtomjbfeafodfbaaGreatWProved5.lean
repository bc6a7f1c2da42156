import Derived.Test.YtomjbfeafodfbaaGreatWProved4

set_option autoImplicit false
set_option linter.unusedSimpArgs false
set_option linter.unusedVariables false
set_option maxRecDepth 100000
namespace Go.Proofs.YtomjbfeafodfbaaGreat
open Go.Sx
open Enc (enc val)
structure EX where
  su : SlV
  st : SlV
  a : SlV
  b : SlV
  c : SlV
  d : SlV
  e : SlV
  f : SlV
def EX.U (y : EX) : List Un := exU y.a y.b y.c y.d y.e y.f
def EX.H (y : EX) : List Asn := [ownL 51 y.st.v exT, ownL 49 y.su.v y.U, ownL 3 y.f.v [(5 : Int)], ownL 3 y.e.v [(0 : Int)], ownL 3 y.d.v [(0 : Int)], ownL 3 y.c.v [(5 : Int)], ownL 3 y.b.v [(4 : Int)], ownL 3 y.a.v [(0 : Int)]]
theorem example_spec (w : World) : Calls Tryz.prog 63 #[] w fun e w' => ∃ y : EX, e = .returned (.tuple #[y.su.v, y.st.v, val exW]) ∧ True ∧ Cl w [] y.H w' := by
  refine calls_cw (vs := []) Tryz.func63 rfl Tryz.ntmps63 rfl (Cl.start0 w) (cw_seq (cw_region (sr rfl rfl rfl ((q_assign rfl rfl)) (sr rfl rfl rfl ((q_assign rfl rfl)) ?_))))
  refine sw_x rfl rfl rfl (e_alloc rfl) (fun b2 => ?_)
  refine sw_nil (post_then (cw_seq (cw_region ?_)))
  refine sw_x rfl rfl rfl (e_build1 (α := Int) rfl rfl rfl rfl) (fun s4 => ?_)
  refine sw_x rfl rfl rfl (e_build1 (α := Int) rfl rfl rfl rfl) (fun s5 => ?_)
  refine sr rfl rfl rfl ((q_build rfl (.cons rfl inferInstance (.cons rfl inferInstance (.cons rfl inferInstance (.cons rfl inferInstance (.cons rfl inferInstance (.cons rfl inferInstance (.nil))))))) rfl)) ?_
  refine sw_x rfl rfl rfl (e_build1 (α := Int) rfl rfl rfl rfl) (fun s7 => ?_)
  refine sw_x rfl rfl rfl (e_build1 (α := Int) rfl rfl rfl rfl) (fun s8 => ?_)
  refine sr rfl rfl rfl ((q_build rfl (.cons rfl inferInstance (.cons rfl inferInstance (.cons rfl inferInstance (.cons rfl inferInstance (.cons rfl inferInstance (.cons rfl inferInstance (.cons rfl inferInstance (.nil)))))))) rfl)) ?_
  refine sw_x rfl rfl rfl (e_build1 (α := Int) rfl rfl rfl rfl) (fun s10 => ?_)
  refine sw_x rfl rfl rfl (e_build1 (α := Int) rfl rfl rfl rfl) (fun s11 => ?_)
  refine sr rfl rfl rfl ((q_build rfl (.cons rfl inferInstance (.cons rfl inferInstance (.cons rfl inferInstance (.cons rfl inferInstance (.cons rfl inferInstance (.cons rfl inferInstance (.cons rfl inferInstance (.nil)))))))) rfl)) ?_
  refine sw_x rfl rfl rfl (e_buildL (α := Un) (l := exU s4 s5 s7 s8 s10 s11) rfl (.cons rfl inferInstance (.cons rfl inferInstance (.cons rfl inferInstance (.nil)))) rfl rfl rfl rfl) (fun s13 => ?_)
  refine sr rfl rfl rfl ((q_assign rfl rfl)) (sw_nil (post_then (cw_seq (cw_region (sr rfl rfl rfl ((q_move rfl rfl)) ?_)))))
  refine sr rfl rfl rfl ((q_build (cells := [.string exA, .string ByteArray.empty, .string ByteArray.empty, .int .i64 100, .int .i64 10]) rfl (.cons rfl inferInstance (.cons rfl inferInstance (.cons rfl inferInstance (.nil)))) (by rfl))) ?_
  refine sr rfl rfl rfl ((q_build (cells := [.string exB, .string ByteArray.empty, .string ByteArray.empty, .int .i64 100, .int .i64 10]) rfl (.cons rfl inferInstance (.cons rfl inferInstance (.cons rfl inferInstance (.nil)))) (by rfl))) ?_
  refine sw_x rfl rfl rfl (e_buildL (α := Wan) (l := exT) rfl (.cons rfl inferInstance (.cons rfl inferInstance (.nil))) rfl rfl rfl rfl) (fun s17 => ?_)
  refine sr rfl rfl rfl ((q_build (cells := enc exW) rfl (.cons rfl inferInstance (.cons rfl inferInstance (.cons rfl inferInstance (.cons rfl inferInstance (.nil))))) (by rfl))) ?_
  refine sr rfl rfl rfl ((q_assign rfl rfl)) (sr rfl rfl rfl ((q_assign rfl rfl)) (sw_eff0 rfl rfl (e_store (i := 8) rfl rfl rfl rfl rfl rfl rfl rfl) (sw_nil (post_then (cw_ret ?_)))))
  refine post_ret3 rfl (resOk_tmp rfl) (resOk_tmp rfl) (resOk_blk (x := exW) rfl (by exact .tail _ (.tail _ (.tail _ (.tail _ (.tail _ (.tail _ (.tail _ (.tail _ (.head _))))))))) (by rfl)) ?_
  exact fun w' hw => ⟨⟨s13, s17, s4, s5, s7, s8, s10, s11⟩, rfl, trivial, (fun w h => Cl.sel (by exact .take 0 rfl (.take 0 rfl (.take 0 rfl (.take 0 rfl (.take 0 rfl (.take 0 rfl (.take 0 rfl (.take 0 rfl (.nil _))))))))) w h) _ hw⟩
theorem ex_un {w : World} {H : List Asn} {w0 : World} (y : EX) (hw : Cl w0 [] H w) (hm : ∀ A ∈ y.H, A ∈ H) : VoRd w y.su y.U ∧ Stb w [] (RdL y.st.v exT) := by
  have h1 := stb_own (e := 49) hw (hm _ (.tail _ (.head _)))
  have h2 := stb_own (e := 51) hw (hm _ (.head _))
  have hf := stb_own (e := 3) hw (hm _ (.tail _ (.tail _ (.head _))))
  have he := stb_own (e := 3) hw (hm _ (.tail _ (.tail _ (.tail _ (.head _)))))
  have hd := stb_own (e := 3) hw (hm _ (.tail _ (.tail _ (.tail _ (.tail _ (.head _))))))
  have hc := stb_own (e := 3) hw (hm _ (.tail _ (.tail _ (.tail _ (.tail _ (.tail _ (.head _)))))))
  have hb := stb_own (e := 3) hw (hm _ (.tail _ (.tail _ (.tail _ (.tail _ (.tail _ (.tail _ (.head _))))))))
  have ha := stb_own (e := 3) hw (hm _ (.tail _ (.tail _ (.tail _ (.tail _ (.tail _ (.tail _ (.tail _ (.head _)))))))))
  refine ⟨⟨h1, fun u hu => ?_⟩, h2⟩
  simp only [EX.U, exU, List.mem_cons, List.not_mem_nil, or_false] at hu
  have sA : exA.size ≤ 140737488355328 := by decide
  have sB : exB.size ≤ 140737488355328 := by decide
  have sE : ByteArray.empty.size ≤ 140737488355328 := by decide
  rcases hu with rfl | rfl | rfl
  · exact ⟨sA, sE, sE, ha, hb⟩
  · exact ⟨sB, sE, sE, hc, hd⟩
  · exact ⟨sA, sE, sE, he, hf⟩
theorem ex_wa : ∀ t ∈ exT, WaRd t := by
  intro t ht
  simp only [exT, List.mem_cons, List.not_mem_nil, or_false] at ht
  rcases ht with rfl | rfl <;> exact ⟨by decide, by decide, by decide⟩
theorem mt_own {w0 w : World} {fp : List Nat} {H : List Asn} (hw : Cl w0 fp H w) {s : SlV} {vs : List SlV} {ls : List (List Int)} {e : TypeId} (hl : ownL e s.v vs ∈ H) (hn : vs.length = ls.length) (hr : ∀ i, i < ls.length → ∃ e2, ownL e2 (nth vs i).v (nth ls i) ∈ H) : Stb w [] (fun w' => Mt w' s.v vs ls) := by
  have h1 := stb_own hw hl
  have h2 : ∀ i, i < ls.length → Stb w [] (RdL (nth vs i).v (nth ls i)) := fun i hi => by
    obtain ⟨e2, h⟩ := hr i hi
    exact stb_own hw h
  exact ⟨fun w' k => ⟨h1.stb w' k, hn, fun i hi => (h2 i hi).stb w' k⟩⟩
theorem ex_rows {w : World} {so sc : SlV} (h1 : Stb w [] (RdL so.v (rowsTo sc 3 2 2))) (h2 : Stb w [] (RdL sc.v [(0 : Int), 0, 20, 0, 0, 0])) : Stb w [] (fun w' => Mt w' so.v (rowsTo sc 3 2 2) [[0, 0, 20], [0, 0, 0]]) := by
  have r0 : Stb w [] (RdL (sc.row 1 0 3).v [(0 : Int), 0, 20]) := stb_row (α := Int) h2 (by decide) (by decide)
  have r1 : Stb w [] (RdL (sc.row 1 3 6).v [(0 : Int), 0, 0]) := stb_row (α := Int) h2 (by decide) (by decide)
  refine ⟨fun w' k => ⟨h1.stb w' k, rowsTo_len _ _ _ _, fun i hi => ?_⟩⟩
  match i, hi with
  | 0, _ => rw [rowsTo_nth _ _ _ _ _ (by decide)]; exact r0.stb w' k
  | 1, _ => rw [rowsTo_nth _ _ _ _ _ (by decide)]; exact r1.stb w' k
def exP : CutP := ⟨[[1], [1], [9]], [[1], [8]], 1⟩
theorem exP_D : (exP.D exP.m 0).getD 0 = 1 := by decide +kernel
theorem exP_pth : exP.pth exP.m 0 = [2, 1] := by decide +kernel
theorem exP_E : cutE exP.fl exP.pl exP.L = 0 := by decide +kernel
theorem exP_ok : exP.Ok where
  fv f hf := by
    have hf' : f < 3 := hf
    match f, hf' with
    | 0, _ => decide
    | 1, _ => decide
    | 2, _ => decide
  pv p hp := by
    have hp' : p < 2 := hp
    match p, hp' with
    | 0, _ => decide
    | 1, _ => decide
  eq f p hf hp := by
    have hf' : f < 3 := hf
    have hp' : p < 2 := hp
    match f, hf', p, hp' with
    | 0, _, 0, _ => rfl
    | 1, _, 0, _ => rfl
    | 2, _, 0, _ => rfl
    | 0, _, 1, _ => rfl
    | 1, _, 1, _ => rfl
    | 2, _, 1, _ => rfl
  n2 := by decide
  m2 := by decide
  l1 := by decide
theorem same_true (sa sb : Value) (a b : List Int) (h : a = b) (w : World) (ha : Stb w [] (RdL sa a)) (hb : Stb w [] (RdL sb b)) : Calls Tryz.prog 23 #[sa, sb] w fun e w' => e = .returned (.bool true) ∧ Cl w [] [] w' := by
  have := same_spec sa sb a b w ha hb
  rwa [decide_eq_true h] at this
theorem sameL_true (sa sb : Value) (va vb : List SlV) (a b : List (List Int)) (h : a = b) (w : World) (ha : Stb w [] (fun w' => Mt w' sa va a)) (hb : Stb w [] (fun w' => Mt w' sb vb b)) : Calls Tryz.prog 24 #[sa, sb] w fun e w' => e = .returned (.bool true) ∧ Cl w [] [] w' := by
  have := sameLists_spec sa sb va vb a b w ha hb
  rwa [decide_eq_true h] at this
theorem known_spec (w : World) : Calls Tryz.prog 18 #[] w fun e w' => e = .returned (.bool true) ∧ Cl w [] [] w' := by
  refine calls_cw (vs := []) Tryz.func18 rfl Tryz.ntmps18 rfl (Cl.start0 w) (cw_seq (cw_region (sr rfl rfl rfl ((q_assign rfl rfl)) (sw_nil (post_then (cw_seq (cw_region ?_)))))))
  refine sw_x rfl rfl rfl (e_call (CanCall.mk Tryz.call63) rfl (.nil) (fun w hw => example_spec w)) (fun y => ?_)
  refine sw_imp fun _ => ?_
  rw [List.append_nil]
  refine sr rfl rfl rfl ((q_move rfl rfl)) (sr rfl rfl rfl ((q_extract rfl rfl rfl)) (sr rfl rfl rfl ((q_extract rfl rfl rfl)) (sr rfl rfl rfl ((q_extract rfl rfl rfl)) ?_)))
  refine sw_x rfl rfl rfl (e_alloc rfl) (fun b3 => ?_)
  refine sr rfl rfl rfl ((q_assign rfl rfl)) (sr rfl rfl rfl ((q_assign rfl rfl)) (sw_eff0 rfl rfl (e_store (i := 0) rfl rfl rfl rfl rfl rfl rfl rfl) (sw_nil (post_then (cw_seq (cw_region (sr rfl rfl rfl ((q_move rfl rfl)) (sr rfl rfl rfl ((q_move rfl rfl)) ?_))))))))
  refine sr rfl rfl rfl ((q_loadA rfl rfl (by exact .head _) rfl)) ?_
  refine sw_x rfl rfl rfl (e_call (CanCall.mk Tryz.call19) rfl (.cons rfl inferInstance (.cons rfl inferInstance (.cons rfl inferInstance (.nil)))) (fun w1 hw => choose_yes y.su y.st y.U exT exW w1 (ex_un y hw (fun A hA => .tail _ hA)).1 (ex_un y hw (fun A hA => .tail _ hA)).2 ex_wa (ex_begin _ _ _ _ _ _) (ex_poss _ _ _ _ _ _) (show (3 + 1) ^ 2 ≤ 500000000 by decide))) (fun z => ?_)
  refine sw_imp fun hz => ?_
  obtain ⟨⟨so, sc⟩, ⟨cells, ⟨qs, qc, ql⟩⟩⟩ := z
  obtain ⟨h1, h2⟩ := hz
  dsimp only at h1 h2
  obtain rfl := ex_cells _ _ _ _ _ _ h1
  obtain ⟨rfl, rfl⟩ := ex_best _ _ _ _ _ _ h2
  clear h1 h2
  dsimp only
  refine sr rfl rfl rfl ((q_move rfl rfl)) (sr rfl rfl rfl ((q_extract rfl rfl rfl)) (sr rfl rfl rfl ((q_extract rfl rfl rfl)) (sr rfl rfl rfl ((q_extract rfl rfl rfl)) ?_)))
  refine sw_x rfl rfl rfl (e_alloc rfl) (fun b4 => ?_)
  refine sw_eff0 rfl rfl (e_store (i := 0) rfl rfl rfl rfl rfl rfl rfl rfl) (sr rfl rfl rfl ((q_assign rfl rfl)) (sr rfl rfl rfl ((q_assign rfl rfl)) (sw_nil (post_then (cw_seq (cw_region (sr rfl rfl rfl ((q_move rfl rfl)) (sr rfl rfl rfl ((q_move rfl rfl)) ?_))))))))
  refine sr rfl rfl rfl ((q_loadA rfl rfl (by exact .tail _ (.tail _ (.tail _ (.tail _ (.head _))))) rfl)) ?_
  refine sw_x rfl rfl rfl (e_call (CanCall.mk Tryz.call26) rfl (.cons rfl inferInstance (.cons rfl inferInstance (.cons rfl inferInstance (.cons rfl inferInstance (.nil))))) (fun w1 hw => best_yes y.su y.st y.U exT exW 5 w1 (ex_un y hw (fun A hA => .tail _ (.tail _ (.tail _ (.tail _ (.tail _ hA)))))).1 (ex_un y hw (fun A hA => .tail _ (.tail _ (.tail _ (.tail _ (.tail _ hA)))))).2 ex_wa (ex_begin _ _ _ _ _ _) (by omega) (ex_poss _ _ _ _ _ _) (show (3 + 1) ^ 2 ≤ 500000000 by decide))) (fun z => ?_)
  refine sw_imp fun hz => ?_
  obtain ⟨so2, ⟨outs, il⟩⟩ := z
  obtain ⟨h1, h2, h3⟩ := hz
  dsimp only at h1 h2 h3 ⊢
  obtain ⟨q1, ⟨u2, c2, l2⟩, rfl, hq⟩ := ex_bests _ _ _ _ _ _ h1 h2
  obtain rfl : c2 = 20 := hq
  clear h1 h2 h3
  refine sw_le (C' := Cl w [] [ownL 30 so2.v [q1, ⟨u2, 20, l2⟩], blk b4 [qs.v, .int .i64 0] 30, ownL 28 so.v (rowsTo sc 3 2 2), ownL 3 sc.v [(0 : Int), 0, 20, 0, 0, 0], ownL 3 qs.v [(0 : Int), 1]]) (fun w h => Cl.sel (by exact .take 0 rfl (.take 2 rfl (.take 2 rfl (.take 2 rfl (.take 2 rfl (.nil _)))))) w h) ?_
  refine sr rfl rfl rfl ((q_move rfl rfl)) (sr rfl rfl rfl ((q_extract rfl rfl rfl)) (sr rfl rfl rfl ((q_extract rfl rfl rfl)) (sr rfl rfl rfl ((q_assign rfl rfl)) (sr rfl rfl rfl ((q_assign rfl rfl)) (sw_nil (post_then (cw_seq (cw_region ?_))))))))
  refine sw_x rfl rfl rfl (e_build1 (α := Int) rfl rfl rfl rfl) (fun s41 => ?_)
  refine sw_x rfl rfl rfl (e_build1 (α := Int) rfl rfl rfl rfl) (fun s42 => ?_)
  refine sw_x rfl rfl rfl (e_build1 (α := Int) rfl rfl rfl rfl) (fun s43 => ?_)
  refine sw_x rfl rfl rfl (e_buildL (α := SlV) (l := [s41, s42, s43]) rfl (.cons rfl inferInstance (.cons rfl inferInstance (.cons rfl inferInstance (.nil)))) rfl rfl rfl rfl) (fun s44 => ?_)
  refine sw_x rfl rfl rfl (e_build1 (α := Int) rfl rfl rfl rfl) (fun s45 => ?_)
  refine sw_x rfl rfl rfl (e_build1 (α := Int) rfl rfl rfl rfl) (fun s46 => ?_)
  refine sw_x rfl rfl rfl (e_buildL (α := SlV) (l := [s45, s46]) rfl (.cons rfl inferInstance (.cons rfl inferInstance (.nil))) rfl rfl rfl rfl) (fun s47 => ?_)
  refine sw_x rfl rfl rfl (e_call (CanCall.mk Tryz.call30) rfl (.cons rfl inferInstance (.cons rfl inferInstance (.cons rfl inferInstance (.nil)))) (fun w1 hw => cut_yes s44 s47 [s41, s42, s43] [s45, s46] exP w1 (mt_own hw (e := 28) (by exact .tail _ (.tail _ (.tail _ (.head _)))) rfl (fun i hi => by match i, hi with | 0, _ => exact ⟨3, (by exact .tail _ (.tail _ (.tail _ (.tail _ (.tail _ (.tail _ (.head _)))))))⟩ | 1, _ => exact ⟨3, (by exact .tail _ (.tail _ (.tail _ (.tail _ (.tail _ (.head _))))))⟩ | 2, _ => exact ⟨3, (by exact .tail _ (.tail _ (.tail _ (.tail _ (.head _)))))⟩)) (mt_own hw (e := 28) (by exact .head _) rfl (fun i hi => by match i, hi with | 0, _ => exact ⟨3, (by exact .tail _ (.tail _ (.head _)))⟩ | 1, _ => exact ⟨3, (by exact .tail _ (.head _))⟩)) exP_E exP_ok (by decide) (by decide))) (fun z => ?_)
  refine sw_imp fun hz => ?_
  obtain ⟨sk, lk⟩ := z
  dsimp only at hz ⊢
  rw [exP_pth] at hz
  subst hz
  rw [exP_D]
  refine sw_le (C' := Cl w [] [ownL 3 sk.v [(2 : Int), 1], ownL 30 so2.v [q1, ⟨u2, 20, l2⟩], blk b4 [qs.v, .int .i64 0] 30, ownL 28 so.v (rowsTo sc 3 2 2), ownL 3 sc.v [(0 : Int), 0, 20, 0, 0, 0], ownL 3 qs.v [(0 : Int), 1]]) (fun w h => Cl.sel (by exact .take 0 rfl (.take 7 rfl (.take 7 rfl (.take 7 rfl (.take 7 rfl (.take 7 rfl (.nil _))))))) w h) ?_
  refine sr rfl rfl rfl ((q_move rfl rfl)) (sr rfl rfl rfl ((q_extract rfl rfl rfl)) (sr rfl rfl rfl ((q_extract rfl rfl rfl)) (sr rfl rfl rfl ((q_extract rfl rfl rfl)) (sr rfl rfl rfl ((q_assign rfl rfl)) (sr rfl rfl rfl ((q_assign rfl rfl)) (sr rfl rfl rfl ((q_assign rfl rfl)) (sw_nil (post_then (cw_seq (cw_region ?_))))))))))
  refine sw_x rfl rfl rfl (e_buildL (α := Int) (l := [0, 1, 2]) rfl (.cons rfl inferInstance (.cons rfl inferInstance (.cons rfl inferInstance (.nil)))) rfl rfl rfl rfl) (fun s52 => ?_)
  refine sw_x rfl rfl rfl (e_buildL (α := Int) (l := [0, 3]) rfl (.cons rfl inferInstance (.cons rfl inferInstance (.nil))) rfl rfl rfl rfl) (fun s53 => ?_)
  refine sw_x rfl rfl rfl (e_buildL (α := Int) (l := [1, 2]) rfl (.cons rfl inferInstance (.cons rfl inferInstance (.nil))) rfl rfl rfl rfl) (fun s54 => ?_)
  refine sw_x rfl rfl rfl (e_build1 (α := Int) rfl rfl rfl rfl) (fun s55 => ?_)
  refine sw_x rfl rfl rfl (e_buildL (α := SlV) (l := [s52, s53, s54, s55]) rfl (.cons rfl inferInstance (.cons rfl inferInstance (.cons rfl inferInstance (.cons rfl inferInstance (.nil))))) rfl rfl rfl rfl) (fun s56 => ?_)
  refine sr rfl rfl rfl ((q_assign rfl rfl)) (sw_nil (post_then (cw_seq (cw_region (sr rfl rfl rfl ((q_move rfl rfl)) ?_)))))
  have hsets : ∀ {w1 : World} {H : List Asn}, Cl w [] H w1 → ownL 28 s56.v [s52, s53, s54, s55] ∈ H → ownL 3 s52.v [(0 : Int), 1, 2] ∈ H → ownL 3 s53.v [(0 : Int), 3] ∈ H → ownL 3 s54.v [(1 : Int), 2] ∈ H → ownL 3 s55.v [(3 : Int)] ∈ H → Stb w1 [] (fun w' => Mt w' s56.v [s52, s53, s54, s55] exS) := fun hw m0 m1 m2 m3 m4 => mt_own hw (e := 28) m0 rfl (fun i hi => by
    have hi' : i < 4 := hi
    match i, hi' with
    | 0, _ => exact ⟨3, m1⟩
    | 1, _ => exact ⟨3, m2⟩
    | 2, _ => exact ⟨3, m3⟩
    | 3, _ => exact ⟨3, m4⟩)
  refine sw_x rfl rfl rfl (e_call (CanCall.mk Tryz.call42) rfl (.cons rfl inferInstance (.cons rfl inferInstance (.nil))) (fun w1 hw => greedy_yes 4 (by omega) s56 [s52, s53, s54, s55] exS (by decide) w1 (hsets hw (by exact .head _) (by exact .tail _ (.tail _ (.tail _ (.tail _ (.head _))))) (by exact .tail _ (.tail _ (.tail _ (.head _)))) (by exact .tail _ (.tail _ (.head _))) (by exact .tail _ (.head _))) exS_cov exS_poss)) (fun z => ?_)
  refine sw_imp fun hz => ?_
  obtain ⟨sa, ⟨la, ka⟩⟩ := z
  dsimp only at hz ⊢
  obtain rfl := exS_k hz.ok hz.full
  obtain rfl : la = [0, 1] := srt_two (by rw [← exS_out]; exact hz.perm) hz.srt
  clear hz
  refine sr rfl rfl rfl ((q_move rfl rfl)) (sr rfl rfl rfl ((q_extract rfl rfl rfl)) (sr rfl rfl rfl ((q_extract rfl rfl rfl)) (sr rfl rfl rfl ((q_assign rfl rfl)) (sr rfl rfl rfl ((q_assign rfl rfl)) (sw_nil (post_then (cw_seq (cw_region (sr rfl rfl rfl ((q_move rfl rfl)) ?_)))))))))
  refine sw_x rfl rfl rfl (e_call (CanCall.mk Tryz.call34) rfl (.cons rfl inferInstance (.cons rfl inferInstance (.nil))) (fun w1 hw => price_yes 4 (by omega) s56 [s52, s53, s54, s55] exS w1 (hsets hw (by exact .tail _ (.head _)) (by exact .tail _ (.tail _ (.tail _ (.tail _ (.tail _ (.head _)))))) (by exact .tail _ (.tail _ (.tail _ (.tail _ (.head _))))) (by exact .tail _ (.tail _ (.tail _ (.head _)))) (by exact .tail _ (.tail _ (.head _)))) exS_cov (by decide) (by rw [exS_wid]; decide) exS_poss)) (fun z => ?_)
  refine sw_imp fun hz => ?_
  obtain ⟨sp, ⟨lp, ⟨kp, lq⟩⟩⟩ := z
  dsimp only at hz ⊢
  obtain ⟨hz1, hz2⟩ := hz
  obtain rfl := exS_k hz2.ok hz2.full
  rw [exS_sh] at hz1
  obtain rfl : lp = [9240, 9240, 9240, 27720] := hz1
  clear hz2
  rw [exS_wid, exS_scale]
  refine sr rfl rfl rfl ((q_move rfl rfl)) (sr rfl rfl rfl ((q_extract rfl rfl rfl)) (sr rfl rfl rfl ((q_extract rfl rfl rfl)) (sr rfl rfl rfl ((q_extract rfl rfl rfl)) (sr rfl rfl rfl ((q_assign rfl rfl)) (sr rfl rfl rfl ((q_assign rfl rfl)) (sr rfl rfl rfl ((q_assign rfl rfl)) (sw_nil (post_then (cw_seq (cw_region (sr rfl rfl rfl ((q_move rfl rfl)) (sr rfl rfl rfl ((q_move rfl rfl)) (sr rfl rfl rfl ((q_move rfl rfl)) ?_)))))))))))))
  refine sw_step rfl rfl rfl (q_call (v := .tuple #[.int .i64 2, .bool true]) (CanCall.mk Tryz.call39) rfl (.cons rfl inferInstance (.cons rfl inferInstance (.cons rfl inferInstance (.cons rfl inferInstance (.nil))))) (fun _ w1 hw => callq hw (by have := proves_yes 4 (by omega) s56 [s52, s53, s54, s55] exS sp [9240, 9240, 9240, 27720] 50820 w1 (hsets hw (by exact .tail _ (.tail _ (.head _))) (by exact .tail _ (.tail _ (.tail _ (.tail _ (.tail _ (.tail _ (.head _))))))) (by exact .tail _ (.tail _ (.tail _ (.tail _ (.tail _ (.head _)))))) (by exact .tail _ (.tail _ (.tail _ (.tail _ (.head _))))) (by exact .tail _ (.tail _ (.tail _ (.head _))))) (stb_own (e := 3) hw (by exact .head _)) exS_cov; rw [exS_prov.1, exS_prov.2] at this; exact this))) ?_
  refine sr rfl rfl rfl ((q_move rfl rfl)) (sr rfl rfl rfl ((q_extract rfl rfl rfl)) (sr rfl rfl rfl ((q_extract rfl rfl rfl)) (sr rfl rfl rfl ((q_assign rfl rfl)) (sr rfl rfl rfl ((q_assign rfl rfl)) (sw_nil (post_then (cw_seq (cw_seq (cw_region (sr rfl rfl rfl ((q_move rfl rfl)) (sr rfl rfl rfl ((q_neq rfl rfl rfl)) (sr rfl rfl rfl ((q_move rfl rfl)) (sr rfl rfl rfl ((q_move rfl rfl)) (sr rfl rfl rfl ((q_neq rfl rfl rfl)) (sr rfl rfl rfl ((q_or2 rfl rfl rfl)) (sr rfl rfl rfl ((q_move rfl rfl)) (sr rfl rfl rfl ((q_move rfl rfl)) (sr rfl rfl rfl ((q_neq rfl rfl rfl)) (sr rfl rfl rfl ((q_or2 rfl rfl rfl)) (sr rfl rfl rfl ((q_move rfl rfl)) (sr rfl rfl rfl ((q_move rfl rfl)) (sr rfl rfl rfl ((q_neq rfl rfl rfl)) (sr rfl rfl rfl ((q_or2 rfl rfl rfl)) (sr rfl rfl rfl ((q_move rfl rfl)) (sr rfl rfl rfl ((q_move rfl rfl)) (sr rfl rfl rfl ((q_neq rfl rfl rfl)) (sr rfl rfl rfl ((q_or2 rfl rfl rfl)) (sr rfl rfl rfl ((q_move rfl rfl)) (sr rfl rfl rfl ((q_move rfl rfl)) (sr rfl rfl rfl ((q_not rfl rfl)) (sr rfl rfl rfl ((q_or2 rfl rfl rfl)) (sr rfl rfl rfl ((q_move rfl rfl)) (sr rfl rfl rfl ((q_move rfl rfl)) ?_)))))))))))))))))))))))))))))))))
  refine sr rfl rfl rfl ((q_len rfl (.cons rfl inferInstance (.nil)) (by exact fun w hw => rd_own hw (by exact .tail _ (.tail _ (.tail _ (.tail _ (.tail _ (.tail _ (.tail _ (.tail _ (.head _)))))))))))) ?_
  refine sr rfl rfl rfl ((q_neq rfl rfl rfl)) (sr rfl rfl rfl ((q_or2 rfl rfl rfl)) (sw_nil (post_then ?_)))
  refine cw_cond rfl (fun h => ?_) (fun h => ?_)
  · skip
    simp at h
  · skip
    clear h
    have hn2 : (nth [q1, (⟨u2, 20, l2⟩ : Sq)] 1).cost = 20 := rfl
    refine cw_skip (post_then (cw_seq (cw_region (sr rfl rfl rfl ((q_fieldAddr rfl rfl)) ?_))))
    refine sr rfl rfl rfl ((q_loadC rfl rfl (by exact .tail _ (.tail _ (.tail _ (.tail _ (.tail _ (.tail _ (.tail _ (.tail _ (.tail _ (.head _)))))))))) rfl)) ?_
    refine sw_x rfl rfl rfl (e_buildL (α := Int) (l := [0, 1]) rfl (.cons rfl inferInstance (.cons rfl inferInstance (.nil))) rfl rfl rfl rfl) (fun s104 => ?_)
    refine sw_step rfl rfl rfl (q_call (v := .bool true) (CanCall.mk Tryz.call23) rfl (.cons rfl inferInstance (.cons rfl inferInstance (.nil))) (fun _ w1 hw => callq hw (same_true _ _ [0, 1] [0, 1] rfl w1 (stb_own (e := 3) hw (by exact .tail _ (.tail _ (.tail _ (.tail _ (.tail _ (.tail _ (.tail _ (.tail _ (.tail _ (.tail _ (.tail _ (.tail _ (.tail _ (.head _))))))))))))))) (stb_own (e := 3) hw (by exact .head _))))) ?_
    refine sr rfl rfl rfl ((q_move rfl rfl)) (sr rfl rfl rfl ((q_fieldAddr rfl rfl)) ?_)
    refine sr rfl rfl rfl ((q_loadC rfl rfl (by exact .tail _ (.tail _ (.tail _ (.tail _ (.tail _ (.tail _ (.tail _ (.tail _ (.tail _ (.tail _ (.head _))))))))))) rfl)) ?_
    refine sr rfl rfl rfl ((q_eql rfl rfl rfl)) (sr rfl rfl rfl ((q_and2 rfl rfl rfl)) (sr rfl rfl rfl ((q_move rfl rfl)) (sr rfl rfl rfl ((q_move rfl rfl)) ?_)))
    refine sw_xc rfl (by first | (simp [AllT]; done) | simp [AllT, *]) rfl rfl (e_buildLc (α := Int) (l := [0, 0, 20]) rfl (.cons rfl inferInstance (.cons rfl inferInstance (.cons rfl inferInstance (.nil)))) rfl rfl rfl rfl) (fun s113 => ?_)
    refine sw_xc rfl (by first | (simp [AllT]; done) | simp [AllT, *]) rfl rfl (e_buildLc (α := Int) (l := [0, 0, 0]) rfl (.cons rfl inferInstance (.cons rfl inferInstance (.cons rfl inferInstance (.nil)))) rfl rfl rfl rfl) (fun s114 => ?_)
    refine sw_xc rfl (by first | (simp [AllT]; done) | simp [AllT, *]) rfl rfl (e_buildLc (α := SlV) (l := [s113, s114]) rfl (.cons rfl inferInstance (.cons rfl inferInstance (.nil))) rfl rfl rfl rfl) (fun s115 => ?_)
    refine sw_step rfl rfl rfl (q_call (v := .bool true) (CanCall.mk Tryz.call24) rfl (.cons rfl inferInstance (.cons rfl inferInstance (.nil))) (fun _ w1 hw => callq hw (sameL_true _ _ (rowsTo sc 3 2 2) [s113, s114] [[0, 0, 20], [0, 0, 0]] [[0, 0, 20], [0, 0, 0]] rfl w1 (ex_rows (stb_own (e := 28) hw (by exact .tail _ (.tail _ (.tail _ (.tail _ (.tail _ (.tail _ (.tail _ (.tail _ (.tail _ (.tail _ (.tail _ (.tail _ (.tail _ (.tail _ (.head _)))))))))))))))) (stb_own (e := 3) hw (by exact .tail _ (.tail _ (.tail _ (.tail _ (.tail _ (.tail _ (.tail _ (.tail _ (.tail _ (.tail _ (.tail _ (.tail _ (.tail _ (.tail _ (.tail _ (.head _)))))))))))))))))) (mt_own hw (e := 28) (by exact .head _) rfl (fun i hi => by match i, hi with | 0, _ => exact ⟨3, (by exact .tail _ (.tail _ (.head _)))⟩ | 1, _ => exact ⟨3, (by exact .tail _ (.head _))⟩))))) ?_
    refine sr rfl rfl rfl ((q_and2 rfl rfl rfl)) (sr rfl rfl rfl ((q_move rfl rfl)) (sr rfl rfl rfl ((q_move rfl rfl)) ?_))
    refine sr rfl rfl rfl ((q_indexN rfl rfl rfl (by exact fun w hw => rd_own hw (by exact .tail _ (.tail _ (.tail _ (.tail _ (.tail _ (.tail _ (.tail _ (.tail _ (.tail _ (.tail _ (.tail _ (.tail _ (.head _)))))))))))))) (by intro hc; (simp only [List.length_set, List.length_append, List.length_cons, List.length_nil, List.length_replicate, List.length_take, List.length_drop, List.length_map]; omega)))) ?_
    refine sr rfl rfl rfl ((q_fieldEl rfl rfl (by exact fun w hw => rd_own hw (by exact .tail _ (.tail _ (.tail _ (.tail _ (.tail _ (.tail _ (.tail _ (.tail _ (.tail _ (.tail _ (.tail _ (.tail _ (.head _)))))))))))))) (by intro hc; (simp only [List.length_set, List.length_append, List.length_cons, List.length_nil, List.length_replicate, List.length_take, List.length_drop, List.length_map]; omega)))) ?_
    refine sr rfl rfl rfl ((q_loadF rfl rfl rfl (by exact fun w hw => rd_own hw (by exact .tail _ (.tail _ (.tail _ (.tail _ (.tail _ (.tail _ (.tail _ (.tail _ (.tail _ (.tail _ (.tail _ (.tail _ (.head _)))))))))))))) (by intro hc; (simp only [List.length_set, List.length_append, List.length_cons, List.length_nil, List.length_replicate, List.length_take, List.length_drop, List.length_map]; omega)) rfl)) ?_
    refine sr rfl rfl rfl ((q_eql rfl rfl rfl)) (sr rfl rfl rfl ((q_and2 rfl rfl rfl)) (sr rfl rfl rfl ((q_move rfl rfl)) (sr rfl rfl rfl ((q_move rfl rfl)) ?_)))
    refine sw_xc rfl (by first | (simp [AllT]; done) | simp [AllT, *]) rfl rfl (e_buildLc (α := Int) (l := [2, 1]) rfl (.cons rfl inferInstance (.cons rfl inferInstance (.nil))) rfl rfl rfl rfl) (fun s127 => ?_)
    refine sw_step rfl rfl rfl (q_call (v := .bool true) (CanCall.mk Tryz.call23) rfl (.cons rfl inferInstance (.cons rfl inferInstance (.nil))) (fun _ w1 hw => callq hw (same_true _ _ [2, 1] [2, 1] rfl w1 (stb_own (e := 3) hw (by exact .tail _ (.tail _ (.tail _ (.tail _ (.tail _ (.tail _ (.tail _ (.tail _ (.tail _ (.tail _ (.tail _ (.tail _ (.head _)))))))))))))) (stb_own (e := 3) hw (by exact .head _))))) ?_
    refine sr rfl rfl rfl ((q_and2 rfl rfl rfl)) (sr rfl rfl rfl ((q_move rfl rfl)) (sr rfl rfl rfl ((q_move rfl rfl)) (sr rfl rfl rfl ((q_eql rfl rfl rfl)) (sr rfl rfl rfl ((q_and2 rfl rfl rfl)) (sr rfl rfl rfl ((q_move rfl rfl)) (sr rfl rfl rfl ((q_move rfl rfl)) ?_))))))
    refine sw_xc rfl (by first | (simp [AllT]; done) | simp [AllT, *]) rfl rfl (e_buildLc (α := Int) (l := [0, 1]) rfl (.cons rfl inferInstance (.cons rfl inferInstance (.nil))) rfl rfl rfl rfl) (fun s136 => ?_)
    refine sw_step rfl rfl rfl (q_call (v := .bool true) (CanCall.mk Tryz.call23) rfl (.cons rfl inferInstance (.cons rfl inferInstance (.nil))) (fun _ w1 hw => callq hw (same_true _ _ [0, 1] [0, 1] rfl w1 (stb_own (e := 3) hw (by exact .tail _ (.tail _ (.tail _ (.tail _ (.tail _ (.tail _ (.tail _ (.head _))))))))) (stb_own (e := 3) hw (by exact .head _))))) ?_
    refine sr rfl rfl rfl ((q_and2 rfl rfl rfl)) (sr rfl rfl rfl ((q_move rfl rfl)) (sr rfl rfl rfl ((q_move rfl rfl)) (sr rfl rfl rfl ((q_eql rfl rfl rfl)) (sr rfl rfl rfl ((q_and2 rfl rfl rfl)) (sr rfl rfl rfl ((q_move rfl rfl)) (sr rfl rfl rfl ((q_move rfl rfl)) (sr rfl rfl rfl ((q_eql rfl rfl rfl)) (sr rfl rfl rfl ((q_and2 rfl rfl rfl)) (sr rfl rfl rfl ((q_assign rfl rfl)) (sw_nil (post_then (cw_ret (post_ret1 rfl (resOk_tmp rfl) ?_)))))))))))))
    exact fun w' hw => ⟨rfl, (fun w h => Cl.sel (by exact .nil _) w h) _ hw⟩
end Go.Proofs.YtomjbfeafodfbaaGreat

set_option autoImplicit false
set_option maxRecDepth 100000
namespace Go.Proofs.YtomjbfeafodfbaaGreat
open Go.Sx
open Enc (enc val)
def shortB (s : ByteArray) : Bool := decide ((s.size : Int) ≤ 12)
theorem short_spec (s : ByteArray) (w : World) : Calls Tryz.prog 62 #[.string s] w fun e w' => e = .returned (.bool (shortB s)) ∧ Cl w [] [] w' := by
  refine calls_cw (vs := [_]) Tryz.func62 rfl Tryz.ntmps62 rfl (Cl.start0 w) (cw_seq (cw_region (sr rfl rfl rfl ((q_assign rfl rfl)) (sw_nil (post_then (cw_seq (cw_region (sr rfl rfl rfl ((q_move rfl rfl)) (sr rfl rfl rfl ((q_lenS rfl (.cons rfl inferInstance (.nil)) Tryz.underlying9)) (sr rfl rfl rfl ((q_leq rfl rfl rfl)) (sr rfl rfl rfl ((q_assign rfl rfl)) (sw_nil (post_then (cw_ret (post_ret1 rfl (resOk_tmp rfl) ?_)))))))))))))))
  exact fun w' hw => ⟨rfl, hw⟩
def smallU (u : Un) : Bool := shortB u.phone && shortB u.before && shortB u.after && decide (u.bl.length ≤ 50) && decide (u.el.length ≤ 50)
def smallT (t : Wan) : Bool := shortB t.phone && shortB t.before && shortB t.after
def sizesB (p : List Un) (tgt : List Wan) (mu mt : Int) : Bool := decide (((p.length : Int) ≤ mu ∨ 2000 < p.length) ∧ p.length ≤ 2100 ∧ ((tgt.length : Int) ≤ mt ∨ 500 < tgt.length) ∧ tgt.length ≤ 600)
def smallB (p : List Un) (tgt : List Wan) (mu mt : Int) : Bool := sizesB p tgt mu mt && p.all smallU && tgt.all smallT
structure VoIn (w : World) (sp : SlV) (p : List Un) : Prop where
  l : RdL sp.v p w
  u : ∀ u ∈ p, UnIn u w
theorem VoIn.stb {w : World} {sp : SlV} {p : List Un} (h : VoIn w sp p) : Stb w [] (fun w' => VoIn w' sp p) := ⟨fun w' k => ⟨(rd_stb h.l).stb w' k, fun u hu => ⟨(h.u u hu).s1, (h.u u hu).s2, (h.u u hu).s3, (rd_stb (h.u u hu).b).stb w' k, (rd_stb (h.u u hu).e).stb w' k⟩⟩⟩
theorem small_vo {w : World} {sp : SlV} {p : List Un} {tgt : List Wan} {mu mt : Int} (h : VoIn w sp p) (hs : smallB p tgt mu mt = true) : VoRd w sp p := by
  simp only [smallB, Bool.and_eq_true] at hs
  refine ⟨rd_stb h.l, fun u hu => ?_⟩
  have h1 := List.all_eq_true.1 hs.1.2 u hu
  simp only [smallU, shortB, Bool.and_eq_true, decide_eq_true_eq] at h1
  have h2 := h.u u hu
  exact ⟨by omega, by omega, by omega, rd_stb h2.b, rd_stb h2.e⟩
theorem small_ta {p : List Un} {tgt : List Wan} {mu mt : Int} (hs : smallB p tgt mu mt = true) : ∀ t ∈ tgt, WaRd t := by
  simp only [smallB, Bool.and_eq_true] at hs
  intro t ht
  have h1 := List.all_eq_true.1 hs.2 t ht
  simp only [smallT, shortB, Bool.and_eq_true, decide_eq_true_eq] at h1
  exact ⟨by omega, by omega, by omega⟩
theorem small_n {p : List Un} {tgt : List Wan} {mu mt : Int} (hs : smallB p tgt mu mt = true) : ((p.length : Int) ≤ mu ∨ 2000 < p.length) ∧ ((tgt.length : Int) ≤ mt ∨ 500 < tgt.length) ∧ p.length ≤ 2100 ∧ tgt.length ≤ 600 := by
  simp only [smallB, sizesB, Bool.and_eq_true, decide_eq_true_eq] at hs
  exact ⟨hs.1.1.1, hs.1.1.2.2.1, hs.1.1.2.1, hs.1.1.2.2.2⟩
theorem small_spec (sp tp : SlV) (p : List Un) (tgt : List Wan) (mu mt : Int) (w : World) (hvo : VoIn w sp p) (htp : Stb w [] (RdL tp.v tgt)) : Calls Tryz.prog 17 #[sp.v, tp.v, .int .i64 mu, .int .i64 mt] w fun e w' => e = .returned (.bool (smallB p tgt mu mt)) ∧ Cl w [] [] w' := by
  have h1 : Stb w [] (RdL sp.v p) := rd_stb hvo.l
  have hL := rd_len hvo.l
  have hL2 := rd_len htp.here
  refine calls_cw (vs := [_, _, _, _]) Tryz.func17 rfl Tryz.ntmps17 rfl (Cl.start0 w) (cw_seq (cw_region (sr rfl rfl rfl ((q_assign rfl rfl)) (sw_nil (post_then (cw_seq (cw_seq (cw_region (sr rfl rfl rfl ((q_move rfl rfl)) ?_)))))))))
  refine sr rfl rfl rfl ((q_len rfl (.cons rfl inferInstance (.nil)) (by exact fun w hw => Stb.cl (by assumption) hw))) ?_
  refine sr rfl rfl rfl ((q_move rfl rfl)) (sr rfl rfl rfl ((q_gtr rfl rfl rfl)) (sr rfl rfl rfl ((q_move rfl rfl)) (sr rfl rfl rfl ((q_move rfl rfl)) ?_)))
  refine sr rfl rfl rfl ((q_len rfl (.cons rfl inferInstance (.nil)) (by exact fun w hw => Stb.cl (by assumption) hw))) ?_
  refine sr rfl rfl rfl ((q_leq rfl rfl rfl)) (sr rfl rfl rfl ((q_and2 rfl rfl rfl)) (sr rfl rfl rfl ((q_move rfl rfl)) (sr rfl rfl rfl ((q_move rfl rfl)) ?_)))
  refine sr rfl rfl rfl ((q_len rfl (.cons rfl inferInstance (.nil)) (by exact fun w hw => Stb.cl (by assumption) hw))) ?_
  refine sr rfl rfl rfl ((q_gtr rfl rfl rfl)) (sr rfl rfl rfl ((q_or2 rfl rfl rfl)) (sr rfl rfl rfl ((q_move rfl rfl)) (sr rfl rfl rfl ((q_move rfl rfl)) ?_)))
  refine sr rfl rfl rfl ((q_len rfl (.cons rfl inferInstance (.nil)) (by exact fun w hw => Stb.cl (by assumption) hw))) ?_
  refine sr rfl rfl rfl ((q_move rfl rfl)) (sr rfl rfl rfl ((q_gtr rfl rfl rfl)) (sr rfl rfl rfl ((q_move rfl rfl)) (sr rfl rfl rfl ((q_move rfl rfl)) ?_)))
  refine sr rfl rfl rfl ((q_len rfl (.cons rfl inferInstance (.nil)) (by exact fun w hw => Stb.cl (by assumption) hw))) ?_
  refine sr rfl rfl rfl ((q_leq rfl rfl rfl)) (sr rfl rfl rfl ((q_and2 rfl rfl rfl)) (sr rfl rfl rfl ((q_or2 rfl rfl rfl)) (sr rfl rfl rfl ((q_move rfl rfl)) (sr rfl rfl rfl ((q_move rfl rfl)) ?_))))
  refine sr rfl rfl rfl ((q_len rfl (.cons rfl inferInstance (.nil)) (by exact fun w hw => Stb.cl (by assumption) hw))) ?_
  refine sr rfl rfl rfl ((q_gtr rfl rfl rfl)) (sr rfl rfl rfl ((q_or2 rfl rfl rfl)) (sw_nil (post_then ?_)))
  refine cw_cond rfl (fun h => ?_) (fun h => ?_)
  · skip
    have h2 : sizesB p tgt mu mt = false := by
      simp only [sizesB, decide_eq_false_iff_not]
      simp only [Bool.or_eq_true, Bool.and_eq_true, decide_eq_true_eq] at h
      omega
    refine cw_seq (cw_region (sr rfl rfl rfl ((q_assign rfl rfl)) (sw_nil (post_then (cw_ret (post_then_r (post_ret1 rfl (resOk_tmp rfl) ?_)))))))
    exact fun w' hw => ⟨by rw [smallB, h2]; rfl, hw⟩
  · skip
    have h2 : sizesB p tgt mu mt = true := by
      simp only [sizesB, decide_eq_true_eq]
      simp only [Bool.or_eq_false_iff, Bool.and_eq_false_iff, decide_eq_false_iff_not] at h
      omega
    have hno : ∀ {b : Bool}, b = false → (sizesB p tgt mu mt && p.all smallU && b) = false := fun h => by rw [h, Bool.and_false]
    refine cw_skip (post_then (cw_seq (cw_seq (cw_region (sr rfl rfl rfl ((q_assign rfl rfl)) (sw_nil (post_then (cw_block ?_))))))))
    refine cw_loop (S := Nat) (fun k => [(0, [], sp.v), (1, [], tp.v), (9, [], .int .i64 k)]) (fun _ => Cl w [] []) (fun k => k ≤ p.length ∧ ∀ j, j < k → smallU (nth p j) = true) (fun k => p.length - k) 0 ⟨Nat.zero_le _, fun j hj => by omega⟩ (by exact .cons rfl (.cons rfl (.cons rfl .nil))) (fun _ h => h) ?_
    rintro k ⟨hk, he⟩
    refine cw_seq (cw_seq (cw_region (sr rfl rfl rfl ((q_move rfl rfl)) (sr rfl rfl rfl ((q_move rfl rfl)) ?_))))
    refine sr rfl rfl rfl ((q_len rfl (.cons rfl inferInstance (.nil)) (by exact fun w hw => Stb.cl (by assumption) hw))) ?_
    refine sr rfl rfl rfl ((q_lss rfl rfl rfl)) (sw_nil (post_then ?_))
    refine cw_cond rfl (fun h3 => ?_) (fun h3 => ?_)
    · skip
      have hk' : k < p.length := by simp only [decide_eq_true_eq] at h3; omega
      have hin := hvo.u _ (nth_mem hk')
      have l1 : (nth p k).bs.len = (nth p k).bl.length := (rd_lens hin.b).1
      have l2 : (nth p k).es.len = (nth p k).el.length := (rd_lens hin.e).1
      refine cw_skip (post_then (cw_seq (cw_block (cw_seq (cw_region (sr rfl rfl rfl ((q_move rfl rfl)) (sr rfl rfl rfl ((q_move rfl rfl)) ?_)))))))
      refine sr rfl rfl rfl ((q_indexN rfl rfl rfl (by exact fun w hw => Stb.cl (by assumption) hw) (by intro hc; omega))) ?_
      refine sr rfl rfl rfl ((q_loadEl rfl rfl rfl (by exact fun w hw => Stb.cl (by assumption) hw) (by intro hc; omega))) ?_
      refine sw_x rfl rfl rfl (e_alloc rfl) (fun b10 => ?_)
      refine sw_eff0 rfl rfl (e_store (i := 0) rfl rfl rfl rfl rfl rfl rfl rfl) (sw_nil (post_then (cw_seq (cw_region (sr rfl rfl rfl ((q_fieldAddr rfl rfl)) ?_)))))
      refine sr rfl rfl rfl ((q_loadC rfl rfl (by exact .head _) rfl)) ?_
      refine sw_step rfl rfl rfl (q_call (CanCall.mk Tryz.call62) rfl (.cons rfl inferInstance (.nil)) (fun _ w hw => callq hw (short_spec _ w))) (sr rfl rfl rfl ((q_not rfl rfl)) (sr rfl rfl rfl ((q_move rfl rfl)) (sr rfl rfl rfl ((q_fieldAddr rfl rfl)) ?_)))
      refine sr rfl rfl rfl ((q_loadC rfl rfl (by exact .head _) rfl)) ?_
      refine sw_step rfl rfl rfl (q_call (CanCall.mk Tryz.call62) rfl (.cons rfl inferInstance (.nil)) (fun _ w hw => callq hw (short_spec _ w))) (sr rfl rfl rfl ((q_not rfl rfl)) (sr rfl rfl rfl ((q_or2 rfl rfl rfl)) (sr rfl rfl rfl ((q_move rfl rfl)) (sr rfl rfl rfl ((q_fieldAddr rfl rfl)) ?_))))
      refine sr rfl rfl rfl ((q_loadC rfl rfl (by exact .head _) rfl)) ?_
      refine sw_step rfl rfl rfl (q_call (CanCall.mk Tryz.call62) rfl (.cons rfl inferInstance (.nil)) (fun _ w hw => callq hw (short_spec _ w))) (sr rfl rfl rfl ((q_not rfl rfl)) (sr rfl rfl rfl ((q_or2 rfl rfl rfl)) (sr rfl rfl rfl ((q_move rfl rfl)) (sr rfl rfl rfl ((q_fieldAddr rfl rfl)) ?_))))
      refine sr rfl rfl rfl ((q_loadC rfl rfl (by exact .head _) rfl)) ?_
      refine sr rfl rfl rfl ((q_lenV rfl (.cons rfl inferInstance (.nil)))) (sr rfl rfl rfl ((q_gtr rfl rfl rfl)) (sr rfl rfl rfl ((q_or2 rfl rfl rfl)) (sr rfl rfl rfl ((q_move rfl rfl)) (sr rfl rfl rfl ((q_fieldAddr rfl rfl)) ?_))))
      refine sr rfl rfl rfl ((q_loadC rfl rfl (by exact .head _) rfl)) ?_
      refine sr rfl rfl rfl ((q_lenV rfl (.cons rfl inferInstance (.nil)))) (sr rfl rfl rfl ((q_gtr rfl rfl rfl)) (sr rfl rfl rfl ((q_or2 rfl rfl rfl)) (sw_nil (post_then ?_))))
      rw [l1, l2]
      refine cw_cond rfl (fun h4 => ?_) (fun h4 => ?_)
      · skip
        have h5 : smallU (nth p k) = false := by
          simp only [Bool.or_eq_true, Bool.not_eq_true', decide_eq_true_eq] at h4
          simp only [smallU, Bool.and_eq_false_iff, decide_eq_false_iff_not]
          rcases h4 with (((h4 | h4) | h4) | h4) | h4
          · exact .inl (.inl (.inl (.inl h4)))
          · exact .inl (.inl (.inl (.inr h4)))
          · exact .inl (.inl (.inr h4))
          · exact .inl (.inr (by omega))
          · exact .inr (by omega)
        have h6 : p.all smallU = false := List.all_eq_false.2 ⟨nth p k, nth_mem hk', by rw [h5]; decide⟩
        refine cw_seq (cw_region (sr rfl rfl rfl ((q_assign rfl rfl)) (sw_nil (post_then (cw_ret (post_blk_r (post_then_r (post_then_r (post_blk_r (post_then_r (post_ret1 rfl (resOk_tmp rfl) ?_)))))))))))
        exact fun w' hw => ⟨by rw [smallB, h6, Bool.and_false]; rfl, (fun w h => Cl.sel (by exact .nil _) w h) _ hw⟩
      · skip
        have h5 : smallU (nth p k) = true := by
          simp only [Bool.or_eq_false_iff, Bool.not_eq_false', decide_eq_false_iff_not] at h4
          obtain ⟨⟨⟨⟨a1, a2⟩, a3⟩, a4⟩, a5⟩ := h4
          simp only [smallU, a1, a2, a3, Bool.and_eq_true, decide_eq_true_eq, true_and]
          omega
        refine cw_skip (post_blk (post_then (cw_region (sr rfl rfl rfl ((q_move rfl rfl)) ?_))))
        refine sr rfl rfl rfl ((q_add rfl rfl rfl (by intro hc; omega))) ?_
        refine sr rfl rfl rfl ((q_assign rfl rfl)) (sw_nil ?_)
        refine post_next (k + 1) (by exact .cons rfl (.cons rfl (.cons rfl .nil))) (fun w h => Cl.sel (by exact .nil _) w h) ⟨by omega, fun j hj => ?_⟩ (by omega)
        by_cases e : j = k
        · subst e; exact h5
        · exact he j (by omega)
    · skip
      have hk' : k = p.length := by simp only [decide_eq_false_iff_not] at h3; omega
      subst hk'
      have h6 : p.all smallU = true := List.all_eq_true.2 fun u hu => by
        obtain ⟨j, hj, rfl⟩ := List.getElem_of_mem hu
        have := he j hj
        rwa [nth_get hj] at this
      refine cw_exit (post_then_x (post_then_x (post_blk_eq (post_then (cw_seq (cw_seq (cw_region (sr rfl rfl rfl ((q_assign rfl rfl)) (sw_nil (post_then (cw_block ?_)))))))))))
      refine cw_loop (S := Nat) (fun k => [(1, [], tp.v), (11, [], .int .i64 k)]) (fun _ => Cl w [] []) (fun k => k ≤ tgt.length ∧ ∀ j, j < k → smallT (nth tgt j) = true) (fun k => tgt.length - k) 0 ⟨Nat.zero_le _, fun j hj => by omega⟩ (by exact .cons rfl (.cons rfl .nil)) (fun _ h => h) ?_
      rintro k ⟨hk, he2⟩
      refine cw_seq (cw_seq (cw_region (sr rfl rfl rfl ((q_move rfl rfl)) (sr rfl rfl rfl ((q_move rfl rfl)) ?_))))
      refine sr rfl rfl rfl ((q_len rfl (.cons rfl inferInstance (.nil)) (by exact fun w hw => Stb.cl (by assumption) hw))) ?_
      refine sr rfl rfl rfl ((q_lss rfl rfl rfl)) (sw_nil (post_then ?_))
      refine cw_cond rfl (fun h4 => ?_) (fun h4 => ?_)
      · skip
        have hk' : k < tgt.length := by simp only [decide_eq_true_eq] at h4; omega
        refine cw_skip (post_then (cw_seq (cw_block (cw_seq (cw_region (sr rfl rfl rfl ((q_move rfl rfl)) (sr rfl rfl rfl ((q_move rfl rfl)) ?_)))))))
        refine sr rfl rfl rfl ((q_indexN rfl rfl rfl (by exact fun w hw => Stb.cl (by assumption) hw) (by intro hc; omega))) ?_
        refine sr rfl rfl rfl ((q_fieldEl rfl rfl (by exact fun w hw => Stb.cl (by assumption) hw) (by intro hc; omega))) ?_
        refine sr rfl rfl rfl ((q_loadF rfl rfl rfl (by exact fun w hw => Stb.cl (by assumption) hw) (by intro hc; omega) rfl)) ?_
        refine sw_step rfl rfl rfl (q_call (CanCall.mk Tryz.call62) rfl (.cons rfl inferInstance (.nil)) (fun _ w hw => callq hw (short_spec _ w))) (sr rfl rfl rfl ((q_not rfl rfl)) (sr rfl rfl rfl ((q_move rfl rfl)) (sr rfl rfl rfl ((q_move rfl rfl)) (sr rfl rfl rfl ((q_move rfl rfl)) ?_))))
        refine sr rfl rfl rfl ((q_indexN rfl rfl rfl (by exact fun w hw => Stb.cl (by assumption) hw) (by intro hc; omega))) ?_
        refine sr rfl rfl rfl ((q_fieldEl rfl rfl (by exact fun w hw => Stb.cl (by assumption) hw) (by intro hc; omega))) ?_
        refine sr rfl rfl rfl ((q_loadF rfl rfl rfl (by exact fun w hw => Stb.cl (by assumption) hw) (by intro hc; omega) rfl)) ?_
        refine sw_step rfl rfl rfl (q_call (CanCall.mk Tryz.call62) rfl (.cons rfl inferInstance (.nil)) (fun _ w hw => callq hw (short_spec _ w))) (sr rfl rfl rfl ((q_not rfl rfl)) (sr rfl rfl rfl ((q_or2 rfl rfl rfl)) (sr rfl rfl rfl ((q_move rfl rfl)) (sr rfl rfl rfl ((q_move rfl rfl)) (sr rfl rfl rfl ((q_move rfl rfl)) ?_)))))
        refine sr rfl rfl rfl ((q_indexN rfl rfl rfl (by exact fun w hw => Stb.cl (by assumption) hw) (by intro hc; omega))) ?_
        refine sr rfl rfl rfl ((q_fieldEl rfl rfl (by exact fun w hw => Stb.cl (by assumption) hw) (by intro hc; omega))) ?_
        refine sr rfl rfl rfl ((q_loadF rfl rfl rfl (by exact fun w hw => Stb.cl (by assumption) hw) (by intro hc; omega) rfl)) ?_
        refine sw_step rfl rfl rfl (q_call (CanCall.mk Tryz.call62) rfl (.cons rfl inferInstance (.nil)) (fun _ w hw => callq hw (short_spec _ w))) (sr rfl rfl rfl ((q_not rfl rfl)) (sr rfl rfl rfl ((q_or2 rfl rfl rfl)) (sw_nil (post_then ?_))))
        refine cw_cond rfl (fun h5 => ?_) (fun h5 => ?_)
        · skip
          have h7 : smallT (nth tgt k) = false := by
            simp only [Bool.or_eq_true, Bool.not_eq_true'] at h5
            simp only [smallT, Bool.and_eq_false_iff]
            exact h5
          have h8 : tgt.all smallT = false := List.all_eq_false.2 ⟨nth tgt k, nth_mem hk', by rw [h7]; decide⟩
          refine cw_seq (cw_region (sr rfl rfl rfl ((q_assign rfl rfl)) (sw_nil (post_then (cw_ret (post_blk_r (post_then_r (post_then_r (post_blk_r (post_then_r (post_ret1 rfl (resOk_tmp rfl) ?_)))))))))))
          exact fun w' hw => ⟨by rw [smallB, h8, Bool.and_false], (fun w h => Cl.sel (by exact .nil _) w h) _ hw⟩
        · skip
          have h7 : smallT (nth tgt k) = true := by
            simp only [Bool.or_eq_false_iff, Bool.not_eq_false'] at h5
            simp only [smallT, Bool.and_eq_true]
            exact h5
          refine cw_skip (post_blk (post_then (cw_region (sr rfl rfl rfl ((q_move rfl rfl)) ?_))))
          refine sr rfl rfl rfl ((q_add rfl rfl rfl (by intro hc; omega))) ?_
          refine sr rfl rfl rfl ((q_assign rfl rfl)) (sw_nil ?_)
          refine post_next (k + 1) (by exact .cons rfl (.cons rfl .nil)) (fun w h => Cl.sel (by exact .nil _) w h) ⟨by omega, fun j hj => ?_⟩ (by omega)
          by_cases e : j = k
          · subst e; exact h7
          · exact he2 j (by omega)
      · skip
        have hk' : k = tgt.length := by simp only [decide_eq_false_iff_not] at h4; omega
        subst hk'
        have h8 : tgt.all smallT = true := List.all_eq_true.2 fun u hu => by
          obtain ⟨j, hj, rfl⟩ := List.getElem_of_mem hu
          have := he2 j hj
          rwa [nth_get hj] at this
        refine cw_exit (post_then_x (post_then_x (post_blk_eq (post_then (cw_seq (cw_region (sr rfl rfl rfl ((q_assign rfl rfl)) (sw_nil (post_then (cw_ret (post_ret1 rfl (resOk_tmp rfl) ?_)))))))))))
        exact fun w' hw => ⟨by rw [smallB, h2, h6, h8]; rfl, hw⟩
theorem refAll_spec (tp : SlV) (tgt : List Wan) (w : World) (htp : Stb w [] (RdL tp.v tgt)) (hwa : ∀ t ∈ tgt, WaRd t) : Calls Tryz.prog 68 #[tp.v] w fun e w' => e = .returned (.bool (tgt.all waB)) ∧ Cl w [] [] w' := by
  have hL2 := rd_len htp.here
  refine calls_cw (vs := [_]) Tryz.func68 rfl Tryz.ntmps68 rfl (Cl.start0 w) (cw_seq (cw_region (sr rfl rfl rfl ((q_assign rfl rfl)) (sw_nil (post_then (cw_seq (cw_seq (cw_region (sr rfl rfl rfl ((q_assign rfl rfl)) (sw_nil (post_then (cw_block ?_))))))))))))
  refine cw_loop (S := Nat) (fun k => [(0, [], tp.v), (3, [], .int .i64 k)]) (fun _ => Cl w [] []) (fun k => k ≤ tgt.length ∧ ∀ j, j < k → waB (nth tgt j) = true) (fun k => tgt.length - k) 0 ⟨Nat.zero_le _, fun j hj => by omega⟩ (by exact .cons rfl (.cons rfl .nil)) (fun _ h => h) ?_
  rintro k ⟨hk, he⟩
  refine cw_seq (cw_seq (cw_region (sr rfl rfl rfl ((q_move rfl rfl)) (sr rfl rfl rfl ((q_move rfl rfl)) ?_))))
  refine sr rfl rfl rfl ((q_len rfl (.cons rfl inferInstance (.nil)) (by exact fun w hw => Stb.cl (by assumption) hw))) ?_
  refine sr rfl rfl rfl ((q_lss rfl rfl rfl)) (sw_nil (post_then ?_))
  refine cw_cond rfl (fun h => ?_) (fun h => ?_)
  · skip
    have hk' : k < tgt.length := by simp only [decide_eq_true_eq] at h; omega
    have hwk := hwa _ (nth_mem hk')
    refine cw_skip (post_then (cw_seq (cw_block (cw_seq (cw_region (sr rfl rfl rfl ((q_move rfl rfl)) (sr rfl rfl rfl ((q_move rfl rfl)) ?_)))))))
    refine sr rfl rfl rfl ((q_indexN rfl rfl rfl (by exact fun w hw => Stb.cl (by assumption) hw) (by intro hc; omega))) ?_
    refine sr rfl rfl rfl ((q_loadEl rfl rfl rfl (by exact fun w hw => Stb.cl (by assumption) hw) (by intro hc; omega))) ?_
    refine sw_step rfl rfl rfl (q_call (CanCall.mk Tryz.call47) rfl (.cons rfl inferInstance (.nil)) (fun _ w hw => callq hw (refWanted_spec (nth tgt k) w hwk))) (sr rfl rfl rfl ((q_not rfl rfl)) (sw_nil (post_then ?_)))
    refine cw_cond rfl (fun h2 => ?_) (fun h2 => ?_)
    · skip
      have h3 : tgt.all waB = false := List.all_eq_false.2 ⟨nth tgt k, nth_mem hk', by simpa using h2⟩
      refine cw_seq (cw_region (sr rfl rfl rfl ((q_assign rfl rfl)) (sw_nil (post_then (cw_ret (post_blk_r (post_then_r (post_then_r (post_blk_r (post_then_r (post_ret1 rfl (resOk_tmp rfl) ?_)))))))))))
      exact fun w' hw => ⟨by rw [h3], hw⟩
    · skip
      refine cw_skip (post_blk (post_then (cw_region (sr rfl rfl rfl ((q_move rfl rfl)) ?_))))
      refine sr rfl rfl rfl ((q_add rfl rfl rfl (by intro hc; omega))) ?_
      refine sr rfl rfl rfl ((q_assign rfl rfl)) (sw_nil ?_)
      refine post_next (k + 1) (by exact .cons rfl (.cons rfl .nil)) (fun _ h => h) ⟨by omega, fun j hj => ?_⟩ (by omega)
      by_cases e : j = k
      · subst e; simpa using h2
      · exact he j (by omega)
  · skip
    have hk' : k = tgt.length := by simp only [decide_eq_false_iff_not] at h; omega
    subst hk'
    have h3 : tgt.all waB = true := List.all_eq_true.2 fun u hu => by
      obtain ⟨j, hj, rfl⟩ := List.getElem_of_mem hu
      have := he j hj
      rwa [nth_get hj] at this
    refine cw_exit (post_then_x (post_then_x (post_blk_eq (post_then (cw_seq (cw_region (sr rfl rfl rfl ((q_assign rfl rfl)) (sw_nil (post_then (cw_ret (post_ret1 rfl (resOk_tmp rfl) ?_)))))))))))
    exact fun w' hw => ⟨by rw [h3], hw⟩
theorem wrong_spec (sp tp : SlV) (p : List Un) (tgt : List Wan) (x : Wts) (w : World) (hvo : VoRd w sp p) (htp : Stb w [] (RdL tp.v tgt)) (hwa : ∀ t ∈ tgt, WaRd t) : Calls Tryz.prog 20 #[sp.v, tp.v, val x] w fun e w' => e = .returned (.int .i64 (beginE p tgt x)) ∧ Cl w [] [] w' := by
  have h1 := hvo.l
  refine calls_cw (vs := [_, _, _]) Tryz.func20 rfl Tryz.ntmps20 rfl (Cl.start0 w) (cw_seq (cw_region ?_))
  refine sw_x rfl rfl rfl (e_box rfl rfl rfl) (fun b5 => ?_)
  refine sr rfl rfl rfl ((q_assign rfl rfl)) (sw_nil (post_then (cw_seq (cw_seq (cw_region (sr rfl rfl rfl ((q_move rfl rfl)) ?_))))))
  refine sr rfl rfl rfl ((q_len rfl (.cons rfl inferInstance (.nil)) (by exact fun w hw => Stb.cl (by assumption) hw))) ?_
  refine sr rfl rfl rfl ((q_gtr rfl rfl rfl)) (sr rfl rfl rfl ((q_move rfl rfl)) (sr rfl rfl rfl ((q_move rfl rfl)) ?_))
  refine sr rfl rfl rfl ((q_len rfl (.cons rfl inferInstance (.nil)) (by exact fun w hw => Stb.cl (by assumption) hw))) ?_
  refine sr rfl rfl rfl ((q_gtr rfl rfl rfl)) (sr rfl rfl rfl ((q_or2 rfl rfl rfl)) (sw_nil (post_then ?_)))
  refine cw_cond rfl (fun h => ?_) (fun h => ?_)
  · skip
    have h2 : 2000 < p.length ∨ 500 < tgt.length := by
      simp only [Bool.or_eq_true, decide_eq_true_eq] at h; omega
    refine cw_seq (cw_region (sr rfl rfl rfl ((q_assign rfl rfl)) (sw_nil (post_then (cw_ret (post_then_r (post_ret1 rfl (resOk_tmp rfl) ?_)))))))
    exact fun w' hw => ⟨by rw [beginE, if_pos h2], (fun w h => Cl.sel (by exact .nil _) w h) _ hw⟩
  · skip
    have h2 : ¬ (2000 < p.length ∨ 500 < tgt.length) := by
      simp only [Bool.or_eq_false_iff, decide_eq_false_iff_not] at h; omega
    refine cw_skip (post_then (cw_seq (cw_seq (cw_region (sr rfl rfl rfl ((q_move rfl rfl)) (sw_step rfl rfl rfl (q_call (CanCall.mk Tryz.call28) rfl (.cons rfl inferInstance (.nil)) (fun _ w hw => callq hw (refVoice_spec sp p w (hvo.arg hw)))) (sr rfl rfl rfl ((q_not rfl rfl)) (sr rfl rfl rfl ((q_move rfl rfl)) (sr rfl rfl rfl ((q_move rfl rfl)) (sw_step rfl rfl rfl (q_call (CanCall.mk Tryz.call68) rfl (.cons rfl inferInstance (.nil)) (fun _ w hw => callq hw (refAll_spec tp tgt w (stb_arg hw htp) hwa))) (sr rfl rfl rfl ((q_not rfl rfl)) (sr rfl rfl rfl ((q_or2 rfl rfl rfl)) (sr rfl rfl rfl ((q_move rfl rfl)) ?_)))))))))))))
    refine sr rfl rfl rfl ((q_loadA rfl rfl (by exact .head _) rfl)) ?_
    refine sw_step rfl rfl rfl (q_call (CanCall.mk Tryz.call48) rfl (.cons rfl inferInstance (.nil)) (fun _ w hw => callq hw (refWeights_spec x w))) (sr rfl rfl rfl ((q_not rfl rfl)) (sr rfl rfl rfl ((q_or2 rfl rfl rfl)) (sw_nil (post_then ?_))))
    refine cw_cond rfl (fun h3 => ?_) (fun h3 => ?_)
    · skip
      have h4 : (voiceB p && tgt.all waB && wtB x) = false := by
        simp only [Bool.or_eq_true, Bool.not_eq_true'] at h3
        simp only [Bool.and_eq_false_iff]; exact h3
      refine cw_seq (cw_region (sr rfl rfl rfl ((q_assign rfl rfl)) (sw_nil (post_then (cw_ret (post_then_r (post_ret1 rfl (resOk_tmp rfl) ?_)))))))
      exact fun w' hw => ⟨by rw [beginE, if_neg h2, h4]; rfl, (fun w h => Cl.sel (by exact .nil _) w h) _ hw⟩
    · skip
      have h4 : (voiceB p && tgt.all waB && wtB x) = true := by
        simp only [Bool.or_eq_false_iff, Bool.not_eq_false'] at h3
        simp only [Bool.and_eq_true]; exact h3
      refine cw_skip (post_then (cw_seq (cw_region (sr rfl rfl rfl ((q_assign rfl rfl)) (sw_nil (post_then (cw_ret (post_ret1 rfl (resOk_tmp rfl) ?_))))))))
      exact fun w' hw => ⟨by rw [beginE, if_neg h2, h4]; rfl, (fun w h => Cl.sel (by exact .nil _) w h) _ hw⟩
end Go.Proofs.YtomjbfeafodfbaaGreat

set_option autoImplicit false
namespace Go.Proofs.YtomjbfeafodfbaaGreat
open Go.Sx
theorem vo_in {W : World} {s : SlV} {l : List Un} (h : Stb W [] (rdSl dUn.rd s l)) : VoIn W s l := by
  obtain ⟨ls, h1, h2, h3⟩ := h.here
  have e : ls = l := List.ext_getElem h2 fun i hi hj => (h3 i _ _ (List.getElem?_eq_getElem hi) (List.getElem?_eq_getElem hj)).1
  subst e
  refine ⟨h1, fun u hu => ?_⟩
  obtain ⟨i, hi, rfl⟩ := List.getElem_of_mem hu
  exact (h3 i _ _ (List.getElem?_eq_getElem hi) (List.getElem?_eq_getElem hi)).2
theorem unIn_arg {w0 w : World} {H : List Asn} {u : Un} (hw : Cl w0 [] H w) (h : UnIn u w0) : UnIn u w := ⟨h.s1, h.s2, h.s3, (stb_arg hw (rd_stb h.b)).here, (stb_arg hw (rd_stb h.e)).here⟩
theorem voIn_arg {w0 w : World} {H : List Asn} {sp : SlV} {p : List Un} (hw : Cl w0 [] H w) (h : VoIn w0 sp p) : VoIn w sp p := h.stb.cl hw |> fun x => x
end Go.Proofs.YtomjbfeafodfbaaGreat

/- The best sequence, chosen step by step out of the certificate. Plain lemmas, no program text. -/
set_option autoImplicit false
namespace Go.Sx
/-- The least of a list, -1 of none. -/
def mn : List Int → Int
  | [] => -1
  | x :: r => r.foldl min x
theorem mn_snoc (l : List Int) (x : Int) : mn (l ++ [x]) = if l = [] then x else min (mn l) x := by
  cases l with
  | nil => rfl
  | cons y r => simp [mn]
theorem minL_mn {l : List Int} (hl : l ≠ []) (hb : ∀ x ∈ l, x ≤ 9223372036854775807) : minL l = mn l := by
  cases l with
  | nil => exact absurd rfl hl
  | cons x r =>
    have h := hb x (by simp)
    simp only [minL, mn, List.foldl_cons]
    rw [show min 9223372036854775807 x = x by omega]
namespace Tsk
variable (t : Tsk)
def jn (last : Option Int) (v : Int) : Int := match last with
  | some u => t.J u v
  | none => 0
def mi (k : Nat) (last : Option Int) : Int := minL ((t.us (t.T - k)).map fun v => t.jn last v + t.R k v)
def gr : Nat → Option Int → List Int
  | 0, _ => []
  | k + 1, last => match (t.us (t.T - (k + 1))).find? fun v => decide (t.jn last v + t.R (k + 1) v = t.mi (k + 1) last) with
    | some v => v :: gr k (some v)
    | none => []
/-- The units for a target rise. -/
def Rise : Prop := ∀ i, (t.us i).Pairwise (· < ·)
/-- No sum is as great as the greatest int. -/
def Low : Prop := ∀ k last v, k ≤ t.T → 1 ≤ k → v ∈ t.us (t.T - k) → (∀ u, last = some u → u ∈ t.us (t.T - (k + 1))) → t.jn last v + t.R k v ≤ 9223372036854775807
variable {t}
theorem mi_mem {k : Nat} {last : Option Int} (hne : t.us (t.T - k) ≠ []) (hb : ∀ v ∈ t.us (t.T - k), t.jn last v + t.R k v ≤ 9223372036854775807) : ∃ v ∈ t.us (t.T - k), t.jn last v + t.R k v = t.mi k last := by
  have := minL_mem (l := (t.us (t.T - k)).map fun v => t.jn last v + t.R k v) (by simpa using hne) (fun x hx => by
    obtain ⟨v, hv, rfl⟩ := List.mem_map.1 hx
    exact hb v hv)
  obtain ⟨v, hv, he⟩ := List.mem_map.1 this
  exact ⟨v, hv, he⟩
theorem mi_le {k : Nat} {last : Option Int} {v : Int} (hv : v ∈ t.us (t.T - k)) : t.mi k last ≤ t.jn last v + t.R k v := minL_le (List.mem_map_of_mem hv)
theorem find_first {l : List Int} (hl : l.Pairwise (· < ·)) {p : Int → Bool} {v : Int} (h : l.find? p = some v) : v ∈ l ∧ p v = true ∧ ∀ u ∈ l, p u = true → v ≤ u := by
  induction l with
  | nil => simp at h
  | cons x r ih =>
    rw [List.find?_cons] at h
    have hp := List.pairwise_cons.1 hl
    cases hx : p x with
    | true =>
      rw [hx] at h
      cases h
      refine ⟨by simp, hx, fun u hu _ => ?_⟩
      rcases List.mem_cons.1 hu with rfl | hu
      · exact Int.le_refl _
      · exact Int.le_of_lt (hp.1 u hu)
    | false =>
      rw [hx] at h
      obtain ⟨h1, h2, h3⟩ := ih hp.2 h
      refine ⟨by simp [h1], h2, fun u hu hpu => ?_⟩
      rcases List.mem_cons.1 hu with rfl | hu
      · rw [hx] at hpu; cases hpu
      · exact h3 u hu hpu
theorem gr_best (hr : t.Rise) (hp : ∀ i, i < t.T → t.us i ≠ []) (hb : ∀ k last v, k ≤ t.T → 1 ≤ k → v ∈ t.us (t.T - k) → (∀ u, last = some u → u ∈ t.us (t.T - (k + 1))) → t.jn last v + t.R k v ≤ 9223372036854775807) :
    ∀ (k : Nat) (last : Option Int), k ≤ t.T → 1 ≤ k → (∀ u, last = some u → u ∈ t.us (t.T - (k + 1))) → ∃ v r, t.gr k last = v :: r ∧ v :: r ∈ t.tl k ∧ t.jn last v + t.tc (t.T - k) (v :: r) = t.mi k last ∧
      ∀ v' r', v' :: r' ∈ t.tl k → v' :: r' = v :: r ∨ t.mi k last < t.jn last v' + t.tc (t.T - k) (v' :: r') ∨ (t.mi k last = t.jn last v' + t.tc (t.T - k) (v' :: r') ∧ lexLt (v :: r) (v' :: r') = true)
  | 0, _, _, h, _ => by omega
  | k + 1, last, hk, _, hlast => by
    obtain ⟨w, hw1, hw2⟩ := mi_mem (k := k + 1) (last := last) (hp _ (by omega)) (fun v hv => hb (k + 1) last v hk (by omega) hv hlast)
    cases hf : (t.us (t.T - (k + 1))).find? fun v => decide (t.jn last v + t.R (k + 1) v = t.mi (k + 1) last) with
    | none =>
      have := List.find?_eq_none.1 hf w hw1
      simp [hw2] at this
    | some v =>
      obtain ⟨h1, h2, h3⟩ := find_first (hr _) hf
      simp only [decide_eq_true_eq] at h2
      have hg : t.gr (k + 1) last = v :: t.gr k (some v) := by rw [gr, hf]
      by_cases h0 : k = 0
      · subst h0
        refine ⟨v, [], by rw [hg]; rfl, ?_, ?_, fun v' r' hv' => ?_⟩
        · simp only [tl, List.mem_flatMap, List.map_cons, List.map_nil]
          exact ⟨v, h1, by simp⟩
        · rw [← h2]; simp [tc, R]
        · simp only [tl, List.mem_flatMap, List.map_cons, List.map_nil, List.mem_singleton, List.cons.injEq] at hv'
          obtain ⟨u, hu, rfl, rfl⟩ := hv'
          have hle := mi_le (last := last) hu
          have e : t.tc (t.T - (0 + 1)) [v'] = t.R (0 + 1) v' := by simp [tc, R]
          rw [e]
          by_cases e1 : v' = v
          · left; rw [e1]
          · by_cases e2 : t.jn last v' + t.R (0 + 1) v' = t.mi (0 + 1) last
            · right; right
              refine ⟨e2.symm, ?_⟩
              have := h3 v' hu (by simpa using e2)
              simp only [lexLt]
              simp; omega
            · right; left; omega
      · have hmem : v ∈ t.us (t.T - (k + 1)) := h1
        obtain ⟨v2, r2, g1, g2, g3, g4⟩ := gr_best hr hp hb k (some v) (by omega) (by omega) (fun u hu => by cases hu; exact hmem)
        have eT : t.T - (k + 1) + 1 = t.T - k := by omega
        have hR : ∀ u, t.R (k + 1) u = t.F (t.T - (k + 1)) u + t.mi k (some u) := fun u => by rw [R, if_neg h0]; rfl
        have htc : ∀ u a s, t.tc (t.T - (k + 1)) (u :: a :: s) = t.F (t.T - (k + 1)) u + (t.jn (some u) a + t.tc (t.T - k) (a :: s)) := fun u a s => by rw [tc, eT]; simp only [jn]; omega
        refine ⟨v, v2 :: r2, by rw [hg, g1], ?_, ?_, fun v' r' hv' => ?_⟩
        · rw [tl]
          exact List.mem_flatMap.2 ⟨v, h1, List.mem_map_of_mem g2⟩
        · rw [htc, g3, ← hR]; exact h2
        · rw [tl] at hv'
          obtain ⟨u, hu, hm⟩ := List.mem_flatMap.1 hv'
          obtain ⟨s, hs, he⟩ := List.mem_map.1 hm
          simp only [List.cons.injEq] at he
          obtain ⟨rfl, rfl⟩ := he
          have hsl := t.tl_len k s hs
          match s, hsl with
          | [], hsl => simp only [List.length_nil] at hsl; omega
          | a :: s, _ =>
            have hle := mi_le (last := last) hu
            have hle2 : t.mi k (some u) ≤ t.jn (some u) a + t.tc (t.T - k) (a :: s) := by
              obtain ⟨v3, r3, _, _, _, q4⟩ := gr_best hr hp hb k (some u) (by omega) (by omega) (fun x hx => by cases hx; exact hu)
              rename_i q3
              rcases q4 a s hs with h5 | h5 | h5
              · simp only [List.cons.injEq] at h5
                obtain ⟨rfl, rfl⟩ := h5
                omega
              · omega
              · omega
            rw [htc]
            by_cases e1 : u = v
            · subst e1
              rcases g4 a s hs with h5 | h5 | ⟨h5, h6⟩
              · left; rw [h5]
              · right; left; have := hR u; omega
              · right; right
                have := hR u
                refine ⟨by omega, ?_⟩
                show (decide (u < u) || (decide (u = u) && lexLt (v2 :: r2) (a :: s))) = true
                rw [h6]; simp
            · by_cases e2 : t.jn last u + t.R (k + 1) u = t.mi (k + 1) last
              · have h7 := h3 u hu (by simpa using e2)
                have := hR u
                by_cases e3 : t.mi (k + 1) last < t.jn last u + (t.F (t.T - (k + 1)) u + (t.jn (some u) a + t.tc (t.T - k) (a :: s)))
                · exact .inr (.inl e3)
                · right; right
                  refine ⟨by omega, ?_⟩
                  simp only [lexLt]
                  simp; omega
              · right; left; have := hR u; omega
end Tsk
end Go.Sx

set_option autoImplicit false
set_option maxRecDepth 100000
namespace Go.Proofs.YtomjbfeafodfbaaGreat
open Go.Sx
open Enc (enc val)
theorem vo_bl {p : List Un} (h : voiceB p = true) {a b : Un} (ha : a ∈ p) (hb : b ∈ p) : a.el.length = b.bl.length := by
  simp only [voiceB, eqB, Bool.and_eq_true, List.all_eq_true, decide_eq_true_eq] at h
  have h1 := h.1.2 _ ha
  have h2 := h.1.2 _ hb
  omega
theorem vo_ok {p : List Un} (h : voiceB p = true) {a : Un} (ha : a ∈ p) : UnOk a := by
  simp only [voiceB, Bool.and_eq_true] at h
  exact un_ok (List.all_eq_true.1 h.1.1 _ ha)
def jz (x : Wts) (p : List Un) (u v : Int) : Int := if 0 ≤ u then joinC x (nth p u.toNat) (nth p v.toNat) else 0
def lsum (x : Wts) (p : List Un) (row : List Int) (u : Int) (v : Int) : Int := nth row v.toNat + jz x p u v
theorem jz_bd {x : Wts} {p : List Un} (hv : voiceB p = true) (hx : wtB x = true) {u : Int} (hu : u < p.length) {v : Nat} (hvp : v < p.length) : 0 ≤ jz x p u v ∧ jz x p u v ≤ 800000000 := by
  unfold jz
  split
  · rename_i h
    exact joinC_bd (wt_ok hx) (vo_ok hv (nth_mem (by omega))) (vo_ok hv (nth_mem (by omega)))
  · omega
theorem refLst_spec (sp tp sc : SlV) (p : List Un) (tgt : List Wan) (x : Wts) (cv : List SlV) (row : List Int) (i : Nat) (hi : i < tgt.length) (hic : i < cv.length) (u : Int) (hu : -1 ≤ u ∧ u < p.length) (hrow : row.length = p.length) (hb : ∀ v : Nat, -4611686018427387904 ≤ nth row v ∧ nth row v ≤ 4611686018427387904) (w : World)
    (hvo : VoRd w sp p) (htp : Stb w [] (RdL tp.v tgt)) (hcv : Stb w [] (RdL sc.v cv)) (hr : Stb w [] (RdL (nth cv i).v row)) (hE : beginE p tgt x = 0) :
    Calls Tryz.prog 69 #[sp.v, tp.v, val x, sc.v, .int .i64 i, .int .i64 u] w fun e w' => e = .returned (.int .i64 (mn ((idxs p p.length (nth tgt i).phone).map (lsum x p row u)))) ∧ Cl w [] [] w' := by
  have hvl := hvo.l
  have hL := rd_len hvl.here
  obtain ⟨-, -, hv1, hv2, hv3⟩ := beginE_ok hE
  refine calls_cw (vs := [_, _, _, _, _, _]) Tryz.func69 rfl Tryz.ntmps69 rfl (Cl.start0 w) (cw_seq (cw_region ?_))
  refine sw_x rfl rfl rfl (e_box rfl rfl rfl) (fun b8 => ?_)
  refine sr rfl rfl rfl ((q_assign rfl rfl)) (sw_nil (post_then (cw_seq (cw_region (sr rfl rfl rfl ((q_assign rfl rfl)) (sw_nil (post_then (cw_seq (cw_region (sr rfl rfl rfl ((q_assign rfl rfl)) (sw_nil (post_then (cw_seq (cw_seq (cw_region (sr rfl rfl rfl ((q_assign rfl rfl)) (sw_nil (post_then (cw_block ?_)))))))))))))))))))
  refine cw_loop (S := Nat) (fun k => [(0, [], sp.v), (1, [], tp.v), (3, [], sc.v), (4, [], .int .i64 i), (5, [], .int .i64 u), (8, [], .pointer (some ⟨b8, 0, none⟩)), (13, [], .int .i64 (mn ((idxs p k (nth tgt i).phone).map (lsum x p row u)))), (14, [], .bool (!(idxs p k (nth tgt i).phone).isEmpty)), (15, [], .int .i64 k)]) (fun _ => Cl w [] [blk b8 (enc x) 25]) (fun k => k ≤ p.length) (fun k => p.length - k) 0 (Nat.zero_le _) (by exact .cons rfl (.cons rfl (.cons rfl (.cons rfl (.cons rfl (.cons rfl (.cons rfl (.cons rfl (.cons rfl .nil))))))))) (fun _ h => h) ?_
  intro k hk
  have hss := idxs_succ p k (nth tgt i).phone
  refine cw_seq (cw_seq (cw_region (sr rfl rfl rfl ((q_move rfl rfl)) (sr rfl rfl rfl ((q_move rfl rfl)) ?_))))
  refine sr rfl rfl rfl ((q_len rfl (.cons rfl inferInstance (.nil)) (by exact fun w hw => Stb.cl (by assumption) hw))) ?_
  refine sr rfl rfl rfl ((q_lss rfl rfl rfl)) (sw_nil (post_then ?_))
  refine cw_cond rfl (fun h => ?_) (fun h => ?_)
  · skip
    have hk' : k < p.length := by simp only [decide_eq_true_eq] at h; omega
    have hbk := hb k
    have hjb := jz_bd hv1 hv3 hu.2 hk'
    refine cw_skip (post_then (cw_seq (cw_block (cw_seq (cw_seq ?_)))))
    refine cw_region_q mixed_Tryz (by kernel_rfl) ?_
    refine qr rfl rfl rfl ((q_move rfl rfl)) (qr rfl rfl rfl ((q_move rfl rfl)) ?_)
    refine qr rfl rfl rfl ((q_indexN rfl rfl rfl (by exact fun w hw => Stb.cl (by assumption) hw) (by intro hc; omega))) ?_
    refine qr rfl rfl rfl ((q_fieldEl rfl rfl (by exact fun w hw => Stb.cl (by assumption) hw) (by intro hc; omega))) ?_
    refine qr rfl rfl rfl ((q_loadF rfl rfl rfl (by exact fun w hw => Stb.cl (by assumption) hw) (by intro hc; omega) rfl)) ?_
    refine qr rfl rfl rfl ((q_move rfl rfl)) (qr rfl rfl rfl ((q_move rfl rfl)) ?_)
    refine qr rfl rfl rfl ((q_indexN rfl rfl rfl (by exact fun w hw => Stb.cl (by assumption) hw) (by intro hc; omega))) ?_
    refine qr rfl rfl rfl ((q_fieldEl rfl rfl (by exact fun w hw => Stb.cl (by assumption) hw) (by intro hc; omega))) ?_
    refine qr rfl rfl rfl ((q_loadF rfl rfl rfl (by exact fun w hw => Stb.cl (by assumption) hw) (by intro hc; omega) rfl)) ?_
    refine qr rfl rfl rfl ((q_neqStr rfl rfl rfl Tryz.underlying9)) (qw_end (post_then ?_))
    refine cw_cond rfl (fun h2 => ?_) (fun h2 => ?_)
    · skip
      have h3 : ¬ (nth p k).phone = (nth tgt i).phone := by simpa using h2
      rw [if_neg h3, List.append_nil] at hss
      refine cw_exit (post_then_x (post_blk_eq (post_then (cw_region (sr rfl rfl rfl ((q_move rfl rfl)) ?_)))))
      refine sr rfl rfl rfl ((q_add rfl rfl rfl (by intro hc; omega))) ?_
      refine sr rfl rfl rfl ((q_assign rfl rfl)) (sw_nil ?_)
      refine post_next (k + 1) ?_ (fun _ h => h) (by omega) (by omega)
      simp only [hss]
      exact (by exact .cons rfl (.cons rfl (.cons rfl (.cons rfl (.cons rfl (.cons rfl (.cons rfl (.cons rfl (.cons rfl .nil)))))))))
    · skip
      have h3 : (nth p k).phone = (nth tgt i).phone := by simpa using h2
      rw [if_pos h3] at hss
      refine cw_skip (post_then (cw_seq (cw_region (sr rfl rfl rfl ((q_move rfl rfl)) (sr rfl rfl rfl ((q_move rfl rfl)) ?_)))))
      refine sr rfl rfl rfl ((q_indexN rfl rfl rfl (by exact fun w hw => Stb.cl (by assumption) hw) (by intro hc; omega))) ?_
      refine sr rfl rfl rfl ((q_loadEl rfl rfl rfl (by exact fun w hw => Stb.cl (by assumption) hw) (by intro hc; omega))) ?_
      refine sr rfl rfl rfl ((q_move rfl rfl)) ?_
      refine sr rfl rfl rfl ((q_indexN rfl rfl rfl (by exact fun w hw => Stb.cl (by assumption) hw) (by intro hc; omega))) ?_
      refine sr rfl rfl rfl ((q_loadEl rfl rfl rfl (by exact fun w hw => Stb.cl (by assumption) hw) (by intro hc; omega))) ?_
      refine sr rfl rfl rfl ((q_assign rfl rfl)) (sw_nil (post_then (cw_seq (cw_seq (cw_region (sr rfl rfl rfl ((q_move rfl rfl)) (sr rfl rfl rfl ((q_geq rfl rfl rfl)) (sw_nil (post_then ?_)))))))))
      refine cw_cut (S := Unit) (fun _ => [(0, [], sp.v), (1, [], tp.v), (3, [], sc.v), (4, [], .int .i64 i), (5, [], .int .i64 u), (8, [], .pointer (some ⟨b8, 0, none⟩)), (13, [], .int .i64 (mn ((idxs p k (nth tgt i).phone).map (lsum x p row u)))), (14, [], .bool (!(idxs p k (nth tgt i).phone).isEmpty)), (15, [], .int .i64 k), (16, [], .int .i64 (lsum x p row u k))]) (fun _ => Cl w [] [blk b8 (enc x) 25]) (fun _ => True) ?_ ?_
      · refine cw_cond rfl (fun h4 => ?_) (fun h4 => ?_)
        · skip
          have h5 : 0 ≤ u := by simpa using h4
          have em : nth p u.toNat ∈ p := nth_mem (by omega)
          have ek : nth p k ∈ p := nth_mem hk'
          have ej : jz x p u k = joinC x (nth p u.toNat) (nth p k) := by rw [jz, if_pos h5]; simp
          rw [ej] at hjb
          have el : lsum x p row u k = nth row k + joinC x (nth p u.toNat) (nth p k) := by rw [lsum, ej]; simp
          refine cw_region_q mixed_Tryz (by kernel_rfl) ?_
          refine qr rfl rfl rfl ((q_move rfl rfl)) (qr rfl rfl rfl ((q_move rfl rfl)) (qr rfl rfl rfl ((q_move rfl rfl)) ?_))
          refine qr rfl rfl rfl ((q_index rfl rfl rfl (by exact fun w hw => Stb.cl (by assumption) hw) (by intro hc; omega))) ?_
          refine qr rfl rfl rfl ((q_loadEl rfl rfl rfl (by exact fun w hw => Stb.cl (by assumption) hw) (by intro hc; omega))) ?_
          refine qr rfl rfl rfl ((q_move rfl rfl)) (qr rfl rfl rfl ((q_move rfl rfl)) ?_)
          refine qr rfl rfl rfl ((q_indexN rfl rfl rfl (by exact fun w hw => Stb.cl (by assumption) hw) (by intro hc; omega))) ?_
          refine qr rfl rfl rfl ((q_loadEl rfl rfl rfl (by exact fun w hw => Stb.cl (by assumption) hw) (by intro hc; omega))) ?_
          refine qr rfl rfl rfl ((q_loadA rfl rfl (by exact .head _) rfl)) ?_
          refine qw_step rfl rfl rfl (q_call (CanCall.mk Tryz.call51) rfl (.cons rfl inferInstance (.cons rfl inferInstance (.cons rfl inferInstance (.nil)))) (fun _ w hw => callq hw (refJoin_spec (nth p u.toNat) (nth p k) x w ((hvo.arg hw).u _ em) ((hvo.arg hw).u _ ek) (vo_ok hv1 em) (vo_ok hv1 ek) (vo_bl hv1 em ek) (wt_ok hv3)))) ?_
          refine qr rfl rfl rfl ((q_add rfl rfl rfl (by intro hc; omega))) ?_
          refine qr rfl rfl rfl ((q_assign rfl rfl)) (qw_end ?_)
          refine post_meet () ?_ (fun _ h => h) trivial
          rw [el]
          exact (by exact .cons rfl (.cons rfl (.cons rfl (.cons rfl (.cons rfl (.cons rfl (.cons rfl (.cons rfl (.cons rfl (.cons rfl .nil))))))))))
        · skip
          have h5 : ¬ 0 ≤ u := by simpa using h4
          have el : lsum x p row u k = nth row k := by rw [lsum, jz, if_neg h5]; simp
          refine cw_skip ?_
          refine post_meet () ?_ (fun _ h => h) trivial
          rw [el]
          exact (by exact .cons rfl (.cons rfl (.cons rfl (.cons rfl (.cons rfl (.cons rfl (.cons rfl (.cons rfl (.cons rfl (.cons rfl .nil))))))))))
      · intro _ _
        refine post_then (cw_seq (cw_region (sr rfl rfl rfl ((q_move rfl rfl)) (sr rfl rfl rfl ((q_not rfl rfl)) (sr rfl rfl rfl ((q_move rfl rfl)) (sr rfl rfl rfl ((q_move rfl rfl)) (sr rfl rfl rfl ((q_move rfl rfl)) (sr rfl rfl rfl ((q_lss rfl rfl rfl)) (sr rfl rfl rfl ((q_or2 rfl rfl rfl)) (sw_nil (post_then ?_)))))))))))
        have hm : mn ((idxs p (k + 1) (nth tgt i).phone).map (lsum x p row u)) = if idxs p k (nth tgt i).phone = [] then lsum x p row u k else min (mn ((idxs p k (nth tgt i).phone).map (lsum x p row u))) (lsum x p row u k) := by
          rw [hss, List.map_append, List.map_cons, List.map_nil, mn_snoc]
          by_cases e : idxs p k (nth tgt i).phone = []
          · rw [e]; rfl
          · rw [if_neg e, if_neg (by simpa using e)]
        have hne : (idxs p (k + 1) (nth tgt i).phone).isEmpty = false := by rw [hss]; simp
        refine cw_cond rfl (fun h4 => ?_) (fun h4 => ?_)
        · skip
          have hm2 : mn ((idxs p (k + 1) (nth tgt i).phone).map (lsum x p row u)) = lsum x p row u k := by
            rw [hm]
            split
            · rfl
            · rename_i h6
              have h7 : (idxs p k (nth tgt i).phone).isEmpty = false := by simpa using h6
              rw [h7] at h4
              simp at h4
              omega
          refine cw_region (sr rfl rfl rfl ((q_move rfl rfl)) (sr rfl rfl rfl ((q_assign rfl rfl)) (sr rfl rfl rfl ((q_assign rfl rfl)) (sw_nil (post_blk (post_then (cw_region (sr rfl rfl rfl ((q_move rfl rfl)) ?_))))))))
          refine sr rfl rfl rfl ((q_add rfl rfl rfl (by intro hc; omega))) ?_
          refine sr rfl rfl rfl ((q_assign rfl rfl)) (sw_nil ?_)
          refine post_next (k + 1) ?_ (fun _ h => h) (by omega) (by omega)
          simp only [hm2, hne]
          exact (by exact .cons rfl (.cons rfl (.cons rfl (.cons rfl (.cons rfl (.cons rfl (.cons rfl (.cons rfl (.cons rfl .nil)))))))))
        · skip
          have h7 : (idxs p k (nth tgt i).phone).isEmpty = false := by
            cases h8 : (idxs p k (nth tgt i).phone).isEmpty
            · rfl
            · rw [h8] at h4; simp at h4
          have hm2 : mn ((idxs p (k + 1) (nth tgt i).phone).map (lsum x p row u)) = mn ((idxs p k (nth tgt i).phone).map (lsum x p row u)) := by
            rw [hm, if_neg (by simpa using h7)]
            rw [h7] at h4
            simp at h4
            omega
          refine cw_skip (post_blk (post_then (cw_region (sr rfl rfl rfl ((q_move rfl rfl)) ?_))))
          refine sr rfl rfl rfl ((q_add rfl rfl rfl (by intro hc; omega))) ?_
          refine sr rfl rfl rfl ((q_assign rfl rfl)) (sw_nil ?_)
          refine post_next (k + 1) ?_ (fun _ h => h) (by omega) (by omega)
          simp only [hm2, hne]
          rw [h7]
          exact (by exact .cons rfl (.cons rfl (.cons rfl (.cons rfl (.cons rfl (.cons rfl (.cons rfl (.cons rfl (.cons rfl .nil)))))))))
  · skip
    have hk' : k = p.length := by simp only [decide_eq_false_iff_not] at h; omega
    subst hk'
    refine cw_exit (post_then_x (post_then_x (post_blk_eq (post_then (cw_seq (cw_region (sr rfl rfl rfl ((q_move rfl rfl)) (sr rfl rfl rfl ((q_assign rfl rfl)) (sw_nil (post_then (cw_ret (post_ret1 rfl (resOk_tmp rfl) ?_))))))))))))
    exact fun w' hw => ⟨rfl, (fun w h => Cl.sel (by exact .nil _) w h) _ hw⟩
theorem idxs_rise (p : List Un) (c : ByteArray) : ∀ k, (idxs p k c).Pairwise (· < ·)
  | 0 => by simp [idxs]
  | k + 1 => by
    rw [idxs_succ]
    refine List.pairwise_append.2 ⟨idxs_rise p c k, ?_, fun a ha b hb => ?_⟩
    · split <;> simp
    · split at hb
      · simp only [List.mem_singleton] at hb
        have := (TK.idx_mem.1 ha).2.1
        omega
      · simp at hb
end Go.Proofs.YtomjbfeafodfbaaGreat

/- All sequences, built target by target; put in order by their costs. Plain lemmas, no program text. -/
set_option autoImplicit false
namespace Go.Sx
theorem seqLt_as {x y : List Int × Int} (h : seqLt x y) : ¬ seqLt y x := by
  intro k
  rcases h with h | ⟨h, h'⟩ <;> rcases k with k | ⟨k, k'⟩
  · omega
  · omega
  · omega
  · rw [lex_as _ _ h'] at k'; cases k'
/-- A sorted list that begins with the sorted smaller ones. -/
theorem take_sorted {α : Type} {r : α → α → Prop} (asy : ∀ a b, r a b → ¬ r b a) : ∀ {a b l : List α}, l.Pairwise r → l.Perm (a ++ b) → a.Pairwise r → (∀ x ∈ a, ∀ y ∈ b, r x y) → l.take a.length = a
  | [], _, _, _, _, _, _ => by simp
  | x :: a, b, l, hl, hp, ha, hab => by
    cases l with
    | nil => exact absurd hp.length_eq (by simp)
    | cons y l =>
      have h1 := List.pairwise_cons.1 ha
      have h2 := List.pairwise_cons.1 hl
      have hxl : x ∈ y :: l := hp.mem_iff.2 (by simp)
      have hy : y ∈ x :: a ++ b := hp.mem_iff.1 (by simp)
      have hyx : y = x := by
        rcases List.mem_cons.1 hxl with e | e
        · exact e.symm
        · exfalso
          have k1 := h2.1 x e
          rcases List.mem_append.1 hy with f | f
          · rcases List.mem_cons.1 f with g | g
            · subst g; exact asy _ _ k1 k1
            · exact asy _ _ k1 (h1.1 y g)
          · exact asy _ _ k1 (hab x (by simp) y f)
      subst hyx
      have := take_sorted asy (a := a) (b := b) h2.2 hp.cons_inv h1.2 (fun z hz => hab z (by simp [hz]))
      rw [List.length_cons, List.take_succ_cons, this]
/-- Where a sequence goes: behind those that do not cost more. -/
theorem ins_sorted {out : List (List Int × Int)} (hs : out.Pairwise seqLt) {x : List Int × Int} (hlex : ∀ o ∈ out, lexLt o.1 x.1 = true) {k : Nat} (hk : k ≤ out.length) (hhi : ∀ j, k ≤ j → j < out.length → x.2 < (nth out j).2) (hlo : k = 0 ∨ (nth out (k - 1)).2 ≤ x.2) : (out.take k ++ [x] ++ out.drop k).Pairwise seqLt := by
  have e : out = out.take k ++ out.drop k := (List.take_append_drop k out).symm
  rw [e] at hs
  obtain ⟨p1, p2, p3⟩ := List.pairwise_append.1 hs
  have hd : ∀ o ∈ out.drop k, x.2 < o.2 := fun o ho => by
    obtain ⟨i, hi, rfl⟩ := List.getElem_of_mem ho
    rw [List.length_drop] at hi
    have := hhi (k + i) (by omega) (by omega)
    rw [nth_get (by omega)] at this
    simpa using this
  have ht : ∀ o ∈ out.take k, o.2 ≤ x.2 := fun o ho => by
    rcases hlo with h | h
    · subst h; simp at ho
    · by_cases h0 : k = 0
      · subst h0; simp at ho
      · have e2 : out.take k = out.take (k - 1) ++ [nth out (k - 1)] := by
          have : k - 1 < out.length := by omega
          rw [nth_get this, ← List.take_succ_eq_append_getElem this, show k - 1 + 1 = k by omega]
        rw [e2] at ho p1
        rcases List.mem_append.1 ho with ho | ho
        · have := (List.pairwise_append.1 p1).2.2 o ho _ (List.mem_singleton.2 rfl)
          rcases this with f | ⟨f, _⟩ <;> omega
        · rw [List.mem_singleton.1 ho]; exact h
  refine List.pairwise_append.2 ⟨List.pairwise_append.2 ⟨p1, by simp, fun a ha b hb => ?_⟩, p2, fun a ha b hb => ?_⟩
  · simp only [List.mem_singleton] at hb
    subst hb
    have h1 := ht a ha
    by_cases e1 : a.2 = b.2
    · exact .inr ⟨e1, hlex a (List.mem_of_mem_take ha)⟩
    · exact .inl (by omega)
  · rcases List.mem_append.1 ha with ha | ha
    · exact p3 a ha b hb
    · simp only [List.mem_singleton] at ha
      subst ha
      exact .inl (hd b hb)
namespace Tsk
variable (t : Tsk)
/-- The beginnings with so many targets. -/
def pre : Nat → List (List Int)
  | 0 => [[]]
  | i + 1 => (pre i).flatMap fun s => (t.us i).map fun u => s ++ [u]
theorem pre_len : ∀ i, ∀ s ∈ t.pre i, s.length = i
  | 0, s, h => by simp [pre] at h; simp [h]
  | i + 1, s, h => by
    simp only [pre, List.mem_flatMap, List.mem_map] at h
    obtain ⟨s', hs, u, _, rfl⟩ := h
    simp [pre_len i s' hs]
theorem pre_mem : ∀ i, ∀ s ∈ t.pre i, ∀ k, k < i → nth s k ∈ t.us k
  | 0, _, _, k, hk => by omega
  | i + 1, s, h, k, hk => by
    simp only [pre, List.mem_flatMap, List.mem_map] at h
    obtain ⟨s', hs, u, hu, rfl⟩ := h
    have hl := pre_len t i s' hs
    by_cases e : k = i
    · subst e
      have : nth (s' ++ [u]) k = u := by simp only [nth, List.getD]; rw [List.getElem?_append_right (by omega)]; simp [hl]
      rw [this]; exact hu
    · have : nth (s' ++ [u]) k = nth s' k := by simp only [nth, List.getD]; rw [List.getElem?_append_left (by omega)]
      rw [this]; exact pre_mem i s' hs k (by omega)
theorem pre_tl : ∀ i k, i + k = t.T → t.tl t.T = (t.pre i).flatMap fun s => (t.tl k).map (s ++ ·)
  | 0, k, h => by simp only [pre, List.flatMap_cons, List.flatMap_nil, List.append_nil, List.nil_append]; rw [show t.T = k by omega]; simp
  | i + 1, k, h => by
    rw [pre_tl i (k + 1) (by omega), pre, List.flatMap_assoc]
    congr 1
    funext s
    rw [tl, show t.T - (k + 1) = i by omega, List.map_flatMap, List.flatMap_map]
    congr 1
    funext u
    simp [List.map_map, Function.comp_def]
theorem pre_all : t.tl t.T = t.pre t.T := by
  rw [t.pre_tl t.T 0 (by omega)]
  simp [tl]
theorem lex_cons (u : Int) (a b : List Int) (h : lexLt a b = true) : lexLt (u :: a) (u :: b) = true := by
  show (decide (u < u) || (decide (u = u) && lexLt a b)) = true
  rw [h]; simp
theorem tl_lex (hr : t.Rise) : ∀ k, (t.tl k).Pairwise (fun a b => lexLt a b = true)
  | 0 => by simp [tl]
  | k + 1 => by
    rw [tl, List.pairwise_flatMap]
    refine ⟨fun u _ => List.pairwise_map.2 ((tl_lex hr k).imp fun h => lex_cons u _ _ h), ?_⟩
    refine (hr _).imp fun {u v} huv x hx y hy => ?_
    obtain ⟨a, _, rfl⟩ := List.mem_map.1 hx
    obtain ⟨b, _, rfl⟩ := List.mem_map.1 hy
    show (decide (u < v) || (decide (u = v) && lexLt a b)) = true
    simp [huv]
/-- All sequences in their order. -/
def allS : List (List Int × Int) → Prop := fun l => l.Pairwise seqLt ∧ l.Perm ((t.tl t.T).map fun s => (s, t.tc 0 s))
theorem allS_bf {t : Tsk} {l : List Itm} {out all : List (List Int × Int)} (ha : t.allS all) (h : t.BF l out) : all.take out.length = out := by
  refine take_sorted (r := seqLt) (fun a b h => seqLt_as h) (b := (l.flatMap t.comp).map fun s => (s, t.tc 0 s)) ha.1 (ha.2.trans ?_) h.srt (fun x hx y hy => ?_)
  · have e : out = (out.map (·.1)).map fun s => (s, t.tc 0 s) := by
      rw [List.map_map]
      refine (List.map_id out).symm.trans (List.map_congr_left fun o ho => ?_)
      have := h.cst o ho
      simp only [id, Function.comp]
      rw [← this]
    conv => rhs; lhs; rw [e]
    rw [← List.map_append]
    exact (h.cov.symm.trans List.perm_append_comm).map _
  · obtain ⟨s, hs, rfl⟩ := List.mem_map.1 hy
    exact h.bel x hx s hs
theorem allS_len {t : Tsk} {l : List Itm} {out all : List (List Int × Int)} (ha : t.allS all) (h : t.BF l out) {n : Nat} (h1 : l = [] ∨ out.length = n) (h2 : out.length ≤ n) : out.length = min n all.length := by
  have e1 : all.length = (l.flatMap t.comp).length + out.length := by
    rw [ha.2.length_eq, List.length_map, ← h.cov.length_eq, List.length_append, List.length_map]
  rcases h1 with h1 | h1
  · subst h1
    simp only [List.flatMap_nil, List.length_nil] at e1
    omega
  · omega
/-- The best one is the first one. -/
theorem allS_first {t : Tsk} {all : List (List Int × Int)} (ha : t.allS all) {s : List Int} {c : Int} (h1 : s ∈ t.tl t.T) (h2 : c = t.tc 0 s) (h3 : ∀ s' ∈ t.tl t.T, s' = s ∨ seqLt (s, c) (s', t.tc 0 s')) : ∃ r, all = (s, c) :: r := by
  have hm : (s, c) ∈ all := ha.2.mem_iff.2 (List.mem_map.2 ⟨s, h1, by rw [h2]⟩)
  cases all with
  | nil => cases hm
  | cons y r =>
    refine ⟨r, ?_⟩
    rcases List.mem_cons.1 hm with e | e
    · rw [e]
    · exfalso
      have k1 := (List.pairwise_cons.1 ha.1).1 _ e
      have hy : y ∈ (t.tl t.T).map fun s => (s, t.tc 0 s) := ha.2.mem_iff.1 (by simp)
      obtain ⟨s', hs', rfl⟩ := List.mem_map.1 hy
      rcases h3 s' hs' with f | f
      · subst f; rw [← h2] at k1; exact seqLt_as k1 k1
      · exact seqLt_as k1 f
end Tsk
end Go.Sx

/- Certificates: what one that holds says about all sequences. Plain lemmas, no program text. -/
set_option autoImplicit false
namespace Go.Sx
namespace Tsk
variable (t : Tsk)
/-- What a row says of the targets from one on, after a unit. -/
def nx (c : Nat → Int → Int) (i : Nat) (u : Int) : Int := minL ((t.us i).map fun v => t.J u v + c i v)
structure Hold (cost : Int) (c : Nat → Int → Int) : Prop where
  some : ∀ i, i < t.T → t.us i ≠ []
  row : ∀ i, i < t.T → ∀ u ∈ t.us i, c i u ≤ t.F i u + (if i + 1 < t.T then t.nx c (i + 1) u else 0)
  none : t.T = 0 → cost ≤ 0
  low : 0 < t.T → ∀ u ∈ t.us 0, cost ≤ c 0 u
variable {t}
theorem Hold.le {cost : Int} {c : Nat → Int → Int} (h : t.Hold cost c) : ∀ k u s, k + 1 ≤ t.T → u ∈ t.us (t.T - (k + 1)) → s ∈ t.tl k → c (t.T - (k + 1)) u ≤ t.tc (t.T - (k + 1)) (u :: s)
  | 0, u, s, hk, hu, hs => by
    simp [tl] at hs
    subst hs
    have h1 := h.row (t.T - 1) (by omega) u hu
    rw [if_neg (by omega)] at h1
    simp only [tc, Nat.zero_add]
    omega
  | k + 1, u, s, hk, hu, hs => by
    have h1 := h.row (t.T - (k + 1 + 1)) (by omega) u hu
    rw [if_pos (by omega)] at h1
    simp only [tl, List.mem_flatMap, List.mem_map] at hs
    obtain ⟨v, hv, s', hs', rfl⟩ := hs
    have e : t.T - (k + 1 + 1) + 1 = t.T - (k + 1) := by omega
    have h2 := h.le k v s' (by omega) hv hs'
    have h3 : t.nx c (t.T - (k + 1)) u ≤ t.J u v + c (t.T - (k + 1)) v := minL_le (List.mem_map.2 ⟨v, hv, rfl⟩)
    simp only [tc]
    rw [e] at h1 ⊢
    omega
theorem Hold.all {cost : Int} {c : Nat → Int → Int} (h : t.Hold cost c) : ∀ s ∈ t.tl t.T, cost ≤ t.tc 0 s := by
  intro s hs
  by_cases h0 : t.T = 0
  · rw [h0] at hs
    simp [tl] at hs
    subst hs
    exact h.none h0
  · obtain ⟨k, hk⟩ : ∃ k, t.T = k + 1 := ⟨t.T - 1, by omega⟩
    rw [hk] at hs
    simp only [tl, List.mem_flatMap, List.mem_map] at hs
    obtain ⟨v, hv, s', hs', rfl⟩ := hs
    have e : t.T - (k + 1) = 0 := by omega
    have h1 := h.le k v s' (by omega) hv hs'
    rw [e] at h1 hv
    have := h.low (by omega) v hv
    omega
/-- There is a sequence where each target has a unit. -/
theorem tl_ne (h : ∀ i, i < t.T → t.us i ≠ []) : ∀ k, k ≤ t.T → t.tl k ≠ []
  | 0, _ => by simp [tl]
  | k + 1, hk => by
    obtain ⟨u, hu⟩ := List.exists_mem_of_ne_nil _ (h (t.T - (k + 1)) (by omega))
    obtain ⟨s, hs⟩ := List.exists_mem_of_ne_nil _ (tl_ne h k (by omega))
    exact List.ne_nil_of_mem (a := u :: s) (by simp only [tl, List.mem_flatMap, List.mem_map]; exact ⟨u, hu, s, hs, rfl⟩)
theorem tl_nil {i : Nat} (hi : i < t.T) (h : t.us i = []) : t.tl t.T = [] := by
  rw [t.pre_all]
  have key : ∀ k, i < k → t.pre k = [] := fun k hk => by
    induction k with
    | zero => omega
    | succ k ih =>
      rw [pre]
      by_cases e : i = k
      · subst e; rw [h]; simp
      · rw [ih (by omega)]; rfl
  exact key _ hi
/-- Nothing overflows where units are used. -/
structure Fits (t : Tsk) : Prop where
  some : ∀ i, i < t.T → t.us i ≠ []
  bd : ∀ i u v, i + 1 < t.T → u ∈ t.us i → v ∈ t.us (i + 1) → t.J u v + t.R (t.T - (i + 1)) v ≤ 9223372036854775807
theorem R_at (hs : t.Fits) : ∀ k u, k + 1 ≤ t.T → u ∈ t.us (t.T - (k + 1)) → ∃ s ∈ t.tl k, t.R (k + 1) u = t.tc (t.T - (k + 1)) (u :: s)
  | 0, u, _, _ => ⟨[], by simp [tl], by simp [R, tc]⟩
  | k + 1, u, hk, hu => by
    have e : t.T - (k + 1 + 1) + 1 = t.T - (k + 1) := by omega
    have hm : minL ((t.us (t.T - (k + 1))).map fun v => t.J u v + t.R (k + 1) v) ∈ (t.us (t.T - (k + 1))).map fun v => t.J u v + t.R (k + 1) v := by
      refine minL_mem ?_ ?_
      · intro h; exact hs.some (t.T - (k + 1)) (by omega) (List.map_eq_nil_iff.1 h)
      · intro x hx
        obtain ⟨v, hv, rfl⟩ := List.mem_map.1 hx
        have := hs.bd (t.T - (k + 1 + 1)) u v (by omega) hu (by rw [e]; exact hv)
        rwa [e, show t.T - (t.T - (k + 1)) = k + 1 by omega] at this
    obtain ⟨v, hv, e2⟩ := List.mem_map.1 hm
    obtain ⟨s, h1, h2⟩ := R_at hs k v (by omega) hv
    refine ⟨v :: s, ?_, ?_⟩
    · simp only [tl, List.mem_flatMap, List.mem_map]
      exact ⟨v, hv, s, h1, rfl⟩
    · rw [R, if_neg (by omega), ← e2]
      simp only [tc]
      rw [e]
      omega
/-- The rest costs are a certificate. -/
theorem hold_own (hs : t.Fits) {cost : Int} (hc : ∀ s ∈ t.tl t.T, cost ≤ t.tc 0 s) {c : Nat → Int → Int} (he : ∀ i, i < t.T → ∀ u ∈ t.us i, c i u = t.R (t.T - i) u) : t.Hold cost c where
  some := hs.some
  row i hi u hu := by
    rw [he i hi u hu]
    obtain ⟨k, hk⟩ : ∃ k, t.T - i = k + 1 := ⟨t.T - i - 1, by omega⟩
    rw [hk, R, show t.T - (k + 1) = i by omega]
    by_cases h0 : k = 0
    · rw [if_pos h0, if_neg (by omega)]; omega
    · rw [if_neg h0, if_pos (by omega), nx, show t.T - k = i + 1 by omega]
      have : ((t.us (i + 1)).map fun v => t.J u v + t.R k v) = (t.us (i + 1)).map fun v => t.J u v + c (i + 1) v := List.map_congr_left fun v hv => by
        rw [he (i + 1) (by omega) v hv, show t.T - (i + 1) = k by omega]
      rw [this]; omega
  none h0 := by
    have := hc [] (by rw [h0]; simp [tl])
    simpa [tc] using this
  low h0 u hu := by
    obtain ⟨k, hk⟩ : ∃ k, t.T = k + 1 := ⟨t.T - 1, by omega⟩
    have e0 : t.T - (k + 1) = 0 := by omega
    obtain ⟨s, hs1, hs2⟩ := R_at hs k u (by omega) (by rw [e0]; exact hu)
    rw [he 0 h0 u hu, Nat.sub_zero, hk, hs2, e0]
    refine hc _ ?_
    rw [hk]
    simp only [tl, List.mem_flatMap, List.mem_map]
    exact ⟨u, by rw [e0]; exact hu, s, hs1, rfl⟩
end Tsk
end Go.Sx

set_option autoImplicit false
set_option maxRecDepth 100000
namespace Go.Proofs.YtomjbfeafodfbaaGreat
open Go.Sx
open Enc (enc val)
def numB (v : Int) : Bool := decide (v ≤ 1125899906842624) && decide (-1125899906842624 ≤ v)
def tameR (r : List Int) : Bool := decide ((r.length : Int) ≤ 12) && r.all numB
def tameB (ls : List (List Int)) : Bool := decide ((ls.length : Int) ≤ 10) && ls.all tameR
theorem tame_no {ls : List (List Int)} {k : Nat} (hk : k < ls.length) (h : tameR (nth ls k) = false) : tameB ls = false := by
  have : ls.all tameR = false := List.all_eq_false.2 ⟨nth ls k, nth_mem hk, by simp [h]⟩
  simp [tameB, this]
theorem tame_spec (sc : SlV) (vs : List SlV) (ls : List (List Int)) (w : World) (hm : Stb w [] (fun w' => Mt w' sc.v vs ls)) : Calls Tryz.prog 52 #[sc.v] w fun e w' => e = .returned (.bool (tameB ls)) ∧ Cl w [] [] w' := by
  have h1 := stb_map hm fun _ h => h.l
  have hL := rd_len h1.here
  have n1 := hm.here.n
  refine calls_cw (vs := [_]) Tryz.func52 rfl Tryz.ntmps52 rfl (Cl.start0 w) (cw_seq (cw_region (sr rfl rfl rfl ((q_assign rfl rfl)) (sw_nil (post_then (cw_seq (cw_seq (cw_region (sr rfl rfl rfl ((q_move rfl rfl)) ?_)))))))))
  refine sr rfl rfl rfl ((q_len rfl (.cons rfl inferInstance (.nil)) (by exact fun w hw => Stb.cl (by assumption) hw))) ?_
  refine sr rfl rfl rfl ((q_gtr rfl rfl rfl)) (sw_nil (post_then ?_))
  refine cw_cond rfl (fun h => ?_) (fun h => ?_)
  · skip
    have h2 : tameB ls = false := by
      simp only [decide_eq_true_eq] at h
      have : ¬ ((ls.length : Int) ≤ 10) := by omega
      simp [tameB, this]
    refine cw_seq (cw_region (sr rfl rfl rfl ((q_assign rfl rfl)) (sw_nil (post_then (cw_ret (post_then_r (post_ret1 rfl (resOk_tmp rfl) ?_)))))))
    exact fun w' hw => ⟨by rw [h2], hw⟩
  · skip
    have h10 : (ls.length : Int) ≤ 10 := by simp only [decide_eq_false_iff_not] at h; omega
    refine cw_skip (post_then (cw_seq (cw_seq (cw_region (sr rfl rfl rfl ((q_assign rfl rfl)) (sw_nil (post_then (cw_block ?_))))))))
    refine cw_loop (S := Nat) (fun k => [(0, [], sc.v), (3, [], .int .i64 k)]) (fun _ => Cl w [] []) (fun k => k ≤ ls.length ∧ ∀ j, j < k → tameR (nth ls j) = true) (fun k => ls.length - k) 0 ⟨Nat.zero_le _, fun j hj => by omega⟩ (by exact .cons rfl (.cons rfl .nil)) (fun _ h => h) ?_
    rintro k ⟨hk, he⟩
    refine cw_seq (cw_seq (cw_region (sr rfl rfl rfl ((q_move rfl rfl)) (sr rfl rfl rfl ((q_move rfl rfl)) ?_))))
    refine sr rfl rfl rfl ((q_len rfl (.cons rfl inferInstance (.nil)) (by exact fun w hw => Stb.cl (by assumption) hw))) ?_
    refine sr rfl rfl rfl ((q_lss rfl rfl rfl)) (sw_nil (post_then ?_))
    refine cw_cond rfl (fun h3 => ?_) (fun h3 => ?_)
    · skip
      have hk' : k < ls.length := by simp only [decide_eq_true_eq] at h3; omega
      have hr := stb_map hm fun _ h => h.r k hk'
      have hrl := rd_len hr.here
      refine cw_skip (post_then (cw_seq (cw_block (cw_seq (cw_seq (cw_region (sr rfl rfl rfl ((q_move rfl rfl)) (sr rfl rfl rfl ((q_move rfl rfl)) ?_))))))))
      refine sr rfl rfl rfl ((q_indexN rfl rfl rfl (by exact fun w hw => Stb.cl (by assumption) hw) (by intro hc; omega))) ?_
      refine sr rfl rfl rfl ((q_loadEl rfl rfl rfl (by exact fun w hw => Stb.cl (by assumption) hw) (by intro hc; omega))) ?_
      refine sr rfl rfl rfl ((q_len rfl (.cons rfl inferInstance (.nil)) (by exact fun w hw => Stb.cl (by assumption) hw))) ?_
      refine sr rfl rfl rfl ((q_gtr rfl rfl rfl)) (sw_nil (post_then ?_))
      refine cw_cond rfl (fun h4 => ?_) (fun h4 => ?_)
      · skip
        have h5 : tameR (nth ls k) = false := by
          simp only [decide_eq_true_eq] at h4
          have : ¬ (((nth ls k).length : Int) ≤ 12) := by omega
          simp [tameR, this]
        refine cw_seq (cw_region (sr rfl rfl rfl ((q_assign rfl rfl)) (sw_nil (post_then (cw_ret (post_then_r (post_blk_r (post_then_r (post_then_r (post_blk_r (post_then_r (post_ret1 rfl (resOk_tmp rfl) ?_))))))))))))
        exact fun w' hw => ⟨by rw [tame_no hk' h5], hw⟩
      · skip
        have h12 : ((nth ls k).length : Int) ≤ 12 := by simp only [decide_eq_false_iff_not] at h4; omega
        refine cw_skip (post_then (cw_seq (cw_region (sr rfl rfl rfl ((q_assign rfl rfl)) (sw_nil (post_then (cw_block ?_)))))))
        refine cw_loop (S := Nat) (fun j => [(0, [], sc.v), (3, [], .int .i64 k), (4, [], .int .i64 j)]) (fun _ => Cl w [] []) (fun j => j ≤ (nth ls k).length ∧ ∀ i, i < j → numB (nth (nth ls k) i) = true) (fun j => (nth ls k).length - j) 0 ⟨Nat.zero_le _, fun j hj => by omega⟩ (by exact .cons rfl (.cons rfl (.cons rfl .nil))) (fun _ h => h) ?_
        rintro j ⟨hj, hi⟩
        refine cw_seq (cw_seq (cw_region (sr rfl rfl rfl ((q_move rfl rfl)) (sr rfl rfl rfl ((q_move rfl rfl)) (sr rfl rfl rfl ((q_move rfl rfl)) ?_)))))
        refine sr rfl rfl rfl ((q_indexN rfl rfl rfl (by exact fun w hw => Stb.cl (by assumption) hw) (by intro hc; omega))) ?_
        refine sr rfl rfl rfl ((q_loadEl rfl rfl rfl (by exact fun w hw => Stb.cl (by assumption) hw) (by intro hc; omega))) ?_
        refine sr rfl rfl rfl ((q_len rfl (.cons rfl inferInstance (.nil)) (by exact fun w hw => Stb.cl (by assumption) hw))) ?_
        refine sr rfl rfl rfl ((q_lss rfl rfl rfl)) (sw_nil (post_then ?_))
        refine cw_cond rfl (fun h6 => ?_) (fun h6 => ?_)
        · skip
          have hj' : j < (nth ls k).length := by simp only [decide_eq_true_eq] at h6; omega
          refine cw_skip (post_then (cw_seq (cw_block (cw_seq (cw_region (sr rfl rfl rfl ((q_move rfl rfl)) (sr rfl rfl rfl ((q_move rfl rfl)) ?_)))))))
          refine sr rfl rfl rfl ((q_indexN rfl rfl rfl (by exact fun w hw => Stb.cl (by assumption) hw) (by intro hc; omega))) ?_
          refine sr rfl rfl rfl ((q_loadEl rfl rfl rfl (by exact fun w hw => Stb.cl (by assumption) hw) (by intro hc; omega))) ?_
          refine sr rfl rfl rfl ((q_move rfl rfl)) ?_
          refine sr rfl rfl rfl ((q_indexN rfl rfl rfl (by exact fun w hw => Stb.cl (by assumption) hw) (by intro hc; omega))) ?_
          refine sr rfl rfl rfl ((q_loadEl rfl rfl rfl (by exact fun w hw => Stb.cl (by assumption) hw) (by intro hc; omega))) ?_
          refine sr rfl rfl rfl ((q_gtr rfl rfl rfl)) (sr rfl rfl rfl ((q_move rfl rfl)) (sr rfl rfl rfl ((q_move rfl rfl)) (sr rfl rfl rfl ((q_move rfl rfl)) ?_)))
          refine sr rfl rfl rfl ((q_indexN rfl rfl rfl (by exact fun w hw => Stb.cl (by assumption) hw) (by intro hc; omega))) ?_
          refine sr rfl rfl rfl ((q_loadEl rfl rfl rfl (by exact fun w hw => Stb.cl (by assumption) hw) (by intro hc; omega))) ?_
          refine sr rfl rfl rfl ((q_move rfl rfl)) ?_
          refine sr rfl rfl rfl ((q_indexN rfl rfl rfl (by exact fun w hw => Stb.cl (by assumption) hw) (by intro hc; omega))) ?_
          refine sr rfl rfl rfl ((q_loadEl rfl rfl rfl (by exact fun w hw => Stb.cl (by assumption) hw) (by intro hc; omega))) ?_
          refine sr rfl rfl rfl ((q_lss rfl rfl rfl)) (sr rfl rfl rfl ((q_or2 rfl rfl rfl)) (sw_nil (post_then ?_)))
          refine cw_cond rfl (fun h7 => ?_) (fun h7 => ?_)
          · skip
            have h8 : numB (nth (nth ls k) j) = false := by
              simp only [Bool.or_eq_true, decide_eq_true_eq] at h7
              simp only [numB, Bool.and_eq_false_iff, decide_eq_false_iff_not]
              omega
            have h9 : tameR (nth ls k) = false := by
              have : (nth ls k).all numB = false := List.all_eq_false.2 ⟨nth (nth ls k) j, nth_mem hj', by simp [h8]⟩
              simp [tameR, this]
            refine cw_seq (cw_region (sr rfl rfl rfl ((q_assign rfl rfl)) (sw_nil (post_then (cw_ret (post_blk_r (post_then_r (post_then_r (post_blk_r (post_blk_r (post_then_r (post_then_r (post_blk_r (post_then_r (post_ret1 rfl (resOk_tmp rfl) ?_)))))))))))))))
            exact fun w' hw => ⟨by rw [tame_no hk' h9], hw⟩
          · skip
            have h8 : numB (nth (nth ls k) j) = true := by
              simp only [Bool.or_eq_false_iff, decide_eq_false_iff_not] at h7
              simp only [numB, Bool.and_eq_true, decide_eq_true_eq]
              omega
            refine cw_skip (post_blk (post_then (cw_region (sr rfl rfl rfl ((q_move rfl rfl)) ?_))))
            refine sr rfl rfl rfl ((q_add rfl rfl rfl (by intro hc; omega))) ?_
            refine sr rfl rfl rfl ((q_assign rfl rfl)) (sw_nil ?_)
            refine post_next (j + 1) (by exact .cons rfl (.cons rfl (.cons rfl .nil))) (fun _ h => h) ⟨by omega, fun i h5 => ?_⟩ (by omega)
            by_cases e : i = j
            · subst e; exact h8
            · exact hi i (by omega)
        · skip
          have hj' : j = (nth ls k).length := by simp only [decide_eq_false_iff_not] at h6; omega
          subst hj'
          refine cw_exit (post_then_x (post_then_x (post_blk_eq (post_blk (post_then (cw_region (sr rfl rfl rfl ((q_move rfl rfl)) ?_)))))))
          refine sr rfl rfl rfl ((q_add rfl rfl rfl (by intro hc; omega))) ?_
          refine sr rfl rfl rfl ((q_assign rfl rfl)) (sw_nil ?_)
          refine post_next (k + 1) (by exact .cons rfl (.cons rfl .nil)) (fun _ h => h) ⟨by omega, fun i h5 => ?_⟩ (by omega)
          by_cases e : i = k
          · subst e
            have : (nth ls i).all numB = true := List.all_eq_true.2 fun x hx => by
              obtain ⟨q, hq, rfl⟩ := List.getElem_of_mem hx
              have := hi q hq
              rwa [nth_get hq] at this
            simp [tameR, this, h12]
          · exact he i (by omega)
    · skip
      have hk' : k = ls.length := by simp only [decide_eq_false_iff_not] at h3; omega
      subst hk'
      have h4 : ls.all tameR = true := List.all_eq_true.2 fun x hx => by
        obtain ⟨q, hq, rfl⟩ := List.getElem_of_mem hx
        have := he q hq
        rwa [nth_get hq] at this
      refine cw_exit (post_then_x (post_then_x (post_blk_eq (post_then (cw_seq (cw_region (sr rfl rfl rfl ((q_assign rfl rfl)) (sw_nil (post_then (cw_ret (post_ret1 rfl (resOk_tmp rfl) ?_)))))))))))
      exact fun w' hw => ⟨by simp [tameB, h4, h10], hw⟩
theorem mn_bd {l : List Int} {a b : Int} (ha : a ≤ -1) (hb : -1 ≤ b) (h : ∀ x ∈ l, a ≤ x ∧ x ≤ b) : a ≤ mn l ∧ mn l ≤ b := by
  cases l with
  | nil => exact ⟨ha, hb⟩
  | cons y r =>
    have hy := h y (by simp)
    have h1 := foldl_min_le r y
    simp only [mn]
    refine ⟨?_, by omega⟩
    rcases foldl_min_mem r y with e | e
    · rw [e]; exact hy.1
    · exact (h _ (by simp [e])).1
theorem tame_nth {ls : List (List Int)} (h : tameB ls = true) (i v : Nat) : -1125899906842624 ≤ nth (nth ls i) v ∧ nth (nth ls i) v ≤ 1125899906842624 := by
  simp only [tameB, Bool.and_eq_true] at h
  by_cases hi : i < ls.length
  · have h1 := List.all_eq_true.1 h.2 _ (nth_mem hi)
    simp only [tameR, Bool.and_eq_true] at h1
    by_cases hv : v < (nth ls i).length
    · have h2 := List.all_eq_true.1 h1.2 _ (nth_mem hv)
      simp only [numB, Bool.and_eq_true, decide_eq_true_eq] at h2
      omega
    · have : nth (nth ls i) v = 0 := by simp only [nth, List.getD]; rw [List.getElem?_eq_none (by simpa [nth, List.getD] using hv)]; rfl
      omega
  · have e : nth ls i = [] := by simp only [nth, List.getD]; rw [List.getElem?_eq_none (by omega)]; rfl
    rw [e]
    have : nth ([] : List Int) v = 0 := rfl
    omega
def cF (ls : List (List Int)) (i : Nat) (u : Int) : Int := nth (nth ls i) u.toNat
def nxt (p : List Un) (tgt : List Wan) (x : Wts) (ls : List (List Int)) (i : Nat) (u : Int) : Int := mn ((idxs p p.length (nth tgt (i + 1)).phone).map (lsum x p (nth ls (i + 1)) u))
def holdP (p : List Un) (tgt : List Wan) (x : Wts) (cost : Int) (ls : List (List Int)) : Prop := (ls.length = tgt.length ∧ ∀ r ∈ ls, r.length = p.length) ∧ (tsk p tgt x).Hold cost (cF ls)
open Classical in
noncomputable def holdB (p : List Un) (tgt : List Wan) (x : Wts) (cost : Int) (ls : List (List Int)) : Bool := decide (holdP p tgt x cost ls)
theorem holdB_no {p : List Un} {tgt : List Wan} {x : Wts} {cost : Int} {ls : List (List Int)} (h : ¬ holdP p tgt x cost ls) : holdB p tgt x cost ls = false := by unfold holdB; simp [h]
theorem holdB_yes {p : List Un} {tgt : List Wan} {x : Wts} {cost : Int} {ls : List (List Int)} (h : holdP p tgt x cost ls) : holdB p tgt x cost ls = true := by unfold holdB; simp [h]
theorem holdB_iff {p : List Un} {tgt : List Wan} {x : Wts} {cost : Int} {ls : List (List Int)} : holdB p tgt x cost ls = true ↔ holdP p tgt x cost ls := by unfold holdB; simp
theorem nxt_parts {p : List Un} {tgt : List Wan} {x : Wts} {ls : List (List Int)} (hE : beginE p tgt x = 0) (ht : tameB ls = true) (i : Nat) {u : Nat} (hu : u < p.length) : ∀ y ∈ (idxs p p.length (nth tgt (i + 1)).phone).map (lsum x p (nth ls (i + 1)) u), -1125899906842624 ≤ y ∧ y ≤ 1125899906842624 + 800000000 := fun y hy => by
  obtain ⟨-, -, hv1, hv2, hv3⟩ := beginE_ok hE
  obtain ⟨v, hv, rfl⟩ := List.mem_map.1 hy
  have hm := TK.idx_mem.1 hv
  have h1 := tame_nth ht (i + 1) v.toNat
  have h2 := jz_bd (p := p) hv1 hv3 (u := (u : Int)) (by omega) (v := v.toNat) (by omega)
  rw [show ((v.toNat : Nat) : Int) = v by omega] at h2
  simp only [lsum]
  omega
theorem nxt_bd {p : List Un} {tgt : List Wan} {x : Wts} {ls : List (List Int)} (hE : beginE p tgt x = 0) (ht : tameB ls = true) (i : Nat) {u : Nat} (hu : u < p.length) : -1125899906842624 ≤ nxt p tgt x ls i u ∧ nxt p tgt x ls i u ≤ 1125899906842624 + 800000000 :=
  mn_bd (by omega) (by omega) (nxt_parts hE ht i hu)
theorem nx_nxt {p : List Un} {tgt : List Wan} {x : Wts} {ls : List (List Int)} (hE : beginE p tgt x = 0) (ht : tameB ls = true) {i : Nat} (hne : idxs p p.length (nth tgt (i + 1)).phone ≠ []) {u : Nat} (hu : u < p.length) : (tsk p tgt x).nx (cF ls) (i + 1) u = nxt p tgt x ls i u := by
  have e : (((tsk p tgt x).us (i + 1)).map fun v => (tsk p tgt x).J u v + cF ls (i + 1) v) = (idxs p p.length (nth tgt (i + 1)).phone).map (lsum x p (nth ls (i + 1)) u) := by
    refine List.map_congr_left fun v hv => ?_
    rw [lsum, jz, if_pos (by omega), cF, Int.add_comm]
    rfl
  rw [Tsk.nx, e, nxt, minL_mn (by simpa using hne) (fun y hy => by have := nxt_parts hE ht i hu y hy; omega)]
structure OkR (p : List Un) (tgt : List Wan) (x : Wts) (ls : List (List Int)) (cost : Int) (i : Nat) (v : Int) : Prop where
  row : cF ls i v ≤ fitC x (nth p v.toNat) (nth tgt i) + (if i + 1 < tgt.length then nxt p tgt x ls i v else 0)
  low : i = 0 → cost ≤ cF ls 0 v
theorem us_nat {p : List Un} {c : ByteArray} {v : Int} (h : v ∈ idxs p p.length c) : ∃ m : Nat, v = m ∧ m < p.length := by
  have := TK.idx_mem.1 h
  exact ⟨v.toNat, by omega, by omega⟩
theorem hold_rows {p : List Un} {tgt : List Wan} {x : Wts} {ls : List (List Int)} {cost : Int} (hE : beginE p tgt x = 0) (ht : tameB ls = true) (h0 : tgt.length ≠ 0) : (tsk p tgt x).Hold cost (cF ls) ↔ ∀ i, i < tgt.length → idxs p p.length (nth tgt i).phone ≠ [] ∧ ∀ v ∈ idxs p p.length (nth tgt i).phone, OkR p tgt x ls cost i v := by
  constructor
  · intro h i hi
    refine ⟨h.some i hi, fun v hv => ⟨?_, fun h2 => ?_⟩⟩
    · have h1 := h.row i hi v hv
      by_cases h2 : i + 1 < tgt.length
      · obtain ⟨m, rfl, hm⟩ := us_nat hv
        rw [if_pos (show i + 1 < (tsk p tgt x).T from h2)] at h1
        rw [if_pos h2]
        rw [nx_nxt hE ht (h.some (i + 1) h2) hm] at h1
        exact h1
      · rw [if_neg (show ¬ i + 1 < (tsk p tgt x).T from h2)] at h1
        rw [if_neg h2]
        exact h1
    · subst h2; exact h.low hi v hv
  · intro h
    refine ⟨fun i hi => (h i hi).1, fun i hi v hv => ?_, fun h1 => absurd h1 h0, fun h1 v hv => ((h 0 h1).2 v hv).low rfl⟩
    have h1 := ((h i hi).2 v hv).row
    by_cases h2 : i + 1 < tgt.length
    · obtain ⟨m, rfl, hm⟩ := us_nat hv
      rw [if_pos h2] at h1
      rw [if_pos (show i + 1 < (tsk p tgt x).T from h2), nx_nxt hE ht (h (i + 1) h2).1 hm]
      exact h1
    · rw [if_neg h2] at h1
      rw [if_neg (show ¬ i + 1 < (tsk p tgt x).T from h2)]
      exact h1
theorem hold_zero {p : List Un} {tgt : List Wan} {x : Wts} {ls : List (List Int)} {cost : Int} (h0 : tgt.length = 0) : (tsk p tgt x).Hold cost (cF ls) ↔ cost ≤ 0 := by
  have eT : (tsk p tgt x).T = 0 := h0
  exact ⟨fun h => h.none eT, fun h => ⟨fun i hi => by omega, fun i hi => by omega, fun _ => h, fun h1 => by omega⟩⟩
set_option maxHeartbeats 1000000 in
theorem refHolds_spec (sp tp sc : SlV) (p : List Un) (tgt : List Wan) (x : Wts) (cost : Int) (vs : List SlV) (ls : List (List Int)) (w : World) (hvo : VoRd w sp p) (htp : Stb w [] (RdL tp.v tgt)) (hm : Stb w [] (fun w' => Mt w' sc.v vs ls)) (hE : beginE p tgt x = 0) (ht : tameB ls = true) :
    Calls Tryz.prog 53 #[sp.v, tp.v, val x, .int .i64 cost, sc.v] w fun e w' => e = .returned (.bool (holdB p tgt x cost ls)) ∧ Cl w [] [] w' := by
  have hvl := hvo.l
  have hL := rd_len hvl.here
  have hL2 := rd_len htp.here
  obtain ⟨m1, m2, hv1, hv2, hv3⟩ := beginE_ok hE
  have h1 := stb_map hm fun _ h => h.l
  have hL3 := rd_len h1.here
  have n1 := hm.here.n
  refine calls_cw (vs := [_, _, _, _, _]) Tryz.func53 rfl Tryz.ntmps53 rfl (Cl.start0 w) (cw_seq (cw_region ?_))
  refine sw_x rfl rfl rfl (e_box rfl rfl rfl) (fun b7 => ?_)
  refine sr rfl rfl rfl ((q_assign rfl rfl)) (sw_nil (post_then (cw_seq (cw_seq (cw_region (sr rfl rfl rfl ((q_move rfl rfl)) ?_))))))
  refine sr rfl rfl rfl ((q_len rfl (.cons rfl inferInstance (.nil)) (by exact fun w hw => Stb.cl (by assumption) hw))) ?_
  refine sr rfl rfl rfl ((q_move rfl rfl)) ?_
  refine sr rfl rfl rfl ((q_len rfl (.cons rfl inferInstance (.nil)) (by exact fun w hw => Stb.cl (by assumption) hw))) ?_
  refine sr rfl rfl rfl ((q_neq rfl rfl rfl)) (sw_nil (post_then ?_))
  refine cw_cond rfl (fun h => ?_) (fun h => ?_)
  · skip
    have h2 : ¬ ls.length = tgt.length := by simp at h; omega
    refine cw_seq (cw_region (sr rfl rfl rfl ((q_assign rfl rfl)) (sw_nil (post_then (cw_ret (post_then_r (post_ret1 rfl (resOk_tmp rfl) ?_)))))))
    exact fun w' hw => ⟨by rw [holdB_no fun k => h2 k.1.1], (fun w h => Cl.sel (by exact .nil _) w h) _ hw⟩
  · skip
    have hlt : ls.length = tgt.length := by simp at h; omega
    refine cw_skip (post_then (cw_seq (cw_seq (cw_region (sr rfl rfl rfl ((q_assign rfl rfl)) (sw_nil (post_then (cw_block ?_))))))))
    refine cw_loop (S := Nat) (fun k => [(0, [], sp.v), (1, [], tp.v), (3, [], .int .i64 cost), (4, [], sc.v), (7, [], .pointer (some ⟨b7, 0, none⟩)), (11, [], .int .i64 k)]) (fun _ => Cl w [] [blk b7 (enc x) 25]) (fun k => k ≤ tgt.length ∧ ∀ j, j < k → (nth ls j).length = p.length) (fun k => tgt.length - k) 0 ⟨Nat.zero_le _, fun j hj => by omega⟩ (by exact .cons rfl (.cons rfl (.cons rfl (.cons rfl (.cons rfl (.cons rfl .nil)))))) (fun _ h => h) ?_
    rintro k ⟨hk, he⟩
    refine cw_seq (cw_seq (cw_region (sr rfl rfl rfl ((q_move rfl rfl)) (sr rfl rfl rfl ((q_move rfl rfl)) ?_))))
    refine sr rfl rfl rfl ((q_len rfl (.cons rfl inferInstance (.nil)) (by exact fun w hw => Stb.cl (by assumption) hw))) ?_
    refine sr rfl rfl rfl ((q_lss rfl rfl rfl)) (sw_nil (post_then ?_))
    refine cw_cond rfl (fun h3 => ?_) (fun h3 => ?_)
    · skip
      have hk' : k < tgt.length := by simp only [decide_eq_true_eq] at h3; omega
      have hr := stb_map hm fun _ h => h.r k (by omega)
      have hrl := rd_len hr.here
      refine cw_skip (post_then (cw_seq (cw_block (cw_seq (cw_region (sr rfl rfl rfl ((q_move rfl rfl)) (sr rfl rfl rfl ((q_move rfl rfl)) ?_)))))))
      refine sr rfl rfl rfl ((q_indexN rfl rfl rfl (by exact fun w hw => Stb.cl (by assumption) hw) (by intro hc; omega))) ?_
      refine sr rfl rfl rfl ((q_loadEl rfl rfl rfl (by exact fun w hw => Stb.cl (by assumption) hw) (by intro hc; omega))) ?_
      refine sr rfl rfl rfl ((q_len rfl (.cons rfl inferInstance (.nil)) (by exact fun w hw => Stb.cl (by assumption) hw))) ?_
      refine sr rfl rfl rfl ((q_move rfl rfl)) ?_
      refine sr rfl rfl rfl ((q_len rfl (.cons rfl inferInstance (.nil)) (by exact fun w hw => Stb.cl (by assumption) hw))) ?_
      refine sr rfl rfl rfl ((q_neq rfl rfl rfl)) (sw_nil (post_then ?_))
      refine cw_cond rfl (fun h4 => ?_) (fun h4 => ?_)
      · skip
        have h5 : ¬ (nth ls k).length = p.length := by simp at h4; omega
        refine cw_seq (cw_region (sr rfl rfl rfl ((q_assign rfl rfl)) (sw_nil (post_then (cw_ret (post_blk_r (post_then_r (post_then_r (post_blk_r (post_then_r (post_ret1 rfl (resOk_tmp rfl) ?_)))))))))))
        exact fun w' hw => ⟨by rw [holdB_no fun k2 => h5 (k2.1.2 _ (nth_mem (by omega)))], (fun w h => Cl.sel (by exact .nil _) w h) _ hw⟩
      · skip
        have h5 : (nth ls k).length = p.length := by simp at h4; omega
        refine cw_skip (post_blk (post_then (cw_region (sr rfl rfl rfl ((q_move rfl rfl)) ?_))))
        refine sr rfl rfl rfl ((q_add rfl rfl rfl (by intro hc; omega))) ?_
        refine sr rfl rfl rfl ((q_assign rfl rfl)) (sw_nil ?_)
        refine post_next (k + 1) (by exact .cons rfl (.cons rfl (.cons rfl (.cons rfl (.cons rfl (.cons rfl .nil)))))) (fun _ h => h) ⟨by omega, fun j h5 => ?_⟩ (by omega)
        by_cases e : j = k
        · subst e; assumption
        · exact he j (by omega)
    · skip
      have hk' : k = tgt.length := by simp only [decide_eq_false_iff_not] at h3; omega
      subst hk'
      have hrows : ∀ r ∈ ls, r.length = p.length := fun r hr => by
        obtain ⟨q, hq, rfl⟩ := List.getElem_of_mem hr
        have := he q (by omega)
        rwa [nth_get hq] at this
      refine cw_exit (post_then_x (post_then_x (post_blk_eq (post_then (cw_seq (cw_seq (cw_region (sr rfl rfl rfl ((q_move rfl rfl)) ?_))))))))
      refine sr rfl rfl rfl ((q_len rfl (.cons rfl inferInstance (.nil)) (by exact fun w hw => Stb.cl (by assumption) hw))) ?_
      refine sr rfl rfl rfl ((q_eql rfl rfl rfl)) (sw_nil (post_then ?_))
      refine cw_cond rfl (fun h4 => ?_) (fun h4 => ?_)
      · skip
        have h0 : tgt.length = 0 := by simp at h4; simp [h4]
        have e1 : holdB p tgt x cost ls = decide (cost ≤ 0) := by
          by_cases hc : cost ≤ 0
          · rw [holdB_yes ⟨⟨hlt, hrows⟩, (hold_zero h0).2 hc⟩]; simp [hc]
          · rw [holdB_no fun k => hc ((hold_zero h0).1 k.2)]; simp [hc]
        refine cw_seq (cw_region (sr rfl rfl rfl ((q_move rfl rfl)) (sr rfl rfl rfl ((q_leq rfl rfl rfl)) (sr rfl rfl rfl ((q_assign rfl rfl)) (sw_nil (post_then (cw_ret (post_then_r (post_ret1 rfl (resOk_tmp rfl) ?_)))))))))
        exact fun w' hw => ⟨by rw [e1], (fun w h => Cl.sel (by exact .nil _) w h) _ hw⟩
      · skip
        have h0 : tgt.length ≠ 0 := by intro h0; rw [List.eq_nil_of_length_eq_zero h0] at h4; simp at h4
        have hiff := hold_rows (ls := ls) (cost := cost) hE ht h0
        have hr0 := stb_map hm fun _ h => h.r 0 (by omega)
        have hl0 := he 0 (by omega)
        refine cw_skip (post_then (cw_seq (cw_seq (cw_region (sr rfl rfl rfl ((q_assign rfl rfl)) (sw_nil (post_then (cw_block ?_))))))))
        refine cw_loop (S := Nat) (fun i => [(0, [], sp.v), (1, [], tp.v), (3, [], .int .i64 cost), (4, [], sc.v), (7, [], .pointer (some ⟨b7, 0, none⟩)), (12, [], .int .i64 i)]) (fun _ => Cl w [] [blk b7 (enc x) 25]) (fun i => i ≤ tgt.length ∧ ∀ j, j < i → idxs p p.length (nth tgt j).phone ≠ [] ∧ ∀ v ∈ idxs p p.length (nth tgt j).phone, OkR p tgt x ls cost j v) (fun i => tgt.length - i) 0 ⟨Nat.zero_le _, fun j hj => by omega⟩ (by exact .cons rfl (.cons rfl (.cons rfl (.cons rfl (.cons rfl (.cons rfl .nil)))))) (fun _ h => h) ?_
        rintro i ⟨hi, hok⟩
        refine cw_seq (cw_seq (cw_region (sr rfl rfl rfl ((q_move rfl rfl)) (sr rfl rfl rfl ((q_move rfl rfl)) ?_))))
        refine sr rfl rfl rfl ((q_len rfl (.cons rfl inferInstance (.nil)) (by exact fun w hw => Stb.cl (by assumption) hw))) ?_
        refine sr rfl rfl rfl ((q_lss rfl rfl rfl)) (sw_nil (post_then ?_))
        refine cw_cond rfl (fun h5 => ?_) (fun h5 => ?_)
        · skip
          have hi' : i < tgt.length := by simp only [decide_eq_true_eq] at h5; omega
          have ho := wa_ok (List.all_eq_true.1 hv2 _ (nth_mem hi'))
          have hr := stb_map hm fun _ h => h.r i (by omega)
          have hli := he i hi'
          refine cw_skip (post_then (cw_seq (cw_block (cw_seq (cw_region (sr rfl rfl rfl ((q_assign rfl rfl)) (sw_nil (post_then (cw_seq (cw_seq (cw_region (sr rfl rfl rfl ((q_assign rfl rfl)) (sw_nil (post_then (cw_block ?_)))))))))))))))
          refine cw_loop (S := Nat) (fun u => [(0, [], sp.v), (1, [], tp.v), (3, [], .int .i64 cost), (4, [], sc.v), (7, [], .pointer (some ⟨b7, 0, none⟩)), (12, [], .int .i64 i), (13, [], .bool (!(idxs p u (nth tgt i).phone).isEmpty)), (14, [], .int .i64 u)]) (fun _ => Cl w [] [blk b7 (enc x) 25]) (fun u => u ≤ p.length ∧ ∀ v ∈ idxs p u (nth tgt i).phone, OkR p tgt x ls cost i v) (fun u => p.length - u) 0 ⟨Nat.zero_le _, fun v hv => by simp [idxs] at hv⟩ (by exact .cons rfl (.cons rfl (.cons rfl (.cons rfl (.cons rfl (.cons rfl (.cons rfl (.cons rfl .nil)))))))) (fun _ h => h) ?_
          rintro u ⟨hu, hall⟩
          have hss := idxs_succ p u (nth tgt i).phone
          refine cw_seq (cw_seq (cw_region (sr rfl rfl rfl ((q_move rfl rfl)) (sr rfl rfl rfl ((q_move rfl rfl)) ?_))))
          refine sr rfl rfl rfl ((q_len rfl (.cons rfl inferInstance (.nil)) (by exact fun w hw => Stb.cl (by assumption) hw))) ?_
          refine sr rfl rfl rfl ((q_lss rfl rfl rfl)) (sw_nil (post_then ?_))
          refine cw_cond rfl (fun h6 => ?_) (fun h6 => ?_)
          · skip
            have hu' : u < p.length := by simp only [decide_eq_true_eq] at h6; omega
            refine cw_skip (post_then (cw_seq (cw_block (cw_seq (cw_seq ?_)))))
            refine cw_region_q mixed_Tryz (by kernel_rfl) ?_
            refine qr rfl rfl rfl ((q_move rfl rfl)) (qr rfl rfl rfl ((q_move rfl rfl)) ?_)
            refine qr rfl rfl rfl ((q_indexN rfl rfl rfl (by exact fun w hw => Stb.cl (by assumption) hw) (by intro hc; omega))) ?_
            refine qr rfl rfl rfl ((q_fieldEl rfl rfl (by exact fun w hw => Stb.cl (by assumption) hw) (by intro hc; omega))) ?_
            refine qr rfl rfl rfl ((q_loadF rfl rfl rfl (by exact fun w hw => Stb.cl (by assumption) hw) (by intro hc; omega) rfl)) ?_
            refine qr rfl rfl rfl ((q_move rfl rfl)) (qr rfl rfl rfl ((q_move rfl rfl)) ?_)
            refine qr rfl rfl rfl ((q_indexN rfl rfl rfl (by exact fun w hw => Stb.cl (by assumption) hw) (by intro hc; omega))) ?_
            refine qr rfl rfl rfl ((q_fieldEl rfl rfl (by exact fun w hw => Stb.cl (by assumption) hw) (by intro hc; omega))) ?_
            refine qr rfl rfl rfl ((q_loadF rfl rfl rfl (by exact fun w hw => Stb.cl (by assumption) hw) (by intro hc; omega) rfl)) ?_
            refine qr rfl rfl rfl ((q_neqStr rfl rfl rfl Tryz.underlying9)) (qw_end (post_then ?_))
            refine cw_cond rfl (fun h7 => ?_) (fun h7 => ?_)
            · skip
              have h8 : ¬ (nth p u).phone = (nth tgt i).phone := by simpa using h7
              rw [if_neg h8, List.append_nil] at hss
              refine cw_exit (post_then_x (post_blk_eq (post_then (cw_region (sr rfl rfl rfl ((q_move rfl rfl)) ?_)))))
              refine sr rfl rfl rfl ((q_add rfl rfl rfl (by intro hc; omega))) ?_
              refine sr rfl rfl rfl ((q_assign rfl rfl)) (sw_nil ?_)
              refine post_next (u + 1) ?_ (fun _ h => h) ⟨by omega, by rw [hss]; exact hall⟩ (by omega)
              simp only [hss]
              exact (by exact .cons rfl (.cons rfl (.cons rfl (.cons rfl (.cons rfl (.cons rfl (.cons rfl (.cons rfl .nil))))))))
            · skip
              have h8 : (nth p u).phone = (nth tgt i).phone := by simpa using h7
              have hmem : (u : Int) ∈ idxs p p.length (nth tgt i).phone := TK.idx_mem.2 ⟨by omega, by omega, by simpa using h8⟩
              rw [if_pos h8] at hss
              have hne2 : (idxs p (u + 1) (nth tgt i).phone).isEmpty = false := by rw [hss]; simp
              have hbf := fitC_bd (wt_ok hv3) (vo_ok hv1 (nth_mem hu')) ho
              have hnb := nxt_bd (tgt := tgt) hE ht i hu'
              have ht2 := tame_nth ht i u
              have ht0 := tame_nth ht 0 u
              refine cw_skip (post_then (cw_seq (cw_region (sr rfl rfl rfl ((q_assign rfl rfl)) (sw_nil (post_then (cw_seq ?_)))))))
              refine cw_region_q mixed_Tryz (by kernel_rfl) ?_
              refine qr rfl rfl rfl ((q_move rfl rfl)) (qr rfl rfl rfl ((q_move rfl rfl)) ?_)
              refine qr rfl rfl rfl ((q_indexN rfl rfl rfl (by exact fun w hw => Stb.cl (by assumption) hw) (by intro hc; omega))) ?_
              refine qr rfl rfl rfl ((q_loadEl rfl rfl rfl (by exact fun w hw => Stb.cl (by assumption) hw) (by intro hc; omega))) ?_
              refine qr rfl rfl rfl ((q_move rfl rfl)) (qr rfl rfl rfl ((q_move rfl rfl)) ?_)
              refine qr rfl rfl rfl ((q_indexN rfl rfl rfl (by exact fun w hw => Stb.cl (by assumption) hw) (by intro hc; omega))) ?_
              refine qr rfl rfl rfl ((q_loadEl rfl rfl rfl (by exact fun w hw => Stb.cl (by assumption) hw) (by intro hc; omega))) ?_
              refine qr rfl rfl rfl ((q_loadA rfl rfl (by exact .head _) rfl)) ?_
              refine qw_step rfl rfl rfl (q_call (CanCall.mk Tryz.call49) rfl (.cons rfl inferInstance (.cons rfl inferInstance (.cons rfl inferInstance (.nil)))) (fun _ w hw => callq hw (refTarget_spec (nth p u) (nth tgt i) x w (vo_ok hv1 (nth_mem hu')) ho (wt_ok hv3)))) (qr rfl rfl rfl ((q_assign rfl rfl)) (qw_end (post_then (cw_seq (cw_seq (cw_region (sr rfl rfl rfl ((q_move rfl rfl)) ?_)))))))
              refine sr rfl rfl rfl ((q_add rfl rfl rfl (by intro hc; omega))) ?_
              refine sr rfl rfl rfl ((q_move rfl rfl)) ?_
              refine sr rfl rfl rfl ((q_len rfl (.cons rfl inferInstance (.nil)) (by exact fun w hw => Stb.cl (by assumption) hw))) ?_
              refine sr rfl rfl rfl ((q_lss rfl rfl rfl)) (sw_nil (post_then ?_))
              refine cw_cut (S := Unit) (fun _ => [(0, [], sp.v), (1, [], tp.v), (3, [], .int .i64 cost), (4, [], sc.v), (7, [], .pointer (some ⟨b7, 0, none⟩)), (12, [], .int .i64 i), (13, [], .bool true), (14, [], .int .i64 u), (15, [], .int .i64 (fitC x (nth p u) (nth tgt i) + (if i + 1 < tgt.length then nxt p tgt x ls i u else 0)))]) (fun _ => Cl w [] [blk b7 (enc x) 25]) (fun _ => True) ?_ ?_
              · refine cw_cond rfl (fun h9 => ?_) (fun h9 => ?_)
                · skip
                  have hi1 : i + 1 < tgt.length := by simp only [decide_eq_true_eq] at h9; omega
                  have hr1 := stb_map hm fun _ h => h.r (i + 1) (by omega)
                  have hb1 : ∀ v : Nat, -4611686018427387904 ≤ nth (nth ls (i + 1)) v ∧ nth (nth ls (i + 1)) v ≤ 4611686018427387904 := fun v => by have := tame_nth ht (i + 1) v; omega
                  refine cw_region (sr rfl rfl rfl ((q_move rfl rfl)) (sr rfl rfl rfl ((q_move rfl rfl)) (sr rfl rfl rfl ((q_move rfl rfl)) ?_)))
                  refine sr rfl rfl rfl ((q_loadA rfl rfl (by exact .head _) rfl)) ?_
                  refine sr rfl rfl rfl ((q_move rfl rfl)) (sr rfl rfl rfl ((q_move rfl rfl)) ?_)
                  refine sr rfl rfl rfl ((q_add rfl rfl rfl (by intro hc; omega))) ?_
                  refine sr rfl rfl rfl ((q_move rfl rfl)) ?_
                  rw [show ((i : Int) + 1) = ((i + 1 : Nat) : Int) by omega]
                  refine sw_step rfl rfl rfl (q_call (v := .int .i64 (nxt p tgt x ls i u)) (CanCall.mk Tryz.call69) rfl (.cons rfl inferInstance (.cons rfl inferInstance (.cons rfl inferInstance (.cons rfl inferInstance (.cons rfl inferInstance (.cons rfl inferInstance (.nil))))))) (fun _ w hw => callq hw (refLst_spec sp tp sc p tgt x vs (nth ls (i + 1)) (i + 1) hi1 (by omega) u (by omega) (he (i + 1) hi1) hb1 w (hvo.arg hw) (stb_arg hw htp) (stb_arg hw h1) (stb_arg hw hr1) hE))) ?_
                  refine sr rfl rfl rfl ((q_add rfl rfl rfl (by intro hc; omega))) ?_
                  refine sr rfl rfl rfl ((q_assign rfl rfl)) (sw_nil ?_)
                  refine post_meet () ?_ (fun _ h => h) trivial
                  rw [if_pos hi1]
                  exact (by exact .cons rfl (.cons rfl (.cons rfl (.cons rfl (.cons rfl (.cons rfl (.cons rfl (.cons rfl (.cons rfl .nil)))))))))
                · skip
                  have hi1 : ¬ i + 1 < tgt.length := by simp only [decide_eq_false_iff_not] at h9; omega
                  refine cw_skip ?_
                  refine post_meet () ?_ (fun _ h => h) trivial
                  rw [if_neg hi1, Int.add_zero]
                  exact (by exact .cons rfl (.cons rfl (.cons rfl (.cons rfl (.cons rfl (.cons rfl (.cons rfl (.cons rfl (.cons rfl .nil)))))))))
              · intro _ _
                refine post_then ?_
                generalize hmost : fitC x (nth p u) (nth tgt i) + (if i + 1 < tgt.length then nxt p tgt x ls i u else 0) = most
                refine cw_seq (cw_region (sr rfl rfl rfl ((q_move rfl rfl)) (sr rfl rfl rfl ((q_move rfl rfl)) ?_)))
                refine sr rfl rfl rfl ((q_indexN rfl rfl rfl (by exact fun w hw => Stb.cl (by assumption) hw) (by intro hc; omega))) ?_
                refine sr rfl rfl rfl ((q_loadEl rfl rfl rfl (by exact fun w hw => Stb.cl (by assumption) hw) (by intro hc; omega))) ?_
                refine sr rfl rfl rfl ((q_move rfl rfl)) ?_
                refine sr rfl rfl rfl ((q_indexN rfl rfl rfl (by exact fun w hw => Stb.cl (by assumption) hw) (by intro hc; omega))) ?_
                refine sr rfl rfl rfl ((q_loadEl rfl rfl rfl (by exact fun w hw => Stb.cl (by assumption) hw) (by intro hc; omega))) ?_
                refine sr rfl rfl rfl ((q_move rfl rfl)) (sr rfl rfl rfl ((q_gtr rfl rfl rfl)) (sr rfl rfl rfl ((q_move rfl rfl)) (sr rfl rfl rfl ((q_move rfl rfl)) (sr rfl rfl rfl ((q_eql rfl rfl rfl)) (sr rfl rfl rfl ((q_move rfl rfl)) (sr rfl rfl rfl ((q_move rfl rfl)) (sr rfl rfl rfl ((q_move rfl rfl)) ?_)))))))
                refine sr rfl rfl rfl ((q_indexN rfl rfl rfl (by exact fun w hw => Stb.cl (by assumption) hw) (by intro hc; (simp only [List.length_set, List.length_append, List.length_cons, List.length_nil, List.length_replicate, List.length_take, List.length_drop, List.length_map]; omega)))) ?_
                refine sr rfl rfl rfl ((q_loadEl rfl rfl rfl (by exact fun w hw => Stb.cl (by assumption) hw) (by intro hc; (simp only [List.length_set, List.length_append, List.length_cons, List.length_nil, List.length_replicate, List.length_take, List.length_drop, List.length_map]; omega)))) ?_
                refine sr rfl rfl rfl ((q_move rfl rfl)) ?_
                refine sr rfl rfl rfl ((q_indexN rfl rfl rfl (by exact fun w hw => Stb.cl (by assumption) hw) (by intro hc; omega))) ?_
                refine sr rfl rfl rfl ((q_loadEl rfl rfl rfl (by exact fun w hw => Stb.cl (by assumption) hw) (by intro hc; omega))) ?_
                refine sr rfl rfl rfl ((q_gtr rfl rfl rfl)) (sr rfl rfl rfl ((q_and2 rfl rfl rfl)) (sr rfl rfl rfl ((q_or2 rfl rfl rfl)) (sw_nil (post_then ?_))))
                refine cw_cond rfl (fun h10 => ?_) (fun h10 => ?_)
                · skip
                  have h11 : ¬ OkR p tgt x ls cost i u := fun k => by
                    have k1 := k.row
                    rw [Int.toNat_natCast, hmost, cF, Int.toNat_natCast] at k1
                    simp only [Bool.or_eq_true, Bool.and_eq_true, decide_eq_true_eq] at h10
                    rcases h10 with h10 | ⟨h10, h12⟩
                    · omega
                    · have k2 := k.low (by omega)
                      rw [cF, Int.toNat_natCast] at k2
                      omega
                  refine cw_seq (cw_region (sr rfl rfl rfl ((q_assign rfl rfl)) (sw_nil (post_then (cw_ret (post_blk_r (post_then_r (post_then_r (post_blk_r (post_then_r (post_blk_r (post_then_r (post_then_r (post_blk_r (post_then_r (post_ret1 rfl (resOk_tmp rfl) ?_))))))))))))))))
                  exact fun w' hw => ⟨by rw [holdB_no fun k => h11 ((hiff.1 k.2 i hi').2 _ hmem)], (fun w h => Cl.sel (by exact .nil _) w h) _ hw⟩
                · skip
                  have h11 : OkR p tgt x ls cost i u := by
                    simp only [Bool.or_eq_false_iff, Bool.and_eq_false_iff, decide_eq_false_iff_not] at h10
                    refine ⟨?_, fun k => ?_⟩
                    · rw [Int.toNat_natCast, hmost, cF, Int.toNat_natCast]
                      omega
                    · rw [cF, Int.toNat_natCast]
                      subst k
                      have := h10.2
                      omega
                  refine cw_skip (post_blk (post_then (cw_region (sr rfl rfl rfl ((q_move rfl rfl)) ?_))))
                  refine sr rfl rfl rfl ((q_add rfl rfl rfl (by intro hc; omega))) ?_
                  refine sr rfl rfl rfl ((q_assign rfl rfl)) (sw_nil ?_)
                  refine post_next (u + 1) ?_ (fun _ h => h) ⟨by omega, fun v hv => ?_⟩ (by omega)
                  · simp only [hne2]
                    exact (by exact .cons rfl (.cons rfl (.cons rfl (.cons rfl (.cons rfl (.cons rfl (.cons rfl (.cons rfl .nil))))))))
                  · rw [hss] at hv
                    rcases List.mem_append.1 hv with hv | hv
                    · exact hall v hv
                    · rw [List.mem_singleton.1 hv]; exact h11
          · skip
            have hu' : u = p.length := by simp only [decide_eq_false_iff_not] at h6; omega
            subst hu'
            refine cw_exit (post_then_x (post_then_x (post_blk_eq (post_then (cw_seq (cw_region (sr rfl rfl rfl ((q_move rfl rfl)) (sr rfl rfl rfl ((q_not rfl rfl)) (sw_nil (post_then ?_))))))))))
            refine cw_cond rfl (fun h7 => ?_) (fun h7 => ?_)
            · skip
              have h8 : idxs p p.length (nth tgt i).phone = [] := by simpa using h7
              refine cw_seq (cw_region (sr rfl rfl rfl ((q_assign rfl rfl)) (sw_nil (post_then (cw_ret (post_blk_r (post_then_r (post_then_r (post_blk_r (post_then_r (post_ret1 rfl (resOk_tmp rfl) ?_)))))))))))
              exact fun w' hw => ⟨by rw [holdB_no fun k => (hiff.1 k.2 i hi').1 h8], (fun w h => Cl.sel (by exact .nil _) w h) _ hw⟩
            · skip
              have h8 : idxs p p.length (nth tgt i).phone ≠ [] := by simpa using h7
              refine cw_skip (post_blk (post_then (cw_region (sr rfl rfl rfl ((q_move rfl rfl)) ?_))))
              refine sr rfl rfl rfl ((q_add rfl rfl rfl (by intro hc; omega))) ?_
              refine sr rfl rfl rfl ((q_assign rfl rfl)) (sw_nil ?_)
              refine post_next (i + 1) (by exact .cons rfl (.cons rfl (.cons rfl (.cons rfl (.cons rfl (.cons rfl .nil)))))) (fun _ h => h) ⟨by omega, fun j hj => ?_⟩ (by omega)
              by_cases e : j = i
              · subst e; exact ⟨h8, hall⟩
              · exact hok j (by omega)
        · skip
          have hi' : i = tgt.length := by simp only [decide_eq_false_iff_not] at h5; omega
          subst hi'
          refine cw_exit (post_then_x (post_then_x (post_blk_eq (post_then (cw_seq (cw_region (sr rfl rfl rfl ((q_assign rfl rfl)) (sw_nil (post_then (cw_ret (post_ret1 rfl (resOk_tmp rfl) ?_)))))))))))
          exact fun w' hw => ⟨by rw [holdB_yes ⟨⟨hlt, hrows⟩, hiff.2 hok⟩], (fun w h => Cl.sel (by exact .nil _) w h) _ hw⟩
end Go.Proofs.YtomjbfeafodfbaaGreat

set_option autoImplicit false
set_option maxRecDepth 100000
namespace Go.Proofs.YtomjbfeafodfbaaGreat
open Go.Sx
open Enc (enc val)
theorem ver96_spec (b : Nat) (sp : SlV) (p : List Un) (vs : List SlV) : PredL Tryz.prog 96 #[.pointer (some ⟨b, 0, none⟩)] (fun s : SlV => !decide (s.len = p.length)) (fun w => BlkAt b [sp.v] 22 w ∧ RdL sp.v p w) vs := fun s _ w ⟨hR1, hR2⟩ => by
  have hb := blk_stb hR1
  have hl := rd_stb hR2
  refine calls_cw (vs := [_, _]) Tryz.func96 rfl Tryz.ntmps96 rfl (Cl.start0 w) (cw_seq (cw_region (sr rfl rfl rfl ((q_assign rfl rfl)) (sw_nil (post_then (cw_seq (cw_region (sr rfl rfl rfl ((q_move rfl rfl)) (sr rfl rfl rfl ((q_lenV rfl (.cons rfl inferInstance (.nil)))) ?_)))))))))
  refine sr rfl rfl rfl ((q_loadS rfl rfl (fun w hw => Stb.cl (by assumption) hw) rfl)) ?_
  refine sr rfl rfl rfl ((q_len rfl (.cons rfl inferInstance (.nil)) (by exact fun w hw => Stb.cl (by assumption) hw))) ?_
  refine sr rfl rfl rfl ((q_neq rfl rfl rfl)) (sr rfl rfl rfl ((q_assign rfl rfl)) (sw_nil (post_then (cw_ret (post_ret1 rfl (resOk_tmp rfl) ?_)))))
  exact fun w' hw => ⟨by congr 3; rw [decide_eq_decide]; omega, (fun w h => Cl.sel (by exact .nil _) w h) _ hw⟩
theorem ver99_spec (b9 b8 : Nat) (sc : SlV) (cost : Int) (vs : List SlV) (row : List Int) (hv : 0 < vs.length) (us : List Int) (hu : ∀ u ∈ us, 0 ≤ u ∧ u < row.length) : PredL Tryz.prog 99 #[.pointer (some ⟨b9, 0, none⟩), .pointer (some ⟨b8, 0, none⟩)] (fun u : Int => decide (nth row u.toNat < cost)) (fun w => BlkAt b9 [sc.v] 31 w ∧ BlkAt b8 [.int .i64 cost] 3 w ∧ RdL sc.v vs w ∧ RdL (nth vs 0).v row w) us := fun u hux w ⟨hR1, hR2, hR3, hR4⟩ => by
  have hb9 := blk_stb hR1
  have hb8 := blk_stb hR2
  have h1 := rd_stb hR3
  have hr0 := rd_stb hR4
  have hu0 := hu u hux
  refine calls_cw (vs := [_, _, _]) Tryz.func99 rfl Tryz.ntmps99 rfl (Cl.start0 w) (cw_seq (cw_region (sr rfl rfl rfl ((q_assign rfl rfl)) (sw_nil (post_then (cw_seq ?_))))))
  refine cw_region_q mixed_Tryz (by kernel_rfl) ?_
  refine qr rfl rfl rfl ((q_loadS rfl rfl (fun w hw => Stb.cl (by assumption) hw) rfl)) ?_
  refine qr rfl rfl rfl ((q_indexN rfl rfl rfl (by exact fun w hw => Stb.cl (by assumption) hw) (by intro hc; omega))) ?_
  refine qr rfl rfl rfl ((q_loadEl rfl rfl rfl (by exact fun w hw => Stb.cl (by assumption) hw) (by intro hc; omega))) ?_
  refine qr rfl rfl rfl ((q_move rfl rfl)) ?_
  refine qr rfl rfl rfl ((q_index rfl rfl rfl (by exact fun w hw => Stb.cl (by assumption) hw) (by intro hc; omega))) ?_
  refine qr rfl rfl rfl ((q_loadEl rfl rfl rfl (by exact fun w hw => Stb.cl (by assumption) hw) (by intro hc; omega))) ?_
  refine qr rfl rfl rfl ((q_loadS rfl rfl (fun w hw => Stb.cl (by assumption) hw) rfl)) ?_
  refine qr rfl rfl rfl ((q_lss rfl rfl rfl)) (qr rfl rfl rfl ((q_assign rfl rfl)) (qw_end (post_then (cw_ret (post_ret1 rfl (resOk_tmp rfl) ?_)))))
  exact fun w' hw => ⟨rfl, (fun w h => Cl.sel (by exact .nil _) w h) _ hw⟩
theorem any_len {w : World} {sv : Value} {vs : List SlV} {ls : List (List Int)} (hm : Mt w sv vs ls) (n : Nat) : (vs.any fun s => !decide (s.len = n)) = false ↔ ∀ r ∈ ls, r.length = n := by
  have n1 := hm.n
  have hlen : ∀ i, i < ls.length → (nth vs i).len = (nth ls i).length := fun i hi => (rd_lens (hm.r i hi)).1
  rw [List.any_eq_false]
  constructor
  · intro h r hr
    obtain ⟨i, hi, rfl⟩ := List.getElem_of_mem hr
    have h2 := h (nth vs i) (nth_mem (by omega))
    rw [hlen i hi, nth_get hi] at h2
    simpa using h2
  · intro h s hs
    obtain ⟨i, hi, rfl⟩ := List.getElem_of_mem hs
    have h2 := hlen i (by omega)
    rw [nth_get hi, nth_get (by omega)] at h2
    rw [h2, h _ (List.getElem_mem _)]
    simp
theorem poss_of {p : List Un} {tgt : List Wan} (h : ∀ i, i < tgt.length → idxs p p.length (nth tgt i).phone ≠ []) : possP p tgt = true := by simpa [possP] using h
theorem poss_is {p : List Un} {tgt : List Wan} (h : possP p tgt = true) {i : Nat} (hi : i < tgt.length) : idxs p p.length (nth tgt i).phone ≠ [] := by
  have := List.all_eq_true.1 h i (by simpa using hi)
  simpa using this
theorem verify_bad (sp tp sc : SlV) (p : List Un) (tgt : List Wan) (x : Wts) (cost : Int) (w : World) (hvo : VoRd w sp p) (htp : Stb w [] (RdL tp.v tgt)) (htg : ∀ t ∈ tgt, WaRd t) (hE : beginE p tgt x ≠ 0) :
    Calls Tryz.prog 54 #[sp.v, tp.v, val x, .int .i64 cost, sc.v] w fun e w' => e = .returned (.bool false) ∧ Cl w [] [] w' := by
  refine calls_cw (vs := [_, _, _, _, _]) Tryz.func54 rfl Tryz.ntmps54 rfl (Cl.start0 w) (cw_seq (cw_region ?_))
  refine sw_x rfl rfl rfl (e_box rfl rfl rfl) (fun b5 => ?_)
  refine sw_x rfl rfl rfl (e_box rfl rfl rfl) (fun b7 => ?_)
  refine sw_x rfl rfl rfl (e_box rfl rfl rfl) (fun b8 => ?_)
  refine sw_x rfl rfl rfl (e_box rfl rfl rfl) (fun b9 => ?_)
  refine sr rfl rfl rfl ((q_assign rfl rfl)) (sw_nil (post_then (cw_seq (cw_region ?_))))
  refine sr rfl rfl rfl ((q_loadC rfl rfl (by exact .tail _ (.tail _ (.tail _ (.head _)))) rfl)) ?_
  refine sr rfl rfl rfl ((q_move rfl rfl)) ?_
  refine sr rfl rfl rfl ((q_loadA rfl rfl (by exact .tail _ (.tail _ (.head _))) rfl)) ?_
  refine sw_step rfl rfl rfl (q_call (CanCall.mk Tryz.call64) rfl (.cons rfl inferInstance (.cons rfl inferInstance (.cons rfl inferInstance (.nil)))) (fun _ w hw => callq hw (begin_no sp tp p tgt x w (hvo.arg hw) (stb_arg hw htp) htg hE))) (sr rfl rfl rfl ((q_move rfl rfl)) (sr rfl rfl rfl ((q_extract rfl rfl rfl)) (sr rfl rfl rfl ((q_extract rfl rfl rfl)) (sr rfl rfl rfl ((q_assign rfl rfl)) (sr rfl rfl rfl ((q_assign rfl rfl)) (sw_nil (post_then (cw_seq (cw_seq (cw_region (sr rfl rfl rfl ((q_move rfl rfl)) (sr rfl rfl rfl ((q_neq rfl rfl rfl)) (sr rfl rfl rfl ((q_move rfl rfl)) ?_)))))))))))))
  refine sr rfl rfl rfl ((q_loadC rfl rfl (by exact .head _) rfl)) ?_
  refine sr rfl rfl rfl ((q_lenV rfl (.cons rfl inferInstance (.nil)))) (sr rfl rfl rfl ((q_move rfl rfl)) ?_)
  refine sr rfl rfl rfl ((q_len rfl (.cons rfl inferInstance (.nil)) (by exact fun w hw => Stb.cl (by assumption) hw))) ?_
  refine sr rfl rfl rfl ((q_neq rfl rfl rfl)) (sr rfl rfl rfl ((q_or2 rfl rfl rfl)) (sr rfl rfl rfl ((q_move rfl rfl)) ?_))
  refine sr rfl rfl rfl ((q_loadC rfl rfl (by exact .head _) rfl)) ?_
  refine sr rfl rfl rfl ((q_func_l rfl (.cons rfl inferInstance (.nil)))) ?_
  refine sr rfl rfl rfl ((q_off (v := .bool false) (by simp [AllT, hE]))) ?_
  refine sr rfl rfl rfl ((q_or2 rfl rfl rfl)) (sr rfl rfl rfl ((q_move rfl rfl)) (sr rfl rfl rfl ((q_move rfl rfl)) ?_))
  refine sr rfl rfl rfl ((q_off (v := .bool false) (by simp [AllT, hE]))) ?_
  refine sr rfl rfl rfl ((q_not rfl rfl)) (sr rfl rfl rfl ((q_or2 rfl rfl rfl)) (sw_nil (post_then ?_)))
  refine cw_cond rfl (fun h => ?_) (fun h => ?_)
  · skip
    refine cw_seq (cw_region (sr rfl rfl rfl ((q_assign rfl rfl)) (sw_nil (post_then (cw_ret (post_then_r (post_ret1 rfl (resOk_tmp rfl) ?_)))))))
    exact fun w' hw => ⟨rfl, (fun w h => Cl.sel (by exact .nil _) w h) _ hw⟩
  · skip
    exfalso
    simp [hE] at h
structure VX where
  i : Nat
  m : List (P2 × Int)
structure OkV (p : List Un) (tgt : List Wan) (x : Wts) (ls : List (List Int)) (i : Nat) (v : Int) : Prop where
  row : cF ls i v ≤ fitC x (nth p v.toNat) (nth tgt i) + (if i + 1 < tgt.length then nxt p tgt x ls i v else 0)
set_option maxHeartbeats 2000000 in
theorem verify_ok (sp tp sc : SlV) (p : List Un) (tgt : List Wan) (x : Wts) (cost : Int) (vs : List SlV) (ls : List (List Int)) (w : World) (hvo : VoRd w sp p) (htp : Stb w [] (RdL tp.v tgt)) (htg : ∀ t ∈ tgt, WaRd t) (hm : Stb w [] (fun w' => Mt w' sc.v vs ls)) (hE : beginE p tgt x = 0) (ht : tameB ls = true) :
    Calls Tryz.prog 54 #[sp.v, tp.v, val x, .int .i64 cost, sc.v] w fun e w' => e = .returned (.bool (holdB p tgt x cost ls)) ∧ Cl w [] [] w' := by
  have hvl := hvo.l
  have hL := rd_len hvl.here
  have hL2 := rd_len htp.here
  obtain ⟨m1, m2, hv1, hv2, hv3⟩ := beginE_ok hE
  have h1 := stb_map hm fun _ h => h.l
  have hL3 := rd_len h1.here
  have n1 := hm.here.n
  refine calls_cw (vs := [_, _, _, _, _]) Tryz.func54 rfl Tryz.ntmps54 rfl (Cl.start0 w) (cw_seq (cw_region ?_))
  refine sw_x rfl rfl rfl (e_box rfl rfl rfl) (fun b5 => ?_)
  refine sw_x rfl rfl rfl (e_box rfl rfl rfl) (fun b7 => ?_)
  refine sw_x rfl rfl rfl (e_box rfl rfl rfl) (fun b8 => ?_)
  refine sw_x rfl rfl rfl (e_box rfl rfl rfl) (fun b9 => ?_)
  refine sr rfl rfl rfl ((q_assign rfl rfl)) (sw_nil (post_then (cw_seq (cw_region ?_))))
  refine sr rfl rfl rfl ((q_loadC rfl rfl (by exact .tail _ (.tail _ (.tail _ (.head _)))) rfl)) ?_
  refine sr rfl rfl rfl ((q_move rfl rfl)) ?_
  refine sr rfl rfl rfl ((q_loadA rfl rfl (by exact .tail _ (.tail _ (.head _))) rfl)) ?_
  refine sw_x rfl rfl rfl (e_call (CanCall.mk Tryz.call64) rfl (.cons rfl inferInstance (.cons rfl inferInstance (.cons rfl inferInstance (.nil)))) (fun w hw => begin_yes sp tp p tgt x w (hvo.arg hw) (stb_arg hw htp) htg hE)) (fun y => ?_)
  refine sw_imp fun hg => (sw_le (C' := Cl w [] (mpA y.K.bm ([] : List (P2 × Int)) :: blk b9 [sc.v] 31 :: blk b8 [.int .i64 cost] 3 :: blk b7 (enc x) 25 :: blk b5 [sp.v] 22 :: y.F)) (fun w' h => h.perm (.cons _ (List.perm_append_comm (l₁ := y.F) (l₂ := [blk b9 [sc.v] 31, blk b8 [.int .i64 cost] 3, blk b7 (enc x) 25, blk b5 [sp.v] 22])))) ?_)
  obtain ⟨hK, hKp, hKt, e1, e2, hTab⟩ := good_facts hg hE
  have hRd : ∀ {m : List (P2 × Int)} {w2 : World}, Cl w [] (mpA y.K.bm m :: blk b9 [sc.v] 31 :: blk b8 [.int .i64 cost] 3 :: blk b7 (enc x) 25 :: blk b5 [sp.v] 22 :: y.F) w2 → Stb w2 [] y.K.Rd := fun hw => tkx_rd hg hw.split0.2.1 (fun A hA => .tail _ (.tail _ (.tail _ (.tail _ (.tail _ hA))))) (stb_arg hw hvo.stb) (stb_arg hw htp)
  refine sr rfl rfl rfl ((q_move rfl rfl)) (sr rfl rfl rfl ((q_extract rfl rfl rfl)) (sr rfl rfl rfl ((q_extract rfl rfl rfl)) (sr rfl rfl rfl ((q_assign rfl rfl)) (sr rfl rfl rfl ((q_assign rfl rfl)) (sw_nil (post_then (cw_seq (cw_seq (cw_region (sr rfl rfl rfl ((q_move rfl rfl)) (sr rfl rfl rfl ((q_neq rfl rfl rfl)) (sr rfl rfl rfl ((q_move rfl rfl)) ?_))))))))))))
  refine sr rfl rfl rfl ((q_loadC rfl rfl (by exact .tail _ (.head _)) rfl)) ?_
  refine sr rfl rfl rfl ((q_len rfl (.cons rfl inferInstance (.nil)) (by exact fun w hw => Stb.cl (by assumption) hw))) ?_
  refine sr rfl rfl rfl ((q_move rfl rfl)) ?_
  refine sr rfl rfl rfl ((q_len rfl (.cons rfl inferInstance (.nil)) (by exact fun w hw => Stb.cl (by assumption) hw))) ?_
  refine sr rfl rfl rfl ((q_neq rfl rfl rfl)) (sr rfl rfl rfl ((q_or2 rfl rfl rfl)) (sr rfl rfl rfl ((q_move rfl rfl)) ?_))
  refine sr rfl rfl rfl ((q_loadC rfl rfl (by exact .tail _ (.head _)) rfl)) ?_
  refine sr rfl rfl rfl ((q_func_l rfl (.cons rfl inferInstance (.nil)))) ?_
  refine sw_step rfl rfl rfl (q_call (CanCall.mk Tryz.call95) rfl (.cons rfl inferInstance (.cons rfl inferInstance (.nil))) (fun _ w hw => callq hw (containsRow_spec sc.v vs 96 _ _ (fun w => BlkAt b5 [sp.v] 22 w ∧ RdL sp.v p w) w (stb_arg hw h1) ⟨fun w' k => ⟨(stb_blk hw (by exact .tail _ (.tail _ (.tail _ (.tail _ (.head _)))))).stb w' k, (stb_arg hw hvl).stb w' k⟩⟩ (CanCall.mk Tryz.call96) (ver96_spec b5 sp p vs)))) ?_
  refine sr rfl rfl rfl ((q_or2 rfl rfl rfl)) (sr rfl rfl rfl ((q_move rfl rfl)) (sr rfl rfl rfl ((q_move rfl rfl)) (sw_step rfl rfl rfl (q_call (CanCall.mk Tryz.call65) rfl (.cons rfl inferInstance (.nil)) (fun _ w hw => callq hw (possible_spec y.K w (hRd hw)))) (sr rfl rfl rfl ((q_not rfl rfl)) (sr rfl rfl rfl ((q_or2 rfl rfl rfl)) (sw_nil (post_then ?_)))))))
  refine cw_cond rfl (fun h => ?_) (fun h => ?_)
  · skip
    have hno : ¬ holdP p tgt x cost ls := fun k => by
      have k1 := (any_len hm.here p.length).2 k.1.2
      have k2 : possP p tgt = true := poss_of k.2.some
      rw [hKp, k1, k2] at h
      have := k.1.1
      simp at h
      omega
    refine cw_seq (cw_region (sr rfl rfl rfl ((q_assign rfl rfl)) (sw_nil (post_then (cw_ret (post_then_r (post_ret1 rfl (resOk_tmp rfl) ?_)))))))
    exact fun w' hw => ⟨by rw [holdB_no hno], cl_drop (F := []) hw⟩
  · skip
    simp only [Bool.or_eq_false_iff] at h
    have hlt : ls.length = tgt.length := by have := h.1.1.2; simp at this; omega
    have hrows := (any_len hm.here p.length).1 h.1.2
    have hP : possP p tgt = true := by have := h.2; rw [hKp] at this; simpa using this
    have hli : ∀ i, i < tgt.length → (nth ls i).length = p.length := fun i hi => hrows _ (nth_mem (by omega))
    refine cw_skip (post_then (cw_seq (cw_seq (cw_region (sr rfl rfl rfl ((q_move rfl rfl)) ?_)))))
    refine sr rfl rfl rfl ((q_len rfl (.cons rfl inferInstance (.nil)) (by exact fun w hw => Stb.cl (by assumption) hw))) ?_
    refine sr rfl rfl rfl ((q_eql rfl rfl rfl)) (sw_nil (post_then ?_))
    refine cw_cond rfl (fun h4 => ?_) (fun h4 => ?_)
    · skip
      have h0 : tgt.length = 0 := by simp at h4; simp [h4]
      have e1 : holdB p tgt x cost ls = decide (cost ≤ 0) := by
        by_cases hc : cost ≤ 0
        · rw [holdB_yes ⟨⟨hlt, hrows⟩, (hold_zero h0).2 hc⟩]; simp [hc]
        · rw [holdB_no fun k => hc ((hold_zero h0).1 k.2)]; simp [hc]
      refine cw_seq (cw_region ?_)
      refine sr rfl rfl rfl ((q_loadC rfl rfl (by exact .tail _ (.tail _ (.head _))) rfl)) ?_
      refine sr rfl rfl rfl ((q_leq rfl rfl rfl)) (sr rfl rfl rfl ((q_assign rfl rfl)) (sw_nil (post_then (cw_ret (post_then_r (post_ret1 rfl (resOk_tmp rfl) ?_))))))
      exact fun w' hw => ⟨by rw [e1], cl_drop (F := []) hw⟩
    · skip
      have h0 : tgt.length ≠ 0 := by intro h0; rw [List.eq_nil_of_length_eq_zero h0] at h4; simp at h4
      have hiff := hold_rows (ls := ls) (cost := cost) hE ht h0
      refine cw_skip (post_then (cw_seq (cw_seq (cw_region ?_))))
      refine sr rfl rfl rfl ((q_loadC rfl rfl (by exact .tail _ (.head _)) rfl)) ?_
      refine sr rfl rfl rfl ((q_len rfl (.cons rfl inferInstance (.nil)) (by exact fun w hw => Stb.cl (by assumption) hw))) ?_
      refine sr rfl rfl rfl ((q_move rfl rfl)) (sw_nil (post_then (cw_block ?_)))
      refine cw_loop (S := VX) (fun z => [(1, [], tp.v), (8, [], .pointer (some ⟨b8, 0, none⟩)), (9, [], .pointer (some ⟨b9, 0, none⟩)), (11, [], .pointer (some ⟨y.K.bk, 0, none⟩)), (49, [], sc.v), (50, [], .int .i64 vs.length), (51, [], .int .i64 z.i)]) (fun z => Cl w [] (mpA y.K.bm z.m :: blk b9 [sc.v] 31 :: blk b8 [.int .i64 cost] 3 :: blk b7 (enc x) 25 :: blk b5 [sp.v] 22 :: y.F)) (fun z => z.i ≤ tgt.length ∧ (∀ j, j < z.i → ∀ v ∈ idxs p p.length (nth tgt j).phone, OkV p tgt x ls j v) ∧ y.K.MemoOk z.m) (fun z => tgt.length - z.i) ⟨0, []⟩ ⟨Nat.zero_le _, fun j hj => by simp at hj, fun k v hk => by cases hk⟩ (by exact .cons rfl (.cons rfl (.cons rfl (.cons rfl (.cons rfl (.cons rfl (.cons rfl .nil))))))) (fun _ h => h) ?_
      rintro ⟨i, m⟩ ⟨hi, hok, hmo⟩
      dsimp only at hi hok hmo ⊢
      refine cw_seq (cw_region (sr rfl rfl rfl ((q_lss rfl rfl rfl)) (sw_nil (post_then (cw_seq ?_)))))
      refine cw_cond rfl (fun h5 => ?_) (fun h5 => ?_)
      · skip
        have hi' : i < tgt.length := by simp only [decide_eq_true_eq] at h5; omega
        have hit : i < y.K.tgt.length := by rw [e2]; omega
        have hU : y.K.U i = idxs p p.length (nth tgt i).phone := congrFun (congrArg Tsk.us hKt) i
        have hF : ∀ u, y.K.F i u = fitC x (nth p u.toNat) (nth tgt i) := fun u => congrFun (congrFun (congrArg Tsk.F hKt) i) u
        have hul : i < y.K.usv.length := by rw [hg.husv, List.length_map]; omega
        have hr := stb_map hm fun _ h => h.r i (by omega)
        have hlii := hli i hi'
        have ho := wa_ok (List.all_eq_true.1 hv2 _ (nth_mem hi'))
        have hUn : (y.K.U i).length ≤ 2000 := by have := TK.us_len hK i; rw [e1] at this; omega
        have hUr : ∀ w2, Cl w [] (mpA y.K.bm m :: blk b9 [sc.v] 31 :: blk b8 [.int .i64 cost] 3 :: blk b7 (enc x) 25 :: blk b5 [sp.v] 22 :: y.F) w2 → RdL (nth y.K.usv i).v (y.K.U i) w2 := fun w2 hw => (hRd hw).here.uu i hit
        refine cw_skip (post_then (cw_seq (cw_block (cw_seq (cw_region (sr rfl rfl rfl ((q_move rfl rfl)) ?_))))))
        refine sr rfl rfl rfl ((q_indexN rfl rfl rfl (by exact fun w hw => Stb.cl (by assumption) hw) (by intro hc; omega))) ?_
        refine sr rfl rfl rfl ((q_loadEl rfl rfl rfl (by exact fun w hw => Stb.cl (by assumption) hw) (by intro hc; omega))) ?_
        refine sr rfl rfl rfl ((q_assign rfl rfl)) (sr rfl rfl rfl ((q_assign rfl rfl)) (sw_nil (post_then (cw_seq (cw_region (sr rfl rfl rfl ((q_move rfl rfl)) (sr rfl rfl rfl ((q_nilCheck rfl rfl)) (sr rfl rfl rfl ((q_fieldAddr rfl rfl)) ?_))))))))
        refine sr rfl rfl rfl ((q_loadC rfl rfl (by exact .tail _ (.tail _ (.tail _ (.tail _ (.tail _ (.head _)))))) rfl)) ?_
        refine sr rfl rfl rfl ((q_move rfl rfl)) ?_
        refine sr rfl rfl rfl ((q_indexN rfl rfl rfl (by exact fun w hw => rd_own hw (by exact .tail _ (.tail _ (.tail _ (.tail _ (.tail _ (.tail _ (.head _)))))))) (by intro hc; omega))) ?_
        refine sr rfl rfl rfl ((q_loadEl rfl rfl rfl (by exact fun w hw => rd_own hw (by exact .tail _ (.tail _ (.tail _ (.tail _ (.tail _ (.tail _ (.head _)))))))) (by intro hc; omega))) ?_
        refine sr rfl rfl rfl ((q_len rfl (.cons rfl inferInstance (.nil)) (by assumption))) ?_
        refine sr rfl rfl rfl ((q_move rfl rfl)) (sw_nil (post_then (cw_block ?_)))
        refine cw_loop (S := VX) (fun z => [(1, [], tp.v), (8, [], .pointer (some ⟨b8, 0, none⟩)), (9, [], .pointer (some ⟨b9, 0, none⟩)), (11, [], .pointer (some ⟨y.K.bk, 0, none⟩)), (13, [], .int .i64 i), (14, [], (nth vs i).v), (49, [], sc.v), (50, [], .int .i64 vs.length), (51, [], .int .i64 i), (62, [], (nth y.K.usv i).v), (63, [], .int .i64 (y.K.U i).length), (64, [], .int .i64 z.i)]) (fun z => Cl w [] (mpA y.K.bm z.m :: blk b9 [sc.v] 31 :: blk b8 [.int .i64 cost] 3 :: blk b7 (enc x) 25 :: blk b5 [sp.v] 22 :: y.F)) (fun z => z.i ≤ (y.K.U i).length ∧ (∀ j, j < z.i → OkV p tgt x ls i (nth (y.K.U i) j)) ∧ y.K.MemoOk z.m) (fun z => (y.K.U i).length - z.i) ⟨0, m⟩ ⟨Nat.zero_le _, fun j hj => by simp at hj, hmo⟩ (by exact .cons rfl (.cons rfl (.cons rfl (.cons rfl (.cons rfl (.cons rfl (.cons rfl (.cons rfl (.cons rfl (.cons rfl (.cons rfl (.cons rfl .nil)))))))))))) (fun _ h => h) ?_
        rintro ⟨k, m'⟩ ⟨hk, hall, hmo'⟩
        dsimp only at hk hall hmo' ⊢
        have hUr' : ∀ w2, Cl w [] (mpA y.K.bm m' :: blk b9 [sc.v] 31 :: blk b8 [.int .i64 cost] 3 :: blk b7 (enc x) 25 :: blk b5 [sp.v] 22 :: y.F) w2 → RdL (nth y.K.usv i).v (y.K.U i) w2 := fun w2 hw => (hRd hw).here.uu i hit
        refine cw_seq (cw_region (sr rfl rfl rfl ((q_lss rfl rfl rfl)) (sw_nil (post_then (cw_seq ?_)))))
        refine cw_cond rfl (fun h6 => ?_) (fun h6 => ?_)
        · skip
          have hk' : k < (y.K.U i).length := by simp only [decide_eq_true_eq] at h6; omega
          have hmemU : nth (y.K.U i) k ∈ idxs p p.length (nth tgt i).phone := by rw [← hU]; exact nth_mem hk'
          refine cw_skip (post_then (cw_seq (cw_block (cw_seq (cw_region ?_)))))
          refine sr rfl rfl rfl ((q_indexN rfl rfl rfl (by assumption) (by intro hc; omega))) ?_
          refine sr rfl rfl rfl ((q_loadEl rfl rfl rfl (by assumption) (by intro hc; omega))) ?_
          refine sr rfl rfl rfl ((q_assign rfl rfl)) (sw_nil (post_then (cw_seq (cw_region (sr rfl rfl rfl ((q_move rfl rfl)) (sr rfl rfl rfl ((q_nilCheck rfl rfl)) (sr rfl rfl rfl ((q_fieldAddr rfl rfl)) ?_)))))))
          refine sr rfl rfl rfl ((q_loadC rfl rfl (by exact .tail _ (.tail _ (.tail _ (.tail _ (.tail _ (.head _)))))) rfl)) ?_
          refine sr rfl rfl rfl ((q_move rfl rfl)) (sr rfl rfl rfl ((q_move rfl rfl)) ?_)
          obtain ⟨u, hu⟩ : ∃ u, nth (y.K.U i) k = u := ⟨_, rfl⟩
          rw [hu] at hmemU ⊢
          obtain ⟨q, rfl, hq⟩ := us_nat hmemU
          have hbf := fitC_bd (wt_ok hv3) (vo_ok hv1 (nth_mem hq)) ho
          have hnb := nxt_bd (tgt := tgt) hE ht i hq
          have ht2 := tame_nth ht i q
          refine sw_x rfl rfl rfl (e_callH (A := [mpA y.K.bm m']) (F := blk b9 [sc.v] 31 :: blk b8 [.int .i64 cost] 3 :: blk b7 (enc x) 25 :: blk b5 [sp.v] 22 :: y.F) (CanCall.mk Tryz.call105) rfl rfl (.cons rfl inferInstance (.cons rfl inferInstance (.nil))) (.refl _) (fun w bs k1 k2 k3 k4 k5 => cost_spec y.K hK i hit q ⟨by omega, by rw [e1]; omega⟩ m' hmo' w bs k1 k2 k3 (tkx_rd hg k5 (fun A hA => .tail _ (.tail _ (.tail _ (.tail _ hA)))) (k4 _ hvo.stb) (k4 _ htp)))) (fun m3 => ?_)
          refine sw_imp fun hm3 => ?_
          rw [hF, Int.toNat_natCast]
          refine sr rfl rfl rfl ((q_assign rfl rfl)) (sw_nil (post_then (cw_seq (cw_seq (cw_region (sr rfl rfl rfl ((q_move rfl rfl)) ?_))))))
          refine sr rfl rfl rfl ((q_add rfl rfl rfl (by intro hc; omega))) ?_
          refine sr rfl rfl rfl ((q_move rfl rfl)) ?_
          refine sr rfl rfl rfl ((q_len rfl (.cons rfl inferInstance (.nil)) (by exact fun w hw => Stb.cl (by assumption) hw))) ?_
          refine sr rfl rfl rfl ((q_lss rfl rfl rfl)) (sw_nil (post_then ?_))
          refine cw_cut (S := Unit) (fun _ => [(1, [], tp.v), (8, [], .pointer (some ⟨b8, 0, none⟩)), (9, [], .pointer (some ⟨b9, 0, none⟩)), (11, [], .pointer (some ⟨y.K.bk, 0, none⟩)), (13, [], .int .i64 i), (14, [], (nth vs i).v), (16, [], .int .i64 q), (17, [], .int .i64 (fitC x (nth p q) (nth tgt i) + (if i + 1 < tgt.length then nxt p tgt x ls i q else 0))), (49, [], sc.v), (50, [], .int .i64 vs.length), (51, [], .int .i64 i), (62, [], (nth y.K.usv i).v), (63, [], .int .i64 (y.K.U i).length), (64, [], .int .i64 k)]) (fun _ => Cl w [] (mpA y.K.bm m3 :: blk b9 [sc.v] 31 :: blk b8 [.int .i64 cost] 3 :: blk b7 (enc x) 25 :: blk b5 [sp.v] 22 :: y.F)) (fun _ => True) ?_ ?_
          · refine cw_cond rfl (fun h9 => ?_) (fun h9 => ?_)
            · skip
              have hi1 : i + 1 < tgt.length := by simp only [decide_eq_true_eq] at h9; omega
              have hr1 := stb_map hm fun _ h => h.r (i + 1) (by omega)
              have en : minL ((y.K.U (i + 1)).map fun v => y.K.J q v + nth (nth ls (i + 1)) v.toNat) = nxt p tgt x ls i q := by
                rw [← nx_nxt hE ht (poss_is hP hi1) hq, ← hKt]; rfl
              refine cw_region (sr rfl rfl rfl ((q_move rfl rfl)) (sr rfl rfl rfl ((q_move rfl rfl)) ?_))
              refine sr rfl rfl rfl ((q_loadC rfl rfl (by exact .tail _ (.head _)) rfl)) ?_
              refine sr rfl rfl rfl ((q_move rfl rfl)) ?_
              refine sr rfl rfl rfl ((q_add rfl rfl rfl (by intro hc; omega))) ?_
              refine sr rfl rfl rfl ((q_indexN rfl rfl rfl (by exact fun w hw => Stb.cl (by assumption) hw) (by intro hc; (simp only [List.length_set, List.length_append, List.length_cons, List.length_nil, List.length_replicate, List.length_take, List.length_drop, List.length_map]; omega)))) ?_
              refine sr rfl rfl rfl ((q_loadEl rfl rfl rfl (by exact fun w hw => Stb.cl (by assumption) hw) (by intro hc; (simp only [List.length_set, List.length_append, List.length_cons, List.length_nil, List.length_replicate, List.length_take, List.length_drop, List.length_map]; omega)))) ?_
              refine sr rfl rfl rfl ((q_move rfl rfl)) ?_
              refine sr rfl rfl rfl ((q_add rfl rfl rfl (by intro hc; omega))) ?_
              refine sr rfl rfl rfl ((q_move rfl rfl)) ?_
              rw [show ((i : Int) + 1) = ((i + 1 : Nat) : Int) by omega]
              refine sw_step rfl rfl rfl (q_call (v := .int .i64 (nxt p tgt x ls i q)) (CanCall.mk Tryz.call98) rfl (.cons rfl inferInstance (.cons rfl inferInstance (.cons rfl inferInstance (.cons rfl inferInstance (.nil))))) (fun _ w hw => callq hw (by have := next_spec y.K hK (nth vs (i + 1)).v (nth ls (i + 1)) (i + 1) (by rw [e2]; omega) q ⟨by omega, by rw [e1]; omega⟩ (by rw [e1]; exact hli (i + 1) hi1) (fun v _ => by have := tame_nth ht (i + 1) v.toNat; omega) w (stb_arg hw hr1) (hRd hw); rw [en] at this; exact this))) ?_
              refine sw_step rfl rfl rfl (q_call (v := .int .i64 (fitC x (nth p q) (nth tgt i) + nxt p tgt x ls i q)) (CanCall.mk Tryz.call97) rfl (.cons rfl inferInstance (.cons rfl inferInstance (.nil))) (fun _ w hw => callq hw (by have := plus_spec (fitC x (nth p q) (nth tgt i)) (nxt p tgt x ls i q) w (by omega) (by omega); rw [show min (fitC x (nth p q) (nth tgt i) + nxt p tgt x ls i q) 9223372036854775807 = fitC x (nth p q) (nth tgt i) + nxt p tgt x ls i q by omega] at this; exact this))) ?_
              refine sr rfl rfl rfl ((q_assign rfl rfl)) (sw_nil ?_)
              refine post_meet () ?_ (fun _ h => h) trivial
              rw [if_pos hi1]
              exact (by exact .cons rfl (.cons rfl (.cons rfl (.cons rfl (.cons rfl (.cons rfl (.cons rfl (.cons rfl (.cons rfl (.cons rfl (.cons rfl (.cons rfl (.cons rfl (.cons rfl .nil))))))))))))))
            · skip
              have hi1 : ¬ i + 1 < tgt.length := by simp only [decide_eq_false_iff_not] at h9; omega
              refine cw_skip ?_
              refine post_meet () ?_ (fun _ h => h) trivial
              rw [if_neg hi1, Int.add_zero]
              exact (by exact .cons rfl (.cons rfl (.cons rfl (.cons rfl (.cons rfl (.cons rfl (.cons rfl (.cons rfl (.cons rfl (.cons rfl (.cons rfl (.cons rfl (.cons rfl (.cons rfl .nil))))))))))))))
          · intro _ _
            refine post_then ?_
            generalize hmost : fitC x (nth p q) (nth tgt i) + (if i + 1 < tgt.length then nxt p tgt x ls i q else 0) = most
            refine cw_seq (cw_region (sr rfl rfl rfl ((q_move rfl rfl)) (sr rfl rfl rfl ((q_move rfl rfl)) ?_)))
            refine sr rfl rfl rfl ((q_indexN rfl rfl rfl (by exact fun w hw => Stb.cl (by assumption) hw) (by intro hc; omega))) ?_
            refine sr rfl rfl rfl ((q_loadEl rfl rfl rfl (by exact fun w hw => Stb.cl (by assumption) hw) (by intro hc; omega))) ?_
            refine sr rfl rfl rfl ((q_move rfl rfl)) (sr rfl rfl rfl ((q_gtr rfl rfl rfl)) (sw_nil (post_then ?_)))
            refine cw_cond rfl (fun h10 => ?_) (fun h10 => ?_)
            · skip
              have h11 : ¬ OkV p tgt x ls i q := fun k => by
                have k1 := k.row
                rw [Int.toNat_natCast, hmost, cF, Int.toNat_natCast] at k1
                simp only [Int.toNat_natCast, decide_eq_true_eq] at h10
                omega
              refine cw_seq (cw_region (sr rfl rfl rfl ((q_assign rfl rfl)) (sw_nil (post_then (cw_ret (post_blk_r (post_then_r (post_then_r (post_blk_r (post_blk_r (post_then_r (post_then_r (post_blk_r (post_then_r (post_ret1 rfl (resOk_tmp rfl) ?_)))))))))))))))
              exact fun w' hw => ⟨by rw [holdB_no fun k => h11 ⟨((hiff.1 k.2 i hi').2 _ hmemU).row⟩], cl_drop (F := []) hw⟩
            · skip
              have h11 : OkV p tgt x ls i q := by
                refine ⟨?_⟩
                simp only [Int.toNat_natCast, decide_eq_false_iff_not] at h10
                rw [Int.toNat_natCast, hmost, cF, Int.toNat_natCast]
                omega
              refine cw_skip (post_blk (post_then (cw_region ?_)))
              refine sr rfl rfl rfl ((q_add rfl rfl rfl (by intro hc; omega))) ?_
              refine sr rfl rfl rfl ((q_move rfl rfl)) (sw_nil ?_)
              refine post_next ⟨k + 1, m3⟩ (by exact .cons rfl (.cons rfl (.cons rfl (.cons rfl (.cons rfl (.cons rfl (.cons rfl (.cons rfl (.cons rfl (.cons rfl (.cons rfl (.cons rfl .nil)))))))))))) (fun _ h => h) ⟨by simp only; omega, fun j hj => ?_, hm3⟩ (by simp only; omega)
              simp only at hj
              by_cases e : j = k
              · subst e; rw [hu]; exact h11
              · exact hall j (by omega)
        · skip
          have hk' : k = (y.K.U i).length := by simp only [decide_eq_false_iff_not] at h6; omega
          subst hk'
          refine cw_exit (post_then_x (post_then_x (post_blk_eq (post_blk (post_then (cw_region ?_))))))
          refine sr rfl rfl rfl ((q_add rfl rfl rfl (by intro hc; omega))) ?_
          refine sr rfl rfl rfl ((q_move rfl rfl)) (sw_nil ?_)
          refine post_next ⟨i + 1, m'⟩ (by exact .cons rfl (.cons rfl (.cons rfl (.cons rfl (.cons rfl (.cons rfl (.cons rfl .nil))))))) (fun _ h => h) ⟨by simp only; omega, fun j hj v hv => ?_, hmo'⟩ (by simp only; omega)
          simp only at hj
          by_cases e : j = i
          · subst e
            rw [← hU] at hv
            obtain ⟨r, hr2, rfl⟩ := List.getElem_of_mem hv
            have := hall r hr2
            rwa [nth_get hr2] at this
          · exact hok j (by omega) v hv
      · skip
        have hi' : i = tgt.length := by simp only [decide_eq_false_iff_not] at h5; omega
        subst hi'
        have h0' : 0 < tgt.length := by omega
        have hul : 0 < y.K.usv.length := by rw [hg.husv, List.length_map]; omega
        have hr0 := stb_map hm fun _ h => h.r 0 (by omega)
        have hU : y.K.U 0 = idxs p p.length (nth tgt 0).phone := congrFun (congrArg Tsk.us hKt) 0
        have hus : ∀ u ∈ y.K.U 0, 0 ≤ u ∧ u < (nth ls 0).length := fun u hu => by
          rw [hU] at hu
          obtain ⟨q, rfl, hq⟩ := us_nat hu
          rw [hli 0 h0']
          omega
        have hfin : (!(y.K.U 0).any fun u => decide (nth (nth ls 0) u.toNat < cost)) = holdB p tgt x cost ls := by
          rw [hU, Bool.eq_iff_iff, holdB_iff]
          simp only [Bool.not_eq_true', List.any_eq_false, decide_eq_true_eq]
          constructor
          · intro h
            refine ⟨⟨hlt, hrows⟩, hiff.2 fun i hi => ⟨poss_is hP hi, fun v hv => ⟨(hok i hi v hv).row, fun h2 => ?_⟩⟩⟩
            subst h2
            have := h v hv
            rw [cF]; omega
          · intro h v hv
            have := ((hiff.1 h.2 0 h0').2 v hv).low rfl
            rw [cF] at this; omega
        refine cw_exit (post_then_x (post_then_x (post_blk_eq (post_then (cw_seq (cw_region (sr rfl rfl rfl ((q_move rfl rfl)) (sr rfl rfl rfl ((q_nilCheck rfl rfl)) (sr rfl rfl rfl ((q_fieldAddr rfl rfl)) ?_)))))))))
        refine sr rfl rfl rfl ((q_loadC rfl rfl (by exact .tail _ (.tail _ (.tail _ (.tail _ (.tail _ (.head _)))))) rfl)) ?_
        refine sr rfl rfl rfl ((q_indexN rfl rfl rfl (by exact fun w hw => rd_own hw (by exact .tail _ (.tail _ (.tail _ (.tail _ (.tail _ (.tail _ (.head _)))))))) (by intro hc; omega))) ?_
        refine sr rfl rfl rfl ((q_loadEl rfl rfl rfl (by exact fun w hw => rd_own hw (by exact .tail _ (.tail _ (.tail _ (.tail _ (.tail _ (.tail _ (.head _)))))))) (by intro hc; omega))) ?_
        refine sr rfl rfl rfl ((q_func_l rfl (.cons rfl inferInstance (.cons rfl inferInstance (.nil))))) ?_
        refine sw_step rfl rfl rfl (q_call (v := .bool ((y.K.U 0).any fun u => decide (nth (nth ls 0) u.toNat < cost))) (CanCall.mk Tryz.call81) rfl (.cons rfl inferInstance (.cons rfl inferInstance (.nil))) (fun _ w hw => callq hw (containsInt_spec (nth y.K.usv 0).v (y.K.U 0) 99 _ _ (fun w => BlkAt b9 [sc.v] 31 w ∧ BlkAt b8 [.int .i64 cost] 3 w ∧ RdL sc.v vs w ∧ RdL (nth vs 0).v (nth ls 0) w) w (stb_map (hRd hw) fun _ h => h.uu 0 (by rw [e2]; omega)) ⟨fun w' k => ⟨(stb_blk hw (by exact .tail _ (.head _))).stb w' k, (stb_blk hw (by exact .tail _ (.tail _ (.head _)))).stb w' k, (stb_arg hw h1).stb w' k, (stb_arg hw hr0).stb w' k⟩⟩ (CanCall.mk Tryz.call99) (ver99_spec b9 b8 sc cost vs (nth ls 0) (by omega) _ hus)))) ?_
        refine sr rfl rfl rfl ((q_not rfl rfl)) (sr rfl rfl rfl ((q_assign rfl rfl)) (sw_nil (post_then (cw_ret (post_ret1 rfl (resOk_tmp rfl) ?_)))))
        exact fun w' hw => ⟨by rw [hfin], cl_drop (F := []) hw⟩
theorem verify_spec (sp tp sc : SlV) (p : List Un) (tgt : List Wan) (x : Wts) (cost : Int) (vs : List SlV) (ls : List (List Int)) (w : World) (hvo : VoRd w sp p) (htp : Stb w [] (RdL tp.v tgt)) (htg : ∀ t ∈ tgt, WaRd t) (hm : Stb w [] (fun w' => Mt w' sc.v vs ls)) (ht : tameB ls = true) :
    Calls Tryz.prog 54 #[sp.v, tp.v, val x, .int .i64 cost, sc.v] w fun e w' => e = .returned (.bool (decide (beginE p tgt x = 0) && holdB p tgt x cost ls)) ∧ Cl w [] [] w' := by
  by_cases hE : beginE p tgt x = 0
  · have := verify_ok sp tp sc p tgt x cost vs ls w hvo htp htg hm hE ht
    simpa [hE] using this
  · have := verify_bad sp tp sc p tgt x cost w hvo htp htg hE
    simpa [hE] using this
end Go.Proofs.YtomjbfeafodfbaaGreat

set_option autoImplicit false
set_option maxRecDepth 100000
namespace Go.Proofs.YtomjbfeafodfbaaGreat
open Go.Sx
open Enc (enc val)
def seqAt (p : List Un) (tgt : List Wan) (s : List Int) (k : Nat) : Bool := decide (nth s k ∈ idxs p p.length (nth tgt k).phone)
def seqB (p : List Un) (tgt : List Wan) (s : List Int) : Bool := decide (s.length = tgt.length) && (List.range s.length).all (seqAt p tgt s)
theorem seq_at {p : List Un} {tgt : List Wan} {s : List Int} {k : Nat} (h : seqAt p tgt s k = true) : 0 ≤ nth s k ∧ nth s k < p.length ∧ (nth p (nth s k).toNat).phone = (nth tgt k).phone := by
  simp only [seqAt, decide_eq_true_eq] at h
  exact TK.idx_mem.1 h
theorem seq_no {p : List Un} {tgt : List Wan} {s : List Int} {k : Nat} (hk : k < s.length) (h : seqAt p tgt s k = false) : seqB p tgt s = false := by
  simp only [seqB, Bool.and_eq_false_iff]
  exact .inr (List.all_eq_false.2 ⟨k, by simpa using hk, by simp [h]⟩)
theorem seq_yes {p : List Un} {tgt : List Wan} {s : List Int} (hl : s.length = tgt.length) (h : ∀ k, k < s.length → seqAt p tgt s k = true) : seqB p tgt s = true := by
  simp only [seqB, Bool.and_eq_true, decide_eq_true_eq]
  exact ⟨hl, List.all_eq_true.2 fun k hk => h k (by simpa using hk)⟩
theorem seq_len {p : List Un} {tgt : List Wan} {s : List Int} (hl : s.length ≠ tgt.length) : seqB p tgt s = false := by
  simp [seqB, hl]
theorem seqB_at {p : List Un} {tgt : List Wan} {s : List Int} (h : seqB p tgt s = true) : s.length = tgt.length ∧ ∀ k, k < s.length → seqAt p tgt s k = true := by
  simp only [seqB, Bool.and_eq_true, decide_eq_true_eq] at h
  exact ⟨h.1, fun k hk => List.all_eq_true.1 h.2 k (by simpa using hk)⟩
theorem refSequence_spec (sp tp su : SlV) (p : List Un) (tgt : List Wan) (s : List Int) (w : World) (hvo : VoRd w sp p) (htp : Stb w [] (RdL tp.v tgt)) (hsu : Stb w [] (RdL su.v s)) :
    Calls Tryz.prog 58 #[sp.v, tp.v, su.v] w fun e w' => e = .returned (.bool (seqB p tgt s)) ∧ Cl w [] [] w' := by
  have hvl := hvo.l
  have hL := rd_len hvl.here
  have hL2 := rd_len hsu.here
  have hL3 := rd_len htp.here
  refine calls_cw (vs := [_, _, _]) Tryz.func58 rfl Tryz.ntmps58 rfl (Cl.start0 w) (cw_seq (cw_region (sr rfl rfl rfl ((q_assign rfl rfl)) (sw_nil (post_then (cw_seq (cw_seq (cw_region (sr rfl rfl rfl ((q_move rfl rfl)) ?_)))))))))
  refine sr rfl rfl rfl ((q_len rfl (.cons rfl inferInstance (.nil)) (by exact fun w hw => Stb.cl (by assumption) hw))) ?_
  refine sr rfl rfl rfl ((q_move rfl rfl)) ?_
  refine sr rfl rfl rfl ((q_len rfl (.cons rfl inferInstance (.nil)) (by exact fun w hw => Stb.cl (by assumption) hw))) ?_
  refine sr rfl rfl rfl ((q_neq rfl rfl rfl)) (sw_nil (post_then ?_))
  refine cw_cond rfl (fun h => ?_) (fun h => ?_)
  · skip
    have h1 : s.length ≠ tgt.length := by simp only [Bool.not_eq_true', decide_eq_false_iff_not] at h; omega
    refine cw_seq (cw_region (sr rfl rfl rfl ((q_assign rfl rfl)) (sw_nil (post_then (cw_ret (post_then_r (post_ret1 rfl (resOk_tmp rfl) ?_)))))))
    exact fun w' hw => ⟨by rw [seq_len h1], (fun w h => Cl.sel (by exact .nil _) w h) _ hw⟩
  · skip
    have hl : s.length = tgt.length := by simp only [Bool.not_eq_false', decide_eq_true_eq] at h; omega
    refine cw_skip (post_then (cw_seq (cw_seq (cw_region (sr rfl rfl rfl ((q_assign rfl rfl)) (sw_nil (post_then (cw_block ?_))))))))
    refine cw_loop (S := Nat) (fun k => [(0, [], sp.v), (1, [], tp.v), (2, [], su.v), (7, [], .int .i64 k)]) (fun _ => Cl w [] []) (fun k => k ≤ s.length ∧ ∀ j, j < k → seqAt p tgt s j = true) (fun k => s.length - k) 0 ⟨Nat.zero_le _, fun j hj => by omega⟩ (by exact .cons rfl (.cons rfl (.cons rfl (.cons rfl .nil)))) (fun _ h => h) ?_
    rintro k ⟨hk, hall⟩
    refine cw_seq (cw_seq (cw_region (sr rfl rfl rfl ((q_move rfl rfl)) (sr rfl rfl rfl ((q_move rfl rfl)) ?_))))
    refine sr rfl rfl rfl ((q_len rfl (.cons rfl inferInstance (.nil)) (by exact fun w hw => Stb.cl (by assumption) hw))) ?_
    refine sr rfl rfl rfl ((q_lss rfl rfl rfl)) (sw_nil (post_then ?_))
    refine cw_cond rfl (fun h2 => ?_) (fun h2 => ?_)
    · skip
      have hk' : k < s.length := by simp only [decide_eq_true_eq] at h2; omega
      have hkt : k < tgt.length := by omega
      cases hin : inB (nth s k) 0 ((p.length : Int) - 1)
      · have hno : seqAt p tgt s k = false := by
          rw [seqAt, decide_eq_false_iff_not]
          intro hm
          have := TK.idx_mem.1 hm
          simp only [inB, Bool.and_eq_false_iff, decide_eq_false_iff_not] at hin
          omega
        refine cw_skip (post_then (cw_seq (cw_block (cw_seq ?_))))
        refine cw_region_q mixed_Tryz (by kernel_rfl) ?_
        refine qr rfl rfl rfl ((q_move rfl rfl)) (qr rfl rfl rfl ((q_move rfl rfl)) ?_)
        refine qr rfl rfl rfl ((q_indexN rfl rfl rfl (by exact fun w hw => Stb.cl (by assumption) hw) (by intro hc; omega))) ?_
        refine qr rfl rfl rfl ((q_loadEl rfl rfl rfl (by exact fun w hw => Stb.cl (by assumption) hw) (by intro hc; omega))) ?_
        refine qr rfl rfl rfl ((q_move rfl rfl)) ?_
        refine qr rfl rfl rfl ((q_len rfl (.cons rfl inferInstance (.nil)) (by exact fun w hw => Stb.cl (by assumption) hw))) ?_
        refine qr rfl rfl rfl ((q_sub rfl rfl rfl (by intro hc; omega))) ?_
        refine qw_step rfl rfl rfl (q_call (CanCall.mk Tryz.call84) rfl (.cons rfl inferInstance (.cons rfl inferInstance (.cons rfl inferInstance (.nil)))) (fun _ w hw => callq (v := .bool false) hw (by have := refIn_spec (nth s k) 0 ((p.length : Int) - 1) w; rwa [hin] at this))) ?_
        refine qr rfl rfl rfl ((q_not rfl rfl)) (qr rfl rfl rfl ((q_move rfl rfl)) (qr rfl rfl rfl ((q_move rfl rfl)) (qr rfl rfl rfl ((q_move rfl rfl)) (qr rfl rfl rfl ((q_move rfl rfl)) ?_))))
        refine qr rfl rfl rfl ((q_indexN rfl rfl rfl (by exact fun w hw => Stb.cl (by assumption) hw) (by intro hc; omega))) ?_
        refine qr rfl rfl rfl ((q_loadEl rfl rfl rfl (by exact fun w hw => Stb.cl (by assumption) hw) (by intro hc; omega))) ?_
        refine qr rfl rfl rfl ((q_index rfl rfl rfl (by exact fun w hw => Stb.cl (by assumption) hw) (by intro hc; (exfalso; simp_all [AllT]; done)))) ?_
        refine qr rfl rfl rfl ((q_fieldEl rfl rfl (by exact fun w hw => Stb.cl (by assumption) hw) (by intro hc; (exfalso; simp_all [AllT]; done)))) ?_
        refine qr rfl rfl rfl ((q_loadF rfl rfl rfl (by exact fun w hw => Stb.cl (by assumption) hw) (by intro hc; (exfalso; simp_all [AllT]; done)) rfl)) ?_
        refine qr rfl rfl rfl ((q_move rfl rfl)) (qr rfl rfl rfl ((q_move rfl rfl)) ?_)
        refine qr rfl rfl rfl ((q_indexN rfl rfl rfl (by exact fun w hw => Stb.cl (by assumption) hw) (by intro hc; omega))) ?_
        refine qr rfl rfl rfl ((q_fieldEl rfl rfl (by exact fun w hw => Stb.cl (by assumption) hw) (by intro hc; omega))) ?_
        refine qr rfl rfl rfl ((q_loadF rfl rfl rfl (by exact fun w hw => Stb.cl (by assumption) hw) (by intro hc; omega) rfl)) ?_
        refine qr rfl rfl rfl ((q_neqStr rfl rfl rfl Tryz.underlying9)) (qr rfl rfl rfl ((q_or2 rfl rfl rfl)) (qw_end (post_then ?_)))
        refine cw_cond rfl (fun h3 => ?_) (fun h3 => ?_)
        · skip
          refine cw_seq (cw_region (sr rfl rfl rfl ((q_assign rfl rfl)) (sw_nil (post_then (cw_ret (post_blk_r (post_then_r (post_then_r (post_blk_r (post_then_r (post_ret1 rfl (resOk_tmp rfl) ?_)))))))))))
          exact fun w' hw => ⟨by rw [seq_no hk' hno], (fun w h => Cl.sel (by exact .nil _) w h) _ hw⟩
        · skip
          simp at h3
      · have hr : 0 ≤ nth s k ∧ nth s k < p.length := by
          simp only [inB, Bool.and_eq_true, decide_eq_true_eq] at hin; omega
        refine cw_skip (post_then (cw_seq (cw_block (cw_seq ?_))))
        refine cw_region_q mixed_Tryz (by kernel_rfl) ?_
        refine qr rfl rfl rfl ((q_move rfl rfl)) (qr rfl rfl rfl ((q_move rfl rfl)) ?_)
        refine qr rfl rfl rfl ((q_indexN rfl rfl rfl (by exact fun w hw => Stb.cl (by assumption) hw) (by intro hc; omega))) ?_
        refine qr rfl rfl rfl ((q_loadEl rfl rfl rfl (by exact fun w hw => Stb.cl (by assumption) hw) (by intro hc; omega))) ?_
        refine qr rfl rfl rfl ((q_move rfl rfl)) ?_
        refine qr rfl rfl rfl ((q_len rfl (.cons rfl inferInstance (.nil)) (by exact fun w hw => Stb.cl (by assumption) hw))) ?_
        refine qr rfl rfl rfl ((q_sub rfl rfl rfl (by intro hc; omega))) ?_
        refine qw_step rfl rfl rfl (q_call (CanCall.mk Tryz.call84) rfl (.cons rfl inferInstance (.cons rfl inferInstance (.cons rfl inferInstance (.nil)))) (fun _ w hw => callq (v := .bool true) hw (by have := refIn_spec (nth s k) 0 ((p.length : Int) - 1) w; rwa [hin] at this))) ?_
        refine qr rfl rfl rfl ((q_not rfl rfl)) (qr rfl rfl rfl ((q_move rfl rfl)) (qr rfl rfl rfl ((q_move rfl rfl)) (qr rfl rfl rfl ((q_move rfl rfl)) (qr rfl rfl rfl ((q_move rfl rfl)) ?_))))
        refine qr rfl rfl rfl ((q_indexN rfl rfl rfl (by exact fun w hw => Stb.cl (by assumption) hw) (by intro hc; omega))) ?_
        refine qr rfl rfl rfl ((q_loadEl rfl rfl rfl (by exact fun w hw => Stb.cl (by assumption) hw) (by intro hc; omega))) ?_
        refine qr rfl rfl rfl ((q_index rfl rfl rfl (by exact fun w hw => Stb.cl (by assumption) hw) (by intro hc; omega))) ?_
        refine qr rfl rfl rfl ((q_fieldEl rfl rfl (by exact fun w hw => Stb.cl (by assumption) hw) (by intro hc; omega))) ?_
        refine qr rfl rfl rfl ((q_loadF rfl rfl rfl (by exact fun w hw => Stb.cl (by assumption) hw) (by intro hc; omega) rfl)) ?_
        refine qr rfl rfl rfl ((q_move rfl rfl)) (qr rfl rfl rfl ((q_move rfl rfl)) ?_)
        refine qr rfl rfl rfl ((q_indexN rfl rfl rfl (by exact fun w hw => Stb.cl (by assumption) hw) (by intro hc; omega))) ?_
        refine qr rfl rfl rfl ((q_fieldEl rfl rfl (by exact fun w hw => Stb.cl (by assumption) hw) (by intro hc; omega))) ?_
        refine qr rfl rfl rfl ((q_loadF rfl rfl rfl (by exact fun w hw => Stb.cl (by assumption) hw) (by intro hc; omega) rfl)) ?_
        refine qr rfl rfl rfl ((q_neqStr rfl rfl rfl Tryz.underlying9)) (qr rfl rfl rfl ((q_or2 rfl rfl rfl)) (qw_end (post_then ?_)))
        refine cw_cond rfl (fun h3 => ?_) (fun h3 => ?_)
        · skip
          have h4 : ¬ (nth p (nth s k).toNat).phone = (nth tgt k).phone := by simpa using h3
          have hno : seqAt p tgt s k = false := by
            rw [seqAt, decide_eq_false_iff_not]
            exact fun hm => h4 (TK.idx_mem.1 hm).2.2
          refine cw_seq (cw_region (sr rfl rfl rfl ((q_assign rfl rfl)) (sw_nil (post_then (cw_ret (post_blk_r (post_then_r (post_then_r (post_blk_r (post_then_r (post_ret1 rfl (resOk_tmp rfl) ?_)))))))))))
          exact fun w' hw => ⟨by rw [seq_no hk' hno], (fun w h => Cl.sel (by exact .nil _) w h) _ hw⟩
        · skip
          have h4 : (nth p (nth s k).toNat).phone = (nth tgt k).phone := by simpa using h3
          have hyes : seqAt p tgt s k = true := by
            rw [seqAt, decide_eq_true_eq]
            exact TK.idx_mem.2 ⟨hr.1, hr.2, h4⟩
          refine cw_skip (post_blk (post_then (cw_region (sr rfl rfl rfl ((q_move rfl rfl)) ?_))))
          refine sr rfl rfl rfl ((q_add rfl rfl rfl (by intro hc; omega))) ?_
          refine sr rfl rfl rfl ((q_assign rfl rfl)) (sw_nil ?_)
          refine post_next (k + 1) (by exact .cons rfl (.cons rfl (.cons rfl (.cons rfl .nil)))) (fun _ h => h) ⟨by omega, fun j hj => ?_⟩ (by omega)
          by_cases e : j = k
          · rw [e]; exact hyes
          · exact hall j (by omega)
    · skip
      have hk' : k = s.length := by simp only [decide_eq_false_iff_not] at h2; omega
      subst hk'
      refine cw_exit (post_then_x (post_then_x (post_blk_eq (post_then (cw_seq (cw_region (sr rfl rfl rfl ((q_assign rfl rfl)) (sw_nil (post_then (cw_ret (post_ret1 rfl (resOk_tmp rfl) ?_)))))))))))
      exact fun w' hw => ⟨by rw [seq_yes hl hall], (fun w h => Cl.sel (by exact .nil _) w h) _ hw⟩
def tcTo (p : List Un) (tgt : List Wan) (x : Wts) (s : List Int) (k : Nat) : Int := (tsk p tgt x).tc 0 (s.take k)
def jnAt (p : List Un) (x : Wts) (s : List Int) (k : Nat) : Int := if 0 < k then joinC x (nth p (nth s (k - 1)).toNat) (nth p (nth s k).toNat) else 0
theorem tcTo_succ {p : List Un} {tgt : List Wan} {x : Wts} {s : List Int} {k : Nat} (hk : k < s.length) : tcTo p tgt x s (k + 1) = tcTo p tgt x s k + fitC x (nth p (nth s k).toNat) (nth tgt k) + jnAt p x s k := by
  have h1 : s.take (k + 1) = s.take k ++ [nth s k] := by rw [List.take_succ_eq_append_getElem hk, nth_get hk]
  rw [tcTo, h1, Tsk.tc_snoc, tcTo, List.length_take, Nat.min_eq_left (by omega), Nat.zero_add]
  have e : (tsk p tgt x).F k (nth s k) = fitC x (nth p (nth s k).toNat) (nth tgt k) := rfl
  unfold jnAt
  by_cases h0 : 0 < k
  · rw [if_pos h0]
    have : (s.take k).getLast? = some (nth s (k - 1)) := by
      rw [List.getLast?_eq_getElem?, List.length_take, Nat.min_eq_left (by omega), List.getElem?_take, if_pos (by omega), nth_some (by omega)]
    rw [this]
    have e2 : (tsk p tgt x).J (nth s (k - 1)) (nth s k) = joinC x (nth p (nth s (k - 1)).toNat) (nth p (nth s k).toNat) := rfl
    rw [e]
    simp only [e2]
    omega
  · rw [if_neg h0, show k = 0 by omega]
    have e3 : (s.take 0).getLast? = none := rfl
    rw [e3]
    rw [show k = 0 by omega] at e
    rw [e]
    simp only
    omega
theorem tc_parts2 {p : List Un} {tgt : List Wan} {x : Wts} {s : List Int} (hE : beginE p tgt x = 0) (hl : s.length = tgt.length) {k : Nat} (hk : k < s.length) (hall : ∀ j, j < k + 1 → seqAt p tgt s j = true) : (0 ≤ fitC x (nth p (nth s k).toNat) (nth tgt k) ∧ fitC x (nth p (nth s k).toNat) (nth tgt k) ≤ 102002000) ∧ 0 ≤ jnAt p x s k ∧ jnAt p x s k ≤ 800000000 := by
  obtain ⟨m1, m2, hv1, hv2, hv3⟩ := beginE_ok hE
  have h1 := seq_at (hall k (by omega))
  refine ⟨fitC_bd (wt_ok hv3) (vo_ok hv1 (nth_mem (by omega))) (wa_ok (List.all_eq_true.1 hv2 _ (nth_mem (by omega)))), ?_⟩
  unfold jnAt
  split
  · have h2 := seq_at (hall (k - 1) (by omega))
    exact joinC_bd (wt_ok hv3) (vo_ok hv1 (nth_mem (by omega))) (vo_ok hv1 (nth_mem (by omega)))
  · omega
theorem tcTo_bd2 {p : List Un} {tgt : List Wan} {x : Wts} {s : List Int} (hE : beginE p tgt x = 0) (hl : s.length = tgt.length) : ∀ k, k ≤ s.length → (∀ j, j < k → seqAt p tgt s j = true) → 0 ≤ tcTo p tgt x s k ∧ tcTo p tgt x s k ≤ 902002000 * k
  | 0, _, _ => by simp [tcTo, Tsk.tc]
  | k + 1, hk, hall => by
    have h1 := tcTo_bd2 hE hl k (by omega) (fun j hj => hall j (by omega))
    have h2 := tc_parts2 hE hl (k := k) (by omega) hall
    rw [tcTo_succ (by omega)]
    omega
theorem tc_parts {p : List Un} {tgt : List Wan} {x : Wts} {s : List Int} (hE : beginE p tgt x = 0) (hs : seqB p tgt s = true) {k : Nat} (hk : k < s.length) : (0 ≤ fitC x (nth p (nth s k).toNat) (nth tgt k) ∧ fitC x (nth p (nth s k).toNat) (nth tgt k) ≤ 102002000) ∧ 0 ≤ jnAt p x s k ∧ jnAt p x s k ≤ 800000000 :=
  tc_parts2 hE (seqB_at hs).1 hk fun j hj => (seqB_at hs).2 j (by omega)
theorem tcTo_bd {p : List Un} {tgt : List Wan} {x : Wts} {s : List Int} (hE : beginE p tgt x = 0) (hs : seqB p tgt s = true) (k : Nat) (hk : k ≤ s.length) : 0 ≤ tcTo p tgt x s k ∧ tcTo p tgt x s k ≤ 902002000 * k :=
  tcTo_bd2 hE (seqB_at hs).1 k hk fun j hj => (seqB_at hs).2 j (by omega)
theorem refCost_spec (sp tp su : SlV) (p : List Un) (tgt : List Wan) (x : Wts) (s : List Int) (w : World) (hvo : VoRd w sp p) (htp : Stb w [] (RdL tp.v tgt)) (hsu : Stb w [] (RdL su.v s)) (hE : beginE p tgt x = 0) (hs : seqB p tgt s = true) :
    Calls Tryz.prog 59 #[sp.v, tp.v, val x, su.v] w fun e w' => e = .returned (.int .i64 ((tsk p tgt x).tc 0 s)) ∧ Cl w [] [] w' := by
  have hvl := hvo.l
  have hL := rd_len hvl.here
  have hL2 := rd_len hsu.here
  obtain ⟨hl, hall⟩ := seqB_at hs
  obtain ⟨m1, m2, hv1, hv2, hv3⟩ := beginE_ok hE
  refine calls_cw (vs := [_, _, _, _]) Tryz.func59 rfl Tryz.ntmps59 rfl (Cl.start0 w) (cw_seq (cw_region ?_))
  refine sw_x rfl rfl rfl (e_box rfl rfl rfl) (fun b6 => ?_)
  refine sr rfl rfl rfl ((q_assign rfl rfl)) (sw_nil (post_then (cw_seq (cw_region (sr rfl rfl rfl ((q_assign rfl rfl)) (sw_nil (post_then (cw_seq (cw_seq (cw_region (sr rfl rfl rfl ((q_assign rfl rfl)) (sw_nil (post_then (cw_block ?_))))))))))))))
  refine cw_loop (S := Nat) (fun k => [(0, [], sp.v), (1, [], tp.v), (3, [], su.v), (6, [], .pointer (some ⟨b6, 0, none⟩)), (9, [], .int .i64 (tcTo p tgt x s k)), (10, [], .int .i64 k)]) (fun _ => Cl w [] [blk b6 (enc x) 25]) (fun k => k ≤ s.length) (fun k => s.length - k) 0 (Nat.zero_le _) (by exact .cons rfl (.cons rfl (.cons rfl (.cons rfl (.cons rfl (.cons rfl .nil)))))) (fun _ h => h) ?_
  intro k hk
  refine cw_seq (cw_seq (cw_region (sr rfl rfl rfl ((q_move rfl rfl)) (sr rfl rfl rfl ((q_move rfl rfl)) ?_))))
  refine sr rfl rfl rfl ((q_len rfl (.cons rfl inferInstance (.nil)) (by exact fun w hw => Stb.cl (by assumption) hw))) ?_
  refine sr rfl rfl rfl ((q_lss rfl rfl rfl)) (sw_nil (post_then ?_))
  refine cw_cond rfl (fun h2 => ?_) (fun h2 => ?_)
  · skip
    have hk' : k < s.length := by simp only [decide_eq_true_eq] at h2; omega
    have hr := seq_at (hall k hk')
    have hbd := tcTo_bd hE hs k (by omega)
    have hpt := tc_parts hE hs hk'
    have hsc := tcTo_succ (p := p) (tgt := tgt) (x := x) hk'
    have ek : nth p (nth s k).toNat ∈ p := nth_mem (by omega)
    refine cw_skip (post_then (cw_seq (cw_block (cw_seq ?_))))
    refine cw_region_q mixed_Tryz (by kernel_rfl) ?_
    refine qr rfl rfl rfl ((q_move rfl rfl)) (qr rfl rfl rfl ((q_move rfl rfl)) (qr rfl rfl rfl ((q_move rfl rfl)) (qr rfl rfl rfl ((q_move rfl rfl)) ?_)))
    refine qr rfl rfl rfl ((q_indexN rfl rfl rfl (by exact fun w hw => Stb.cl (by assumption) hw) (by intro hc; omega))) ?_
    refine qr rfl rfl rfl ((q_loadEl rfl rfl rfl (by exact fun w hw => Stb.cl (by assumption) hw) (by intro hc; omega))) ?_
    refine qr rfl rfl rfl ((q_index rfl rfl rfl (by exact fun w hw => Stb.cl (by assumption) hw) (by intro hc; omega))) ?_
    refine qr rfl rfl rfl ((q_loadEl rfl rfl rfl (by exact fun w hw => Stb.cl (by assumption) hw) (by intro hc; omega))) ?_
    refine qr rfl rfl rfl ((q_move rfl rfl)) (qr rfl rfl rfl ((q_move rfl rfl)) ?_)
    refine qr rfl rfl rfl ((q_indexN rfl rfl rfl (by exact fun w hw => Stb.cl (by assumption) hw) (by intro hc; omega))) ?_
    refine qr rfl rfl rfl ((q_loadEl rfl rfl rfl (by exact fun w hw => Stb.cl (by assumption) hw) (by intro hc; omega))) ?_
    refine qr rfl rfl rfl ((q_loadA rfl rfl (by exact .head _) rfl)) ?_
    refine qw_step rfl rfl rfl (q_call (CanCall.mk Tryz.call49) rfl (.cons rfl inferInstance (.cons rfl inferInstance (.cons rfl inferInstance (.nil)))) (fun _ w hw => callq hw (refTarget_spec (nth p (nth s k).toNat) (nth tgt k) x w (vo_ok hv1 ek) (wa_ok (List.all_eq_true.1 hv2 _ (nth_mem (by omega)))) (wt_ok hv3)))) ?_
    refine qr rfl rfl rfl ((q_add rfl rfl rfl (by intro hc; omega))) ?_
    refine qr rfl rfl rfl ((q_assign rfl rfl)) (qw_end (post_then (cw_seq (cw_region (sr rfl rfl rfl ((q_move rfl rfl)) (sr rfl rfl rfl ((q_gtr rfl rfl rfl)) (sw_nil (post_then ?_))))))))
    refine cw_cut (S := Unit) (fun _ => [(0, [], sp.v), (1, [], tp.v), (3, [], su.v), (6, [], .pointer (some ⟨b6, 0, none⟩)), (9, [], .int .i64 (tcTo p tgt x s (k + 1))), (10, [], .int .i64 k)]) (fun _ => Cl w [] [blk b6 (enc x) 25]) (fun _ => True) ?_ ?_
    · refine cw_cond rfl (fun h3 => ?_) (fun h3 => ?_)
      · skip
        have h0 : 0 < k := by simp only [decide_eq_true_eq] at h3; omega
        have e1 : ((k : Int) - 1).toNat = k - 1 := by omega
        have ej : jnAt p x s k = joinC x (nth p (nth s ((k : Int) - 1).toNat).toNat) (nth p (nth s k).toNat) := by rw [jnAt, if_pos h0, e1]
        have hr2 := seq_at (hall (k - 1) (by omega))
        rw [← e1] at hr2
        have em : nth p (nth s ((k : Int) - 1).toNat).toNat ∈ p := nth_mem (by omega)
        rw [ej] at hpt hsc
        refine cw_region_q mixed_Tryz (by kernel_rfl) ?_
        refine qr rfl rfl rfl ((q_move rfl rfl)) (qr rfl rfl rfl ((q_move rfl rfl)) (qr rfl rfl rfl ((q_move rfl rfl)) (qr rfl rfl rfl ((q_move rfl rfl)) ?_)))
        refine qr rfl rfl rfl ((q_sub rfl rfl rfl (by intro hc; omega))) ?_
        refine qr rfl rfl rfl ((q_index rfl rfl rfl (by exact fun w hw => Stb.cl (by assumption) hw) (by intro hc; omega))) ?_
        refine qr rfl rfl rfl ((q_loadEl rfl rfl rfl (by exact fun w hw => Stb.cl (by assumption) hw) (by intro hc; omega))) ?_
        refine qr rfl rfl rfl ((q_index rfl rfl rfl (by exact fun w hw => Stb.cl (by assumption) hw) (by intro hc; omega))) ?_
        refine qr rfl rfl rfl ((q_loadEl rfl rfl rfl (by exact fun w hw => Stb.cl (by assumption) hw) (by intro hc; omega))) ?_
        refine qr rfl rfl rfl ((q_move rfl rfl)) (qr rfl rfl rfl ((q_move rfl rfl)) (qr rfl rfl rfl ((q_move rfl rfl)) ?_))
        refine qr rfl rfl rfl ((q_indexN rfl rfl rfl (by exact fun w hw => Stb.cl (by assumption) hw) (by intro hc; omega))) ?_
        refine qr rfl rfl rfl ((q_loadEl rfl rfl rfl (by exact fun w hw => Stb.cl (by assumption) hw) (by intro hc; omega))) ?_
        refine qr rfl rfl rfl ((q_index rfl rfl rfl (by exact fun w hw => Stb.cl (by assumption) hw) (by intro hc; omega))) ?_
        refine qr rfl rfl rfl ((q_loadEl rfl rfl rfl (by exact fun w hw => Stb.cl (by assumption) hw) (by intro hc; omega))) ?_
        refine qr rfl rfl rfl ((q_loadA rfl rfl (by exact .head _) rfl)) ?_
        refine qw_step rfl rfl rfl (q_call (CanCall.mk Tryz.call51) rfl (.cons rfl inferInstance (.cons rfl inferInstance (.cons rfl inferInstance (.nil)))) (fun _ w hw => callq hw (refJoin_spec (nth p (nth s ((k : Int) - 1).toNat).toNat) (nth p (nth s k).toNat) x w ((hvo.arg hw).u _ em) ((hvo.arg hw).u _ ek) (vo_ok hv1 em) (vo_ok hv1 ek) (vo_bl hv1 em ek) (wt_ok hv3)))) ?_
        refine qr rfl rfl rfl ((q_add rfl rfl rfl (by intro hc; omega))) ?_
        refine qr rfl rfl rfl ((q_assign rfl rfl)) (qw_end ?_)
        refine post_meet () ?_ (fun _ h => h) trivial
        rw [hsc]
        exact (by exact .cons rfl (.cons rfl (.cons rfl (.cons rfl (.cons rfl (.cons rfl .nil))))))
      · skip
        have h0 : ¬ 0 < k := by simp only [decide_eq_false_iff_not] at h3; omega
        have ej : jnAt p x s k = 0 := by rw [jnAt, if_neg h0]
        rw [ej, Int.add_zero] at hsc
        refine cw_skip ?_
        refine post_meet () ?_ (fun _ h => h) trivial
        rw [hsc]
        exact (by exact .cons rfl (.cons rfl (.cons rfl (.cons rfl (.cons rfl (.cons rfl .nil))))))
    · intro _ _
      refine post_blk (post_then (cw_region (sr rfl rfl rfl ((q_move rfl rfl)) ?_)))
      refine sr rfl rfl rfl ((q_add rfl rfl rfl (by intro hc; omega))) ?_
      refine sr rfl rfl rfl ((q_assign rfl rfl)) (sw_nil ?_)
      exact post_next (k + 1) (by exact .cons rfl (.cons rfl (.cons rfl (.cons rfl (.cons rfl (.cons rfl .nil)))))) (fun _ h => h) (by omega) (by omega)
  · skip
    have hk' : k = s.length := by simp only [decide_eq_false_iff_not] at h2; omega
    subst hk'
    refine cw_exit (post_then_x (post_then_x (post_blk_eq (post_then (cw_seq (cw_region (sr rfl rfl rfl ((q_move rfl rfl)) (sr rfl rfl rfl ((q_assign rfl rfl)) (sw_nil (post_then (cw_ret (post_ret1 rfl (resOk_tmp rfl) ?_))))))))))))
    exact fun w' hw => ⟨by rw [tcTo, List.take_length], (fun w h => Cl.sel (by exact .nil _) w h) _ hw⟩
end Go.Proofs.YtomjbfeafodfbaaGreat
