import Derived.Test.YtomjbfeafodfbaaGreatWCosts5

set_option autoImplicit false
set_option linter.unusedSimpArgs false
set_option linter.unusedVariables false
set_option maxRecDepth 100000
namespace Go.Proofs.YtomjbfeafodfbaaGreat
open Go.Sx
open Enc (enc val)
structure EX where
  su : SlV
  st : SlV
  a : SlV
  b : SlV
  c : SlV
  d : SlV
  e : SlV
  f : SlV
def EX.U (y : EX) : List Un := exU y.a y.b y.c y.d y.e y.f
def EX.H (y : EX) : List Asn := [ownL 51 y.st.v exT, ownL 49 y.su.v y.U, ownL 3 y.f.v [(5 : Int)], ownL 3 y.e.v [(0 : Int)], ownL 3 y.d.v [(0 : Int)], ownL 3 y.c.v [(5 : Int)], ownL 3 y.b.v [(4 : Int)], ownL 3 y.a.v [(0 : Int)]]
theorem example_spec (w : World) : Calls Tryz.prog 63 #[] w fun e w' => ∃ y : EX, e = .returned (.tuple #[y.su.v, y.st.v, val exW]) ∧ True ∧ Cl w [] y.H w' := by
  refine calls_cw (vs := []) Tryz.func63 rfl Tryz.ntmps63 rfl (Cl.start0 w) (cw_seq (cw_region (sr rfl rfl rfl ((q_assign rfl rfl)) (sr rfl rfl rfl ((q_assign rfl rfl)) ?_))))
  refine sw_x rfl rfl rfl (e_alloc rfl) (fun b2 => ?_)
  refine sw_nil (post_then (cw_seq (cw_region ?_)))
  refine sw_x rfl rfl rfl (e_build1 (α := Int) rfl rfl rfl rfl) (fun s4 => ?_)
  refine sw_x rfl rfl rfl (e_build1 (α := Int) rfl rfl rfl rfl) (fun s5 => ?_)
  refine sr rfl rfl rfl ((q_build rfl (.cons rfl inferInstance (.cons rfl inferInstance (.cons rfl inferInstance (.cons rfl inferInstance (.cons rfl inferInstance (.cons rfl inferInstance (.nil))))))) rfl)) ?_
  refine sw_x rfl rfl rfl (e_build1 (α := Int) rfl rfl rfl rfl) (fun s7 => ?_)
  refine sw_x rfl rfl rfl (e_build1 (α := Int) rfl rfl rfl rfl) (fun s8 => ?_)
  refine sr rfl rfl rfl ((q_build rfl (.cons rfl inferInstance (.cons rfl inferInstance (.cons rfl inferInstance (.cons rfl inferInstance (.cons rfl inferInstance (.cons rfl inferInstance (.cons rfl inferInstance (.nil)))))))) rfl)) ?_
  refine sw_x rfl rfl rfl (e_build1 (α := Int) rfl rfl rfl rfl) (fun s10 => ?_)
  refine sw_x rfl rfl rfl (e_build1 (α := Int) rfl rfl rfl rfl) (fun s11 => ?_)
  refine sr rfl rfl rfl ((q_build rfl (.cons rfl inferInstance (.cons rfl inferInstance (.cons rfl inferInstance (.cons rfl inferInstance (.cons rfl inferInstance (.cons rfl inferInstance (.cons rfl inferInstance (.nil)))))))) rfl)) ?_
  refine sw_x rfl rfl rfl (e_buildL (α := Un) (l := exU s4 s5 s7 s8 s10 s11) rfl (.cons rfl inferInstance (.cons rfl inferInstance (.cons rfl inferInstance (.nil)))) rfl rfl rfl rfl) (fun s13 => ?_)
  refine sr rfl rfl rfl ((q_assign rfl rfl)) (sw_nil (post_then (cw_seq (cw_region (sr rfl rfl rfl ((q_move rfl rfl)) ?_)))))
  refine sr rfl rfl rfl ((q_build (cells := [.string exA, .string ByteArray.empty, .string ByteArray.empty, .int .i64 100, .int .i64 10]) rfl (.cons rfl inferInstance (.cons rfl inferInstance (.cons rfl inferInstance (.nil)))) (by rfl))) ?_
  refine sr rfl rfl rfl ((q_build (cells := [.string exB, .string ByteArray.empty, .string ByteArray.empty, .int .i64 100, .int .i64 10]) rfl (.cons rfl inferInstance (.cons rfl inferInstance (.cons rfl inferInstance (.nil)))) (by rfl))) ?_
  refine sw_x rfl rfl rfl (e_buildL (α := Wan) (l := exT) rfl (.cons rfl inferInstance (.cons rfl inferInstance (.nil))) rfl rfl rfl rfl) (fun s17 => ?_)
  refine sr rfl rfl rfl ((q_build (cells := enc exW) rfl (.cons rfl inferInstance (.cons rfl inferInstance (.cons rfl inferInstance (.cons rfl inferInstance (.nil))))) (by rfl))) ?_
  refine sr rfl rfl rfl ((q_assign rfl rfl)) (sr rfl rfl rfl ((q_assign rfl rfl)) (sw_eff0 rfl rfl (e_store (i := 8) rfl rfl rfl rfl rfl rfl rfl rfl) (sw_nil (post_then (cw_ret ?_)))))
  refine post_ret3 rfl (resOk_tmp rfl) (resOk_tmp rfl) (resOk_blk (x := exW) rfl (by exact .tail _ (.tail _ (.tail _ (.tail _ (.tail _ (.tail _ (.tail _ (.tail _ (.head _))))))))) (by rfl)) ?_
  exact fun w' hw => ⟨⟨s13, s17, s4, s5, s7, s8, s10, s11⟩, rfl, trivial, (fun w h => Cl.sel (by exact .take 0 rfl (.take 0 rfl (.take 0 rfl (.take 0 rfl (.take 0 rfl (.take 0 rfl (.take 0 rfl (.take 0 rfl (.nil _))))))))) w h) _ hw⟩
theorem ex_un {w : World} {H : List Asn} {w0 : World} (y : EX) (hw : Cl w0 [] H w) (hm : ∀ A ∈ y.H, A ∈ H) : VoRd w y.su y.U ∧ Stb w [] (RdL y.st.v exT) := by
  have h1 := stb_own (e := 49) hw (hm _ (.tail _ (.head _)))
  have h2 := stb_own (e := 51) hw (hm _ (.head _))
  have hf := stb_own (e := 3) hw (hm _ (.tail _ (.tail _ (.head _))))
  have he := stb_own (e := 3) hw (hm _ (.tail _ (.tail _ (.tail _ (.head _)))))
  have hd := stb_own (e := 3) hw (hm _ (.tail _ (.tail _ (.tail _ (.tail _ (.head _))))))
  have hc := stb_own (e := 3) hw (hm _ (.tail _ (.tail _ (.tail _ (.tail _ (.tail _ (.head _)))))))
  have hb := stb_own (e := 3) hw (hm _ (.tail _ (.tail _ (.tail _ (.tail _ (.tail _ (.tail _ (.head _))))))))
  have ha := stb_own (e := 3) hw (hm _ (.tail _ (.tail _ (.tail _ (.tail _ (.tail _ (.tail _ (.tail _ (.head _)))))))))
  refine ⟨⟨h1, fun u hu => ?_⟩, h2⟩
  simp only [EX.U, exU, List.mem_cons, List.not_mem_nil, or_false] at hu
  have sA : exA.size ≤ 140737488355328 := by decide
  have sB : exB.size ≤ 140737488355328 := by decide
  have sE : ByteArray.empty.size ≤ 140737488355328 := by decide
  rcases hu with rfl | rfl | rfl
  · exact ⟨sA, sE, sE, ha, hb⟩
  · exact ⟨sB, sE, sE, hc, hd⟩
  · exact ⟨sA, sE, sE, he, hf⟩
theorem ex_wa : ∀ t ∈ exT, WaRd t := by
  intro t ht
  simp only [exT, List.mem_cons, List.not_mem_nil, or_false] at ht
  rcases ht with rfl | rfl <;> exact ⟨by decide, by decide, by decide⟩
theorem mt_own {w0 w : World} {fp : List Nat} {H : List Asn} (hw : Cl w0 fp H w) {s : SlV} {vs : List SlV} {ls : List (List Int)} {e : TypeId} (hl : ownL e s.v vs ∈ H) (hn : vs.length = ls.length) (hr : ∀ i, i < ls.length → ∃ e2, ownL e2 (nth vs i).v (nth ls i) ∈ H) : Stb w [] (fun w' => Mt w' s.v vs ls) := by
  have h1 := stb_own hw hl
  have h2 : ∀ i, i < ls.length → Stb w [] (RdL (nth vs i).v (nth ls i)) := fun i hi => by
    obtain ⟨e2, h⟩ := hr i hi
    exact stb_own hw h
  exact ⟨fun w' k => ⟨h1.stb w' k, hn, fun i hi => (h2 i hi).stb w' k⟩⟩
theorem ex_rows {w : World} {so sc : SlV} (h1 : Stb w [] (RdL so.v (rowsTo sc 3 2 2))) (h2 : Stb w [] (RdL sc.v [(0 : Int), 0, 20, 0, 0, 0])) : Stb w [] (fun w' => Mt w' so.v (rowsTo sc 3 2 2) [[0, 0, 20], [0, 0, 0]]) := by
  have r0 : Stb w [] (RdL (sc.row 1 0 3).v [(0 : Int), 0, 20]) := stb_row (α := Int) h2 (by decide) (by decide)
  have r1 : Stb w [] (RdL (sc.row 1 3 6).v [(0 : Int), 0, 0]) := stb_row (α := Int) h2 (by decide) (by decide)
  refine ⟨fun w' k => ⟨h1.stb w' k, rowsTo_len _ _ _ _, fun i hi => ?_⟩⟩
  match i, hi with
  | 0, _ => rw [rowsTo_nth _ _ _ _ _ (by decide)]; exact r0.stb w' k
  | 1, _ => rw [rowsTo_nth _ _ _ _ _ (by decide)]; exact r1.stb w' k
def exP : CutP := ⟨[[1], [1], [9]], [[1], [8]], 1⟩
theorem exP_D : (exP.D exP.m 0).getD 0 = 1 := by decide +kernel
theorem exP_pth : exP.pth exP.m 0 = [2, 1] := by decide +kernel
theorem exP_E : cutE exP.fl exP.pl exP.L = 0 := by decide +kernel
theorem exP_ok : exP.Ok where
  fv f hf := by
    have hf' : f < 3 := hf
    match f, hf' with
    | 0, _ => decide
    | 1, _ => decide
    | 2, _ => decide
  pv p hp := by
    have hp' : p < 2 := hp
    match p, hp' with
    | 0, _ => decide
    | 1, _ => decide
  eq f p hf hp := by
    have hf' : f < 3 := hf
    have hp' : p < 2 := hp
    match f, hf', p, hp' with
    | 0, _, 0, _ => rfl
    | 1, _, 0, _ => rfl
    | 2, _, 0, _ => rfl
    | 0, _, 1, _ => rfl
    | 1, _, 1, _ => rfl
    | 2, _, 1, _ => rfl
  n2 := by decide
  m2 := by decide
  l1 := by decide
theorem same_true (sa sb : Value) (a b : List Int) (h : a = b) (w : World) (ha : Stb w [] (RdL sa a)) (hb : Stb w [] (RdL sb b)) : Calls Tryz.prog 23 #[sa, sb] w fun e w' => e = .returned (.bool true) ∧ Cl w [] [] w' := by
  have := same_spec sa sb a b w ha hb
  rwa [decide_eq_true h] at this
theorem sameL_true (sa sb : Value) (va vb : List SlV) (a b : List (List Int)) (h : a = b) (w : World) (ha : Stb w [] (fun w' => Mt w' sa va a)) (hb : Stb w [] (fun w' => Mt w' sb vb b)) : Calls Tryz.prog 24 #[sa, sb] w fun e w' => e = .returned (.bool true) ∧ Cl w [] [] w' := by
  have := sameLists_spec sa sb va vb a b w ha hb
  rwa [decide_eq_true h] at this
theorem known_spec (w : World) : Calls Tryz.prog 18 #[] w fun e w' => e = .returned (.bool true) ∧ Cl w [] [] w' := by
  refine calls_cw (vs := []) Tryz.func18 rfl Tryz.ntmps18 rfl (Cl.start0 w) (cw_seq (cw_region (sr rfl rfl rfl ((q_assign rfl rfl)) (sw_nil (post_then (cw_seq (cw_region ?_)))))))
  refine sw_x rfl rfl rfl (e_call (CanCall.mk Tryz.call63) rfl (.nil) (fun w hw => example_spec w)) (fun y => ?_)
  refine sw_imp fun _ => ?_
  rw [List.append_nil]
  refine sr rfl rfl rfl ((q_move rfl rfl)) (sr rfl rfl rfl ((q_extract rfl rfl rfl)) (sr rfl rfl rfl ((q_extract rfl rfl rfl)) (sr rfl rfl rfl ((q_extract rfl rfl rfl)) ?_)))
  refine sw_x rfl rfl rfl (e_alloc rfl) (fun b3 => ?_)
  refine sr rfl rfl rfl ((q_assign rfl rfl)) (sr rfl rfl rfl ((q_assign rfl rfl)) (sw_eff0 rfl rfl (e_store (i := 0) rfl rfl rfl rfl rfl rfl rfl rfl) (sw_nil (post_then (cw_seq (cw_region (sr rfl rfl rfl ((q_move rfl rfl)) (sr rfl rfl rfl ((q_move rfl rfl)) ?_))))))))
  refine sr rfl rfl rfl ((q_loadA rfl rfl (by exact .head _) rfl)) ?_
  refine sw_x rfl rfl rfl (e_call (CanCall.mk Tryz.call19) rfl (.cons rfl inferInstance (.cons rfl inferInstance (.cons rfl inferInstance (.nil)))) (fun w1 hw => choose_yes y.su y.st y.U exT exW w1 (ex_un y hw (fun A hA => .tail _ hA)).1 (ex_un y hw (fun A hA => .tail _ hA)).2 ex_wa (ex_begin _ _ _ _ _ _) (ex_poss _ _ _ _ _ _) (show (3 + 1) ^ 2 ≤ 500000000 by decide))) (fun z => ?_)
  refine sw_imp fun hz => ?_
  obtain ⟨⟨so, sc⟩, ⟨cells, ⟨qs, qc, ql⟩⟩⟩ := z
  obtain ⟨h1, h2⟩ := hz
  dsimp only at h1 h2
  obtain rfl := ex_cells _ _ _ _ _ _ h1
  obtain ⟨rfl, rfl⟩ := ex_best _ _ _ _ _ _ h2
  clear h1 h2
  dsimp only
  refine sr rfl rfl rfl ((q_move rfl rfl)) (sr rfl rfl rfl ((q_extract rfl rfl rfl)) (sr rfl rfl rfl ((q_extract rfl rfl rfl)) (sr rfl rfl rfl ((q_extract rfl rfl rfl)) ?_)))
  refine sw_x rfl rfl rfl (e_alloc rfl) (fun b4 => ?_)
  refine sw_eff0 rfl rfl (e_store (i := 0) rfl rfl rfl rfl rfl rfl rfl rfl) (sr rfl rfl rfl ((q_assign rfl rfl)) (sr rfl rfl rfl ((q_assign rfl rfl)) (sw_nil (post_then (cw_seq (cw_region (sr rfl rfl rfl ((q_move rfl rfl)) (sr rfl rfl rfl ((q_move rfl rfl)) ?_))))))))
  refine sr rfl rfl rfl ((q_loadA rfl rfl (by exact .tail _ (.tail _ (.tail _ (.tail _ (.head _))))) rfl)) ?_
  refine sw_x rfl rfl rfl (e_call (CanCall.mk Tryz.call26) rfl (.cons rfl inferInstance (.cons rfl inferInstance (.cons rfl inferInstance (.cons rfl inferInstance (.nil))))) (fun w1 hw => best_yes y.su y.st y.U exT exW 5 w1 (ex_un y hw (fun A hA => .tail _ (.tail _ (.tail _ (.tail _ (.tail _ hA)))))).1 (ex_un y hw (fun A hA => .tail _ (.tail _ (.tail _ (.tail _ (.tail _ hA)))))).2 ex_wa (ex_begin _ _ _ _ _ _) (by omega) (ex_poss _ _ _ _ _ _) (show (3 + 1) ^ 2 ≤ 500000000 by decide))) (fun z => ?_)
  refine sw_imp fun hz => ?_
  obtain ⟨so2, ⟨outs, il⟩⟩ := z
  obtain ⟨h1, h2, h3⟩ := hz
  dsimp only at h1 h2 h3 ⊢
  obtain ⟨q1, ⟨u2, c2, l2⟩, rfl, hq⟩ := ex_bests _ _ _ _ _ _ h1 h2
  obtain rfl : c2 = 20 := hq
  clear h1 h2 h3
  refine sw_le (C' := Cl w [] [ownL 30 so2.v [q1, ⟨u2, 20, l2⟩], blk b4 [qs.v, .int .i64 0] 30, ownL 28 so.v (rowsTo sc 3 2 2), ownL 3 sc.v [(0 : Int), 0, 20, 0, 0, 0], ownL 3 qs.v [(0 : Int), 1]]) (fun w h => Cl.sel (by exact .take 0 rfl (.take 2 rfl (.take 2 rfl (.take 2 rfl (.take 2 rfl (.nil _)))))) w h) ?_
  refine sr rfl rfl rfl ((q_move rfl rfl)) (sr rfl rfl rfl ((q_extract rfl rfl rfl)) (sr rfl rfl rfl ((q_extract rfl rfl rfl)) (sr rfl rfl rfl ((q_assign rfl rfl)) (sr rfl rfl rfl ((q_assign rfl rfl)) (sw_nil (post_then (cw_seq (cw_region ?_))))))))
  refine sw_x rfl rfl rfl (e_build1 (α := Int) rfl rfl rfl rfl) (fun s41 => ?_)
  refine sw_x rfl rfl rfl (e_build1 (α := Int) rfl rfl rfl rfl) (fun s42 => ?_)
  refine sw_x rfl rfl rfl (e_build1 (α := Int) rfl rfl rfl rfl) (fun s43 => ?_)
  refine sw_x rfl rfl rfl (e_buildL (α := SlV) (l := [s41, s42, s43]) rfl (.cons rfl inferInstance (.cons rfl inferInstance (.cons rfl inferInstance (.nil)))) rfl rfl rfl rfl) (fun s44 => ?_)
  refine sw_x rfl rfl rfl (e_build1 (α := Int) rfl rfl rfl rfl) (fun s45 => ?_)
  refine sw_x rfl rfl rfl (e_build1 (α := Int) rfl rfl rfl rfl) (fun s46 => ?_)
  refine sw_x rfl rfl rfl (e_buildL (α := SlV) (l := [s45, s46]) rfl (.cons rfl inferInstance (.cons rfl inferInstance (.nil))) rfl rfl rfl rfl) (fun s47 => ?_)
  refine sw_x rfl rfl rfl (e_call (CanCall.mk Tryz.call30) rfl (.cons rfl inferInstance (.cons rfl inferInstance (.cons rfl inferInstance (.nil)))) (fun w1 hw => cut_yes s44 s47 [s41, s42, s43] [s45, s46] exP w1 (mt_own hw (e := 28) (by exact .tail _ (.tail _ (.tail _ (.head _)))) rfl (fun i hi => by match i, hi with | 0, _ => exact ⟨3, (by exact .tail _ (.tail _ (.tail _ (.tail _ (.tail _ (.tail _ (.head _)))))))⟩ | 1, _ => exact ⟨3, (by exact .tail _ (.tail _ (.tail _ (.tail _ (.tail _ (.head _))))))⟩ | 2, _ => exact ⟨3, (by exact .tail _ (.tail _ (.tail _ (.tail _ (.head _)))))⟩)) (mt_own hw (e := 28) (by exact .head _) rfl (fun i hi => by match i, hi with | 0, _ => exact ⟨3, (by exact .tail _ (.tail _ (.head _)))⟩ | 1, _ => exact ⟨3, (by exact .tail _ (.head _))⟩)) exP_E exP_ok (by decide) (by decide))) (fun z => ?_)
  refine sw_imp fun hz => ?_
  obtain ⟨sk, lk⟩ := z
  dsimp only at hz ⊢
  rw [exP_pth] at hz
  subst hz
  rw [exP_D]
  refine sw_le (C' := Cl w [] [ownL 3 sk.v [(2 : Int), 1], ownL 30 so2.v [q1, ⟨u2, 20, l2⟩], blk b4 [qs.v, .int .i64 0] 30, ownL 28 so.v (rowsTo sc 3 2 2), ownL 3 sc.v [(0 : Int), 0, 20, 0, 0, 0], ownL 3 qs.v [(0 : Int), 1]]) (fun w h => Cl.sel (by exact .take 0 rfl (.take 7 rfl (.take 7 rfl (.take 7 rfl (.take 7 rfl (.take 7 rfl (.nil _))))))) w h) ?_
  refine sr rfl rfl rfl ((q_move rfl rfl)) (sr rfl rfl rfl ((q_extract rfl rfl rfl)) (sr rfl rfl rfl ((q_extract rfl rfl rfl)) (sr rfl rfl rfl ((q_extract rfl rfl rfl)) (sr rfl rfl rfl ((q_assign rfl rfl)) (sr rfl rfl rfl ((q_assign rfl rfl)) (sr rfl rfl rfl ((q_assign rfl rfl)) (sw_nil (post_then (cw_seq (cw_region ?_))))))))))
  refine sw_x rfl rfl rfl (e_buildL (α := Int) (l := [0, 1, 2]) rfl (.cons rfl inferInstance (.cons rfl inferInstance (.cons rfl inferInstance (.nil)))) rfl rfl rfl rfl) (fun s52 => ?_)
  refine sw_x rfl rfl rfl (e_buildL (α := Int) (l := [0, 3]) rfl (.cons rfl inferInstance (.cons rfl inferInstance (.nil))) rfl rfl rfl rfl) (fun s53 => ?_)
  refine sw_x rfl rfl rfl (e_buildL (α := Int) (l := [1, 2]) rfl (.cons rfl inferInstance (.cons rfl inferInstance (.nil))) rfl rfl rfl rfl) (fun s54 => ?_)
  refine sw_x rfl rfl rfl (e_build1 (α := Int) rfl rfl rfl rfl) (fun s55 => ?_)
  refine sw_x rfl rfl rfl (e_buildL (α := SlV) (l := [s52, s53, s54, s55]) rfl (.cons rfl inferInstance (.cons rfl inferInstance (.cons rfl inferInstance (.cons rfl inferInstance (.nil))))) rfl rfl rfl rfl) (fun s56 => ?_)
  refine sr rfl rfl rfl ((q_assign rfl rfl)) (sw_nil (post_then (cw_seq (cw_region (sr rfl rfl rfl ((q_move rfl rfl)) ?_)))))
  have hsets : ∀ {w1 : World} {H : List Asn}, Cl w [] H w1 → ownL 28 s56.v [s52, s53, s54, s55] ∈ H → ownL 3 s52.v [(0 : Int), 1, 2] ∈ H → ownL 3 s53.v [(0 : Int), 3] ∈ H → ownL 3 s54.v [(1 : Int), 2] ∈ H → ownL 3 s55.v [(3 : Int)] ∈ H → Stb w1 [] (fun w' => Mt w' s56.v [s52, s53, s54, s55] exS) := fun hw m0 m1 m2 m3 m4 => mt_own hw (e := 28) m0 rfl (fun i hi => by
    have hi' : i < 4 := hi
    match i, hi' with
    | 0, _ => exact ⟨3, m1⟩
    | 1, _ => exact ⟨3, m2⟩
    | 2, _ => exact ⟨3, m3⟩
    | 3, _ => exact ⟨3, m4⟩)
  refine sw_x rfl rfl rfl (e_call (CanCall.mk Tryz.call42) rfl (.cons rfl inferInstance (.cons rfl inferInstance (.nil))) (fun w1 hw => greedy_yes 4 (by omega) s56 [s52, s53, s54, s55] exS (by decide) w1 (hsets hw (by exact .head _) (by exact .tail _ (.tail _ (.tail _ (.tail _ (.head _))))) (by exact .tail _ (.tail _ (.tail _ (.head _)))) (by exact .tail _ (.tail _ (.head _))) (by exact .tail _ (.head _))) exS_cov exS_poss)) (fun z => ?_)
  refine sw_imp fun hz => ?_
  obtain ⟨sa, ⟨la, ka⟩⟩ := z
  dsimp only at hz ⊢
  obtain rfl := exS_k hz.ok hz.full
  obtain rfl : la = [0, 1] := srt_two (by rw [← exS_out]; exact hz.perm) hz.srt
  clear hz
  refine sr rfl rfl rfl ((q_move rfl rfl)) (sr rfl rfl rfl ((q_extract rfl rfl rfl)) (sr rfl rfl rfl ((q_extract rfl rfl rfl)) (sr rfl rfl rfl ((q_assign rfl rfl)) (sr rfl rfl rfl ((q_assign rfl rfl)) (sw_nil (post_then (cw_seq (cw_region (sr rfl rfl rfl ((q_move rfl rfl)) ?_)))))))))
  refine sw_x rfl rfl rfl (e_call (CanCall.mk Tryz.call34) rfl (.cons rfl inferInstance (.cons rfl inferInstance (.nil))) (fun w1 hw => price_yes 4 (by omega) s56 [s52, s53, s54, s55] exS w1 (hsets hw (by exact .tail _ (.head _)) (by exact .tail _ (.tail _ (.tail _ (.tail _ (.tail _ (.head _)))))) (by exact .tail _ (.tail _ (.tail _ (.tail _ (.head _))))) (by exact .tail _ (.tail _ (.tail _ (.head _)))) (by exact .tail _ (.tail _ (.head _)))) exS_cov (by decide) (by rw [exS_wid]; decide) exS_poss)) (fun z => ?_)
  refine sw_imp fun hz => ?_
  obtain ⟨sp, ⟨lp, ⟨kp, lq⟩⟩⟩ := z
  dsimp only at hz ⊢
  obtain ⟨hz1, hz2⟩ := hz
  obtain rfl := exS_k hz2.ok hz2.full
  rw [exS_sh] at hz1
  obtain rfl : lp = [9240, 9240, 9240, 27720] := hz1
  clear hz2
  rw [exS_wid, exS_scale]
  refine sr rfl rfl rfl ((q_move rfl rfl)) (sr rfl rfl rfl ((q_extract rfl rfl rfl)) (sr rfl rfl rfl ((q_extract rfl rfl rfl)) (sr rfl rfl rfl ((q_extract rfl rfl rfl)) (sr rfl rfl rfl ((q_assign rfl rfl)) (sr rfl rfl rfl ((q_assign rfl rfl)) (sr rfl rfl rfl ((q_assign rfl rfl)) (sw_nil (post_then (cw_seq (cw_region (sr rfl rfl rfl ((q_move rfl rfl)) (sr rfl rfl rfl ((q_move rfl rfl)) (sr rfl rfl rfl ((q_move rfl rfl)) ?_)))))))))))))
  refine sw_step rfl rfl rfl (q_call (v := .tuple #[.int .i64 2, .bool true]) (CanCall.mk Tryz.call39) rfl (.cons rfl inferInstance (.cons rfl inferInstance (.cons rfl inferInstance (.cons rfl inferInstance (.nil))))) (fun _ w1 hw => callq hw (by have := proves_yes 4 (by omega) s56 [s52, s53, s54, s55] exS sp [9240, 9240, 9240, 27720] 50820 w1 (hsets hw (by exact .tail _ (.tail _ (.head _))) (by exact .tail _ (.tail _ (.tail _ (.tail _ (.tail _ (.tail _ (.head _))))))) (by exact .tail _ (.tail _ (.tail _ (.tail _ (.tail _ (.head _)))))) (by exact .tail _ (.tail _ (.tail _ (.tail _ (.head _))))) (by exact .tail _ (.tail _ (.tail _ (.head _))))) (stb_own (e := 3) hw (by exact .head _)) exS_cov; rw [exS_prov.1, exS_prov.2] at this; exact this))) ?_
  refine sr rfl rfl rfl ((q_move rfl rfl)) (sr rfl rfl rfl ((q_extract rfl rfl rfl)) (sr rfl rfl rfl ((q_extract rfl rfl rfl)) (sr rfl rfl rfl ((q_assign rfl rfl)) (sr rfl rfl rfl ((q_assign rfl rfl)) (sw_nil (post_then (cw_seq (cw_seq (cw_region (sr rfl rfl rfl ((q_move rfl rfl)) (sr rfl rfl rfl ((q_neq rfl rfl rfl)) (sr rfl rfl rfl ((q_move rfl rfl)) (sr rfl rfl rfl ((q_move rfl rfl)) (sr rfl rfl rfl ((q_neq rfl rfl rfl)) (sr rfl rfl rfl ((q_or2 rfl rfl rfl)) (sr rfl rfl rfl ((q_move rfl rfl)) (sr rfl rfl rfl ((q_move rfl rfl)) (sr rfl rfl rfl ((q_neq rfl rfl rfl)) (sr rfl rfl rfl ((q_or2 rfl rfl rfl)) (sr rfl rfl rfl ((q_move rfl rfl)) (sr rfl rfl rfl ((q_move rfl rfl)) (sr rfl rfl rfl ((q_neq rfl rfl rfl)) (sr rfl rfl rfl ((q_or2 rfl rfl rfl)) (sr rfl rfl rfl ((q_move rfl rfl)) (sr rfl rfl rfl ((q_move rfl rfl)) (sr rfl rfl rfl ((q_neq rfl rfl rfl)) (sr rfl rfl rfl ((q_or2 rfl rfl rfl)) (sr rfl rfl rfl ((q_move rfl rfl)) (sr rfl rfl rfl ((q_move rfl rfl)) (sr rfl rfl rfl ((q_not rfl rfl)) (sr rfl rfl rfl ((q_or2 rfl rfl rfl)) (sr rfl rfl rfl ((q_move rfl rfl)) (sr rfl rfl rfl ((q_move rfl rfl)) ?_)))))))))))))))))))))))))))))))))
  refine sr rfl rfl rfl ((q_len rfl (.cons rfl inferInstance (.nil)) (by exact fun w hw => rd_own hw (by exact .tail _ (.tail _ (.tail _ (.tail _ (.tail _ (.tail _ (.tail _ (.tail _ (.head _)))))))))))) ?_
  refine sr rfl rfl rfl ((q_neq rfl rfl rfl)) (sr rfl rfl rfl ((q_or2 rfl rfl rfl)) (sw_nil (post_then ?_)))
  refine cw_cond rfl (fun h => ?_) (fun h => ?_)
  · skip
    simp at h
  · skip
    clear h
    have hn2 : (nth [q1, (⟨u2, 20, l2⟩ : Sq)] 1).cost = 20 := rfl
    refine cw_skip (post_then (cw_seq (cw_region (sr rfl rfl rfl ((q_fieldAddr rfl rfl)) ?_))))
    refine sr rfl rfl rfl ((q_loadC rfl rfl (by exact .tail _ (.tail _ (.tail _ (.tail _ (.tail _ (.tail _ (.tail _ (.tail _ (.tail _ (.head _)))))))))) rfl)) ?_
    refine sw_x rfl rfl rfl (e_buildL (α := Int) (l := [0, 1]) rfl (.cons rfl inferInstance (.cons rfl inferInstance (.nil))) rfl rfl rfl rfl) (fun s104 => ?_)
    refine sw_step rfl rfl rfl (q_call (v := .bool true) (CanCall.mk Tryz.call23) rfl (.cons rfl inferInstance (.cons rfl inferInstance (.nil))) (fun _ w1 hw => callq hw (same_true _ _ [0, 1] [0, 1] rfl w1 (stb_own (e := 3) hw (by exact .tail _ (.tail _ (.tail _ (.tail _ (.tail _ (.tail _ (.tail _ (.tail _ (.tail _ (.tail _ (.tail _ (.tail _ (.tail _ (.head _))))))))))))))) (stb_own (e := 3) hw (by exact .head _))))) ?_
    refine sr rfl rfl rfl ((q_move rfl rfl)) (sr rfl rfl rfl ((q_fieldAddr rfl rfl)) ?_)
    refine sr rfl rfl rfl ((q_loadC rfl rfl (by exact .tail _ (.tail _ (.tail _ (.tail _ (.tail _ (.tail _ (.tail _ (.tail _ (.tail _ (.tail _ (.head _))))))))))) rfl)) ?_
    refine sr rfl rfl rfl ((q_eql rfl rfl rfl)) (sr rfl rfl rfl ((q_and2 rfl rfl rfl)) (sr rfl rfl rfl ((q_move rfl rfl)) (sr rfl rfl rfl ((q_move rfl rfl)) ?_)))
    refine sw_xc rfl (by first | (simp [AllT]; done) | simp [AllT, *]) rfl rfl (e_buildLc (α := Int) (l := [0, 0, 20]) rfl (.cons rfl inferInstance (.cons rfl inferInstance (.cons rfl inferInstance (.nil)))) rfl rfl rfl rfl) (fun s113 => ?_)
    refine sw_xc rfl (by first | (simp [AllT]; done) | simp [AllT, *]) rfl rfl (e_buildLc (α := Int) (l := [0, 0, 0]) rfl (.cons rfl inferInstance (.cons rfl inferInstance (.cons rfl inferInstance (.nil)))) rfl rfl rfl rfl) (fun s114 => ?_)
    refine sw_xc rfl (by first | (simp [AllT]; done) | simp [AllT, *]) rfl rfl (e_buildLc (α := SlV) (l := [s113, s114]) rfl (.cons rfl inferInstance (.cons rfl inferInstance (.nil))) rfl rfl rfl rfl) (fun s115 => ?_)
    refine sw_step rfl rfl rfl (q_call (v := .bool true) (CanCall.mk Tryz.call24) rfl (.cons rfl inferInstance (.cons rfl inferInstance (.nil))) (fun _ w1 hw => callq hw (sameL_true _ _ (rowsTo sc 3 2 2) [s113, s114] [[0, 0, 20], [0, 0, 0]] [[0, 0, 20], [0, 0, 0]] rfl w1 (ex_rows (stb_own (e := 28) hw (by exact .tail _ (.tail _ (.tail _ (.tail _ (.tail _ (.tail _ (.tail _ (.tail _ (.tail _ (.tail _ (.tail _ (.tail _ (.tail _ (.tail _ (.head _)))))))))))))))) (stb_own (e := 3) hw (by exact .tail _ (.tail _ (.tail _ (.tail _ (.tail _ (.tail _ (.tail _ (.tail _ (.tail _ (.tail _ (.tail _ (.tail _ (.tail _ (.tail _ (.tail _ (.head _)))))))))))))))))) (mt_own hw (e := 28) (by exact .head _) rfl (fun i hi => by match i, hi with | 0, _ => exact ⟨3, (by exact .tail _ (.tail _ (.head _)))⟩ | 1, _ => exact ⟨3, (by exact .tail _ (.head _))⟩))))) ?_
    refine sr rfl rfl rfl ((q_and2 rfl rfl rfl)) (sr rfl rfl rfl ((q_move rfl rfl)) (sr rfl rfl rfl ((q_move rfl rfl)) ?_))
    refine sr rfl rfl rfl ((q_indexN rfl rfl rfl (by exact fun w hw => rd_own hw (by exact .tail _ (.tail _ (.tail _ (.tail _ (.tail _ (.tail _ (.tail _ (.tail _ (.tail _ (.tail _ (.tail _ (.tail _ (.head _)))))))))))))) (by intro hc; (simp only [List.length_set, List.length_append, List.length_cons, List.length_nil, List.length_replicate, List.length_take, List.length_drop, List.length_map]; omega)))) ?_
    refine sr rfl rfl rfl ((q_fieldEl rfl rfl (by exact fun w hw => rd_own hw (by exact .tail _ (.tail _ (.tail _ (.tail _ (.tail _ (.tail _ (.tail _ (.tail _ (.tail _ (.tail _ (.tail _ (.tail _ (.head _)))))))))))))) (by intro hc; (simp only [List.length_set, List.length_append, List.length_cons, List.length_nil, List.length_replicate, List.length_take, List.length_drop, List.length_map]; omega)))) ?_
    refine sr rfl rfl rfl ((q_loadF rfl rfl rfl (by exact fun w hw => rd_own hw (by exact .tail _ (.tail _ (.tail _ (.tail _ (.tail _ (.tail _ (.tail _ (.tail _ (.tail _ (.tail _ (.tail _ (.tail _ (.head _)))))))))))))) (by intro hc; (simp only [List.length_set, List.length_append, List.length_cons, List.length_nil, List.length_replicate, List.length_take, List.length_drop, List.length_map]; omega)) rfl)) ?_
    refine sr rfl rfl rfl ((q_eql rfl rfl rfl)) (sr rfl rfl rfl ((q_and2 rfl rfl rfl)) (sr rfl rfl rfl ((q_move rfl rfl)) (sr rfl rfl rfl ((q_move rfl rfl)) ?_)))
    refine sw_xc rfl (by first | (simp [AllT]; done) | simp [AllT, *]) rfl rfl (e_buildLc (α := Int) (l := [2, 1]) rfl (.cons rfl inferInstance (.cons rfl inferInstance (.nil))) rfl rfl rfl rfl) (fun s127 => ?_)
    refine sw_step rfl rfl rfl (q_call (v := .bool true) (CanCall.mk Tryz.call23) rfl (.cons rfl inferInstance (.cons rfl inferInstance (.nil))) (fun _ w1 hw => callq hw (same_true _ _ [2, 1] [2, 1] rfl w1 (stb_own (e := 3) hw (by exact .tail _ (.tail _ (.tail _ (.tail _ (.tail _ (.tail _ (.tail _ (.tail _ (.tail _ (.tail _ (.tail _ (.tail _ (.head _)))))))))))))) (stb_own (e := 3) hw (by exact .head _))))) ?_
    refine sr rfl rfl rfl ((q_and2 rfl rfl rfl)) (sr rfl rfl rfl ((q_move rfl rfl)) (sr rfl rfl rfl ((q_move rfl rfl)) (sr rfl rfl rfl ((q_eql rfl rfl rfl)) (sr rfl rfl rfl ((q_and2 rfl rfl rfl)) (sr rfl rfl rfl ((q_move rfl rfl)) (sr rfl rfl rfl ((q_move rfl rfl)) ?_))))))
    refine sw_xc rfl (by first | (simp [AllT]; done) | simp [AllT, *]) rfl rfl (e_buildLc (α := Int) (l := [0, 1]) rfl (.cons rfl inferInstance (.cons rfl inferInstance (.nil))) rfl rfl rfl rfl) (fun s136 => ?_)
    refine sw_step rfl rfl rfl (q_call (v := .bool true) (CanCall.mk Tryz.call23) rfl (.cons rfl inferInstance (.cons rfl inferInstance (.nil))) (fun _ w1 hw => callq hw (same_true _ _ [0, 1] [0, 1] rfl w1 (stb_own (e := 3) hw (by exact .tail _ (.tail _ (.tail _ (.tail _ (.tail _ (.tail _ (.tail _ (.head _))))))))) (stb_own (e := 3) hw (by exact .head _))))) ?_
    refine sr rfl rfl rfl ((q_and2 rfl rfl rfl)) (sr rfl rfl rfl ((q_move rfl rfl)) (sr rfl rfl rfl ((q_move rfl rfl)) (sr rfl rfl rfl ((q_eql rfl rfl rfl)) (sr rfl rfl rfl ((q_and2 rfl rfl rfl)) (sr rfl rfl rfl ((q_move rfl rfl)) (sr rfl rfl rfl ((q_move rfl rfl)) (sr rfl rfl rfl ((q_eql rfl rfl rfl)) (sr rfl rfl rfl ((q_and2 rfl rfl rfl)) (sr rfl rfl rfl ((q_assign rfl rfl)) (sw_nil (post_then (cw_ret (post_ret1 rfl (resOk_tmp rfl) ?_)))))))))))))
    exact fun w' hw => ⟨rfl, (fun w h => Cl.sel (by exact .nil _) w h) _ hw⟩
end Go.Proofs.YtomjbfeafodfbaaGreat

set_option autoImplicit false
set_option maxRecDepth 100000
namespace Go.Proofs.YtomjbfeafodfbaaGreat
open Go.Sx
open Enc (enc val)
theorem setsOk_of {n : Int} {ls : List (List Int)} {most : Int} (h : setsOk n ls most = true) : ((ls.length : Int) ≤ most ∨ 1000 < ls.length) ∧ (n ≤ 30 ∨ 1000 < n) := by
  simp only [setsOk, Bool.and_eq_true, decide_eq_true_eq] at h
  exact ⟨h.1.1, h.1.2.2⟩
theorem greedyE_bad {n : Int} {ls : List (List Int)} (h : covE n ls 1000 ≠ 0) : greedyE n ls = covE n ls 1000 ∧ covE n ls 1000 ≠ 5 := by
  refine ⟨by rw [greedyE, if_pos h], ?_⟩
  unfold covE
  split
  · decide
  · split <;> decide
theorem greedyE_ok {n : Nat} {ls : List (List Int)} (h : covE n ls 1000 = 0) : greedyE n ls = if possN n (msOf ls) then 0 else 5 := by
  rw [greedyE, h, if_neg (by simp)]; rfl
theorem lawProves_bad (n : Int) (hn : -9223372036854775808 ≤ n) (sv : SlV) (vs : List SlV) (ls : List (List Int)) (sp : SlV) (prices : List Int) (scale : Int) (w : World) (hm : Stb w [] (fun w' => Mt w' sv.v vs ls)) (hp : Stb w [] (RdL sp.v prices)) (hE : covE n ls 1000 ≠ 0) :
    Calls Tryz.prog 8 #[.int .i64 n, sv.v, sp.v, .int .i64 scale] w fun e w' => e = .returned (.bool true) ∧ Cl w [] [] w' := by
  have hL := rd_len hp.here
  refine calls_cw (vs := [_, _, _, _]) Tryz.func8 rfl Tryz.ntmps8 rfl (Cl.start0 w) (cw_seq (cw_region (sr rfl rfl rfl ((q_assign rfl rfl)) (sw_nil (post_then (cw_seq (cw_seq (cw_region (sr rfl rfl rfl ((q_move rfl rfl)) (sr rfl rfl rfl ((q_move rfl rfl)) (sw_step rfl rfl rfl (q_call (CanCall.mk Tryz.call33) rfl (.cons rfl inferInstance (.cons rfl inferInstance (.cons rfl inferInstance (.nil)))) (fun _ w hw => callq hw (sets_spec n sv vs ls 8 w (stb_arg hw hm)))) (sr rfl rfl rfl ((q_not rfl rfl)) (sr rfl rfl rfl ((q_move rfl rfl)) (sr rfl rfl rfl ((q_move rfl rfl)) ?_))))))))))))))
  refine sr rfl rfl rfl ((q_len rfl (.cons rfl inferInstance (.nil)) (by exact fun w hw => Stb.cl (by assumption) hw))) ?_
  refine sr rfl rfl rfl ((q_gtr rfl rfl rfl)) (sr rfl rfl rfl ((q_or2 rfl rfl rfl)) (sw_nil (post_then ?_)))
  refine cw_cond rfl (fun h => ?_) (fun h => ?_)
  · skip
    refine cw_seq (cw_region (sw_step rfl rfl rfl (q_call (CanCall.mk Tryz.call18) rfl (.nil) (fun _ w hw => callq hw (known_spec w))) (sr rfl rfl rfl ((q_assign rfl rfl)) (sw_nil (post_then (cw_ret (post_then_r (post_ret1 rfl (resOk_tmp rfl) ?_))))))))
    exact fun w' hw => ⟨rfl, hw⟩
  · skip
    have hso : setsOk n ls 8 = true := by
      cases h2 : setsOk n ls 8
      · rw [h2] at h; simp at h
      · rfl
    obtain ⟨k1, k2⟩ := setsOk_of hso
    have hg := greedyE_bad hE
    refine cw_skip (post_then (cw_seq (cw_region (sr rfl rfl rfl ((q_move rfl rfl)) (sr rfl rfl rfl ((q_move rfl rfl)) (sr rfl rfl rfl ((q_move rfl rfl)) (sr rfl rfl rfl ((q_move rfl rfl)) (sw_step rfl rfl rfl (q_call (CanCall.mk Tryz.call39) rfl (.cons rfl inferInstance (.cons rfl inferInstance (.cons rfl inferInstance (.cons rfl inferInstance (.nil))))) (fun _ w hw => callq hw (proves_bad n hn sv vs ls sp prices scale w (stb_arg hw hm) (stb_arg hw hp) hE))) (sr rfl rfl rfl ((q_move rfl rfl)) (sr rfl rfl rfl ((q_extract rfl rfl rfl)) (sr rfl rfl rfl ((q_extract rfl rfl rfl)) (sr rfl rfl rfl ((q_assign rfl rfl)) (sr rfl rfl rfl ((q_assign rfl rfl)) (sw_nil (post_then (cw_seq (cw_region (sr rfl rfl rfl ((q_assign rfl rfl)) (sr rfl rfl rfl ((q_assign rfl rfl)) (sw_nil (post_then (cw_seq (cw_seq (cw_region (sr rfl rfl rfl ((q_move rfl rfl)) (sr rfl rfl rfl ((q_move rfl rfl)) ?_))))))))))))))))))))))))))
    refine sw_step rfl rfl rfl (q_call (CanCall.mk Tryz.call35) rfl (.cons rfl inferInstance (.cons rfl inferInstance (.nil))) (fun _ w hw => callq hw (needed_spec n k2 sv vs ls (by omega) w (stb_arg hw hm)))) ?_
    refine sr rfl rfl rfl ((q_assign rfl rfl)) (sw_nil (post_then (cw_seq (cw_region (sr rfl rfl rfl ((q_move rfl rfl)) (sr rfl rfl rfl ((q_eql rfl rfl rfl)) (sr rfl rfl rfl ((q_move rfl rfl)) (sr rfl rfl rfl ((q_move rfl rfl)) (sr rfl rfl rfl ((q_eql rfl rfl rfl)) (sr rfl rfl rfl ((q_or2 rfl rfl rfl)) (sw_nil (post_then ?_))))))))))))
    refine cw_cond rfl (fun h3 => ?_) (fun h3 => ?_)
    · skip
      exfalso
      rw [hg.1] at h3
      simp only [Bool.or_eq_true, decide_eq_true_eq] at h3
      rcases h3 with h3 | h3
      · exact hE h3
      · exact hg.2 h3
    · skip
      refine cw_skip (post_then (cw_seq (cw_region (sr rfl rfl rfl ((q_move rfl rfl)) (sr rfl rfl rfl ((q_move rfl rfl)) (sr rfl rfl rfl ((q_eql rfl rfl rfl)) (sr rfl rfl rfl ((q_move rfl rfl)) (sr rfl rfl rfl ((q_move rfl rfl)) (sr rfl rfl rfl ((q_move rfl rfl)) (sr rfl rfl rfl ((q_eql_b rfl rfl rfl Tryz.underlying4)) (sr rfl rfl rfl ((q_and2 rfl rfl rfl)) (sr rfl rfl rfl ((q_move rfl rfl)) (sw_step rfl rfl rfl (q_call (CanCall.mk Tryz.call18) rfl (.nil) (fun _ w hw => callq hw (known_spec w))) (sr rfl rfl rfl ((q_and2 rfl rfl rfl)) (sr rfl rfl rfl ((q_assign rfl rfl)) (sw_nil (post_then (cw_ret (post_ret1 rfl (resOk_tmp rfl) ?_)))))))))))))))))))
      exact fun w' hw => ⟨rfl, hw⟩
theorem lawProves_ok (n : Nat) (sv : SlV) (vs : List SlV) (ls : List (List Int)) (sp : SlV) (prices : List Int) (scale : Int) (w : World) (hm : Stb w [] (fun w' => Mt w' sv.v vs ls)) (hp : Stb w [] (RdL sp.v prices)) (hE : covE n ls 1000 = 0) :
    Calls Tryz.prog 8 #[.int .i64 n, sv.v, sp.v, .int .i64 scale] w fun e w' => e = .returned (.bool true) ∧ Cl w [] [] w' := by
  have hL := rd_len hp.here
  obtain ⟨q1, q2, q3, q4⟩ := covE_ok hE
  refine calls_cw (vs := [_, _, _, _]) Tryz.func8 rfl Tryz.ntmps8 rfl (Cl.start0 w) (cw_seq (cw_region (sr rfl rfl rfl ((q_assign rfl rfl)) (sw_nil (post_then (cw_seq (cw_seq (cw_region (sr rfl rfl rfl ((q_move rfl rfl)) (sr rfl rfl rfl ((q_move rfl rfl)) (sw_step rfl rfl rfl (q_call (CanCall.mk Tryz.call33) rfl (.cons rfl inferInstance (.cons rfl inferInstance (.cons rfl inferInstance (.nil)))) (fun _ w hw => callq hw (sets_spec n sv vs ls 8 w (stb_arg hw hm)))) (sr rfl rfl rfl ((q_not rfl rfl)) (sr rfl rfl rfl ((q_move rfl rfl)) (sr rfl rfl rfl ((q_move rfl rfl)) ?_))))))))))))))
  refine sr rfl rfl rfl ((q_len rfl (.cons rfl inferInstance (.nil)) (by exact fun w hw => Stb.cl (by assumption) hw))) ?_
  refine sr rfl rfl rfl ((q_gtr rfl rfl rfl)) (sr rfl rfl rfl ((q_or2 rfl rfl rfl)) (sw_nil (post_then ?_)))
  refine cw_cond rfl (fun h => ?_) (fun h => ?_)
  · skip
    refine cw_seq (cw_region (sw_step rfl rfl rfl (q_call (CanCall.mk Tryz.call18) rfl (.nil) (fun _ w hw => callq hw (known_spec w))) (sr rfl rfl rfl ((q_assign rfl rfl)) (sw_nil (post_then (cw_ret (post_then_r (post_ret1 rfl (resOk_tmp rfl) ?_))))))))
    exact fun w' hw => ⟨rfl, hw⟩
  · skip
    have hso : setsOk n ls 8 = true := by
      cases h2 : setsOk n ls 8
      · rw [h2] at h; simp at h
      · rfl
    obtain ⟨k1, k2⟩ := setsOk_of hso
    have hg := greedyE_ok hE
    refine cw_skip (post_then (cw_seq (cw_region (sr rfl rfl rfl ((q_move rfl rfl)) (sr rfl rfl rfl ((q_move rfl rfl)) (sr rfl rfl rfl ((q_move rfl rfl)) (sr rfl rfl rfl ((q_move rfl rfl)) ?_)))))))
    refine sw_step rfl rfl rfl (q_call (CanCall.mk Tryz.call39) rfl (.cons rfl inferInstance (.cons rfl inferInstance (.cons rfl inferInstance (.cons rfl inferInstance (.nil))))) (fun _ w hw => callq hw (proves_yes n (by omega) sv vs ls sp prices scale w (stb_arg hw hm) (stb_arg hw hp) hE))) ?_
    refine sr rfl rfl rfl ((q_move rfl rfl)) (sr rfl rfl rfl ((q_extract rfl rfl rfl)) (sr rfl rfl rfl ((q_extract rfl rfl rfl)) (sr rfl rfl rfl ((q_assign rfl rfl)) (sr rfl rfl rfl ((q_assign rfl rfl)) (sw_nil (post_then (cw_seq (cw_region (sr rfl rfl rfl ((q_assign rfl rfl)) (sr rfl rfl rfl ((q_assign rfl rfl)) (sw_nil (post_then (cw_seq (cw_seq (cw_region (sr rfl rfl rfl ((q_move rfl rfl)) (sr rfl rfl rfl ((q_move rfl rfl)) ?_)))))))))))))))))
    refine sw_step rfl rfl rfl (q_call (CanCall.mk Tryz.call35) rfl (.cons rfl inferInstance (.cons rfl inferInstance (.nil))) (fun _ w hw => callq hw (needed_spec n k2 sv vs ls (by omega) w (stb_arg hw hm)))) ?_
    refine sr rfl rfl rfl ((q_assign rfl rfl)) (sw_nil (post_then (cw_seq (cw_region (sr rfl rfl rfl ((q_move rfl rfl)) (sr rfl rfl rfl ((q_eql rfl rfl rfl)) (sr rfl rfl rfl ((q_move rfl rfl)) (sr rfl rfl rfl ((q_move rfl rfl)) (sr rfl rfl rfl ((q_eql rfl rfl rfl)) (sr rfl rfl rfl ((q_or2 rfl rfl rfl)) (sw_nil (post_then ?_))))))))))))
    refine cw_cond rfl (fun h3 => ?_) (fun h3 => ?_)
    · skip
      refine cw_region (sr rfl rfl rfl ((q_move rfl rfl)) (sr rfl rfl rfl ((q_move rfl rfl)) (sr rfl rfl rfl ((q_move rfl rfl)) (sr rfl rfl rfl ((q_move rfl rfl)) ?_))))
      refine sw_step rfl rfl rfl (q_call (CanCall.mk Tryz.call40) rfl (.cons rfl inferInstance (.cons rfl inferInstance (.cons rfl inferInstance (.cons rfl inferInstance (.nil))))) (fun _ w hw => callq hw (refProves_spec n (by omega) sv vs ls q4 sp prices scale w (stb_arg hw hm) (stb_arg hw hp)))) ?_
      refine sr rfl rfl rfl ((q_move rfl rfl)) (sr rfl rfl rfl ((q_extract rfl rfl rfl)) (sr rfl rfl rfl ((q_extract rfl rfl rfl)) (sr rfl rfl rfl ((q_assign rfl rfl)) (sr rfl rfl rfl ((q_assign rfl rfl)) (sw_nil (post_then (cw_seq (cw_region (sr rfl rfl rfl ((q_move rfl rfl)) (sr rfl rfl rfl ((q_move rfl rfl)) (sr rfl rfl rfl ((q_eql rfl rfl rfl)) (sr rfl rfl rfl ((q_move rfl rfl)) (sr rfl rfl rfl ((q_move rfl rfl)) (sr rfl rfl rfl ((q_move rfl rfl)) (sr rfl rfl rfl ((q_eql_b rfl rfl rfl Tryz.underlying4)) (sr rfl rfl rfl ((q_and2 rfl rfl rfl)) (sr rfl rfl rfl ((q_move rfl rfl)) (sw_step rfl rfl rfl (q_call (CanCall.mk Tryz.call18) rfl (.nil) (fun _ w hw => callq hw (known_spec w))) (sr rfl rfl rfl ((q_and2 rfl rfl rfl)) (sr rfl rfl rfl ((q_assign rfl rfl)) (sw_nil (post_then (cw_ret (post_ret1 rfl (resOk_tmp rfl) ?_))))))))))))))))))))))))
      exact fun w' hw => ⟨by simp, hw⟩
    · skip
      exfalso
      rw [hg] at h3
      cases h4 : possN n (msOf ls) <;> rw [h4] at h3 <;> simp at h3
theorem lawProves (n : Int) (hn : -9223372036854775808 ≤ n) (sv : SlV) (vs : List SlV) (ls : List (List Int)) (sp : SlV) (prices : List Int) (scale : Int) (w : World) (hm : Stb w [] (fun w' => Mt w' sv.v vs ls)) (hp : Stb w [] (RdL sp.v prices)) :
    Calls Tryz.prog 8 #[.int .i64 n, sv.v, sp.v, .int .i64 scale] w fun e w' => e = .returned (.bool true) ∧ Cl w [] [] w' := by
  by_cases hE : covE n ls 1000 = 0
  · obtain ⟨m, rfl⟩ : ∃ m : Nat, n = m := ⟨n.toNat, by have := (covE_ok hE).2.2.1; omega⟩
    exact lawProves_ok m sv vs ls sp prices scale w hm hp hE
  · exact lawProves_bad n hn sv vs ls sp prices scale w hm hp hE
end Go.Proofs.YtomjbfeafodfbaaGreat

set_option autoImplicit false
set_option maxRecDepth 100000
namespace Go.Proofs.YtomjbfeafodfbaaGreat
open Go.Sx
open Enc (enc val)
theorem lawPrices_bad (n : Int) (hn : -9223372036854775808 ≤ (n : Int)) (sv : SlV) (vs : List SlV) (ls : List (List Int)) (w : World) (hm : Stb w [] (fun w' => Mt w' sv.v vs ls)) (hE : covE n ls 1000 ≠ 0) :
    Calls Tryz.prog 7 #[.int .i64 n, sv.v] w fun e w' => e = .returned (.bool true) ∧ Cl w [] [] w' := by
  refine calls_cw (vs := [_, _]) Tryz.func7 rfl Tryz.ntmps7 rfl (Cl.start0 w) (cw_seq (cw_region (sr rfl rfl rfl ((q_assign rfl rfl)) (sw_nil (post_then (cw_seq (cw_seq (cw_region (sr rfl rfl rfl ((q_move rfl rfl)) (sr rfl rfl rfl ((q_move rfl rfl)) (sw_step rfl rfl rfl (q_call (CanCall.mk Tryz.call33) rfl (.cons rfl inferInstance (.cons rfl inferInstance (.cons rfl inferInstance (.nil)))) (fun _ w hw => callq hw (sets_spec n sv vs ls 8 w (stb_arg hw hm)))) (sr rfl rfl rfl ((q_not rfl rfl)) (sw_nil (post_then ?_))))))))))))))
  refine cw_cond rfl (fun h => ?_) (fun h => ?_)
  · skip
    refine cw_seq (cw_region (sw_step rfl rfl rfl (q_call (CanCall.mk Tryz.call18) rfl (.nil) (fun _ w hw => callq hw (known_spec w))) (sr rfl rfl rfl ((q_assign rfl rfl)) (sw_nil (post_then (cw_ret (post_then_r (post_ret1 rfl (resOk_tmp rfl) ?_))))))))
    exact fun w' hw => ⟨rfl, hw⟩
  · skip
    have hso : setsOk n ls 8 = true := by
      cases h2 : setsOk n ls 8
      · rw [h2] at h; simp at h
      · rfl
    obtain ⟨k1, k2⟩ := setsOk_of hso
    have hg := greedyE_bad hE
    refine cw_skip (post_then (cw_seq (cw_region (sr rfl rfl rfl ((q_move rfl rfl)) (sr rfl rfl rfl ((q_move rfl rfl)) (sw_step rfl rfl rfl (q_call (CanCall.mk Tryz.call34) rfl (.cons rfl inferInstance (.cons rfl inferInstance (.nil))) (fun _ w hw => callq (v := .tuple #[SlV.v ⟨none, 0, 0⟩, .int .i64 0, .int .i64 (covE n ls 1000)]) hw (price_bad n hn sv vs ls w (stb_arg hw hm) hE))) (sr rfl rfl rfl ((q_move rfl rfl)) ?_)))))))
    first | refine sr rfl rfl rfl ((q_extract rfl rfl rfl)) ?_ | refine sr rfl rfl rfl ((q_extract rfl rfl (nextV_0 _))) ?_
    first | refine sr rfl rfl rfl ((q_extract rfl rfl rfl)) ?_ | refine sr rfl rfl rfl ((q_extract rfl rfl (nextV_0 _))) ?_
    first | refine sr rfl rfl rfl ((q_extract rfl rfl rfl)) ?_ | refine sr rfl rfl rfl ((q_extract rfl rfl (nextV_0 _))) ?_
    refine sr rfl rfl rfl ((q_assign rfl rfl)) (sr rfl rfl rfl ((q_assign rfl rfl)) (sr rfl rfl rfl ((q_assign rfl rfl)) (sw_nil (post_then (cw_seq (cw_region (sr rfl rfl rfl ((q_move rfl rfl)) (sr rfl rfl rfl ((q_move rfl rfl)) ?_))))))))
    refine sw_step rfl rfl rfl (q_call (CanCall.mk Tryz.call35) rfl (.cons rfl inferInstance (.cons rfl inferInstance (.nil))) (fun _ w hw => callq hw (needed_spec n k2 sv vs ls (by omega) w (stb_arg hw hm)))) ?_
    refine sr rfl rfl rfl ((q_assign rfl rfl)) (sw_nil (post_then (cw_seq (cw_seq (cw_region (sr rfl rfl rfl ((q_move rfl rfl)) (sr rfl rfl rfl ((q_eql rfl rfl rfl)) (sr rfl rfl rfl ((q_move rfl rfl)) (sr rfl rfl rfl ((q_move rfl rfl)) (sr rfl rfl rfl ((q_eql rfl rfl rfl)) (sr rfl rfl rfl ((q_or2 rfl rfl rfl)) (sr rfl rfl rfl ((q_move rfl rfl)) (sr rfl rfl rfl ((q_move rfl rfl)) (sr rfl rfl rfl ((q_move rfl rfl)) ?_))))))))))))))
    have hno : (decide (greedyE n ls = 0) || decide (greedyE n ls = 5)) = false := by
      rw [hg.1, decide_eq_false hE, decide_eq_false hg.2]; rfl
    rw [hno]
    refine sr rfl rfl rfl ((q_off (v := .int .i64 0) (by simp [AllT]))) ?_
    refine sr rfl rfl rfl ((q_gtr rfl rfl rfl)) (sr rfl rfl rfl ((q_and2 rfl rfl rfl)) (sw_nil (post_then ?_)))
    refine cw_cond rfl (fun h3 => ?_) (fun h3 => ?_)
    · skip
      simp at h3
    · skip
      rw [hg.1]
      refine cw_skip (post_then (cw_seq (cw_seq (cw_region (sr rfl rfl rfl ((q_move rfl rfl)) (sr rfl rfl rfl ((q_neq rfl rfl rfl)) (sw_nil (post_then ?_))))))))
      refine cw_cond rfl (fun h4 => ?_) (fun h4 => ?_)
      · skip
        refine cw_seq (cw_region (sr rfl rfl rfl ((q_move rfl rfl)) (sr rfl rfl rfl ((q_move rfl rfl)) (sr rfl rfl rfl ((q_eql rfl rfl rfl)) (sr rfl rfl rfl ((q_move rfl rfl)) (sr rfl rfl rfl ((q_move rfl rfl)) ?_))))))
        first | refine sr rfl rfl rfl ((q_len rfl (.cons rfl inferInstance (.nil)) (by first | exact fun w hw => Stb.cl (by assumption) hw | exact fun w hw => rd_own hw (by first | assumption | (repeat first | exact .head _ | apply List.Mem.tail)) | assumption))) ?_ | refine sr rfl rfl rfl ((q_lenV rfl (.cons rfl inferInstance (.nil)))) ?_
        refine sr rfl rfl rfl ((q_eql rfl rfl rfl)) (sr rfl rfl rfl ((q_and2 rfl rfl rfl)) (sr rfl rfl rfl ((q_move rfl rfl)) (sr rfl rfl rfl ((q_move rfl rfl)) (sr rfl rfl rfl ((q_eql rfl rfl rfl)) (sr rfl rfl rfl ((q_and2 rfl rfl rfl)) (sr rfl rfl rfl ((q_move rfl rfl)) (sw_step rfl rfl rfl (q_call (CanCall.mk Tryz.call18) rfl (.nil) (fun _ w hw => callq hw (known_spec w))) (sr rfl rfl rfl ((q_and2 rfl rfl rfl)) (sr rfl rfl rfl ((q_assign rfl rfl)) (sw_nil (post_then (cw_ret (post_then_r (post_ret1 rfl (resOk_tmp rfl) ?_))))))))))))))
        exact fun w' hw => ⟨by simp, hw⟩
      · skip
        simp only [Bool.not_eq_false', decide_eq_true_eq] at h4
        exact absurd h4 hE
theorem lawPrices_wide (n : Nat) (hn : -9223372036854775808 ≤ (n : Int)) (sv : SlV) (vs : List SlV) (ls : List (List Int)) (w : World) (hm : Stb w [] (fun w' => Mt w' sv.v vs ls)) (hE : covE n ls 1000 = 0) (h12 : 12 < wid (msOf ls)) :
    Calls Tryz.prog 7 #[.int .i64 n, sv.v] w fun e w' => e = .returned (.bool true) ∧ Cl w [] [] w' := by
  refine calls_cw (vs := [_, _]) Tryz.func7 rfl Tryz.ntmps7 rfl (Cl.start0 w) (cw_seq (cw_region (sr rfl rfl rfl ((q_assign rfl rfl)) (sw_nil (post_then (cw_seq (cw_seq (cw_region (sr rfl rfl rfl ((q_move rfl rfl)) (sr rfl rfl rfl ((q_move rfl rfl)) (sw_step rfl rfl rfl (q_call (CanCall.mk Tryz.call33) rfl (.cons rfl inferInstance (.cons rfl inferInstance (.cons rfl inferInstance (.nil)))) (fun _ w hw => callq hw (sets_spec n sv vs ls 8 w (stb_arg hw hm)))) (sr rfl rfl rfl ((q_not rfl rfl)) (sw_nil (post_then ?_))))))))))))))
  refine cw_cond rfl (fun h => ?_) (fun h => ?_)
  · skip
    refine cw_seq (cw_region (sw_step rfl rfl rfl (q_call (CanCall.mk Tryz.call18) rfl (.nil) (fun _ w hw => callq hw (known_spec w))) (sr rfl rfl rfl ((q_assign rfl rfl)) (sw_nil (post_then (cw_ret (post_then_r (post_ret1 rfl (resOk_tmp rfl) ?_))))))))
    exact fun w' hw => ⟨rfl, hw⟩
  · skip
    have hso : setsOk n ls 8 = true := by
      cases h2 : setsOk n ls 8
      · rw [h2] at h; simp at h
      · rfl
    obtain ⟨k1, k2⟩ := setsOk_of hso
    obtain ⟨q1, q2, q3, q4⟩ := covE_ok hE
    have hg : decide (greedyE n ls = 0) || decide (greedyE n ls = 5) := by rw [greedyE_ok hE]; split <;> rfl
    refine cw_skip (post_then (cw_seq (cw_region (sr rfl rfl rfl ((q_move rfl rfl)) (sr rfl rfl rfl ((q_move rfl rfl)) ?_)))))
    refine sw_step rfl rfl rfl (q_call (CanCall.mk Tryz.call34) rfl (.cons rfl inferInstance (.cons rfl inferInstance (.nil))) (fun _ w hw => callq (v := .tuple #[SlV.v ⟨none, 0, 0⟩, .int .i64 0, .int .i64 2]) hw (price_wide n (by omega) sv vs ls w (stb_arg hw hm) hE h12))) ?_
    refine sr rfl rfl rfl ((q_move rfl rfl)) ?_
    first | refine sr rfl rfl rfl ((q_extract rfl rfl rfl)) ?_ | refine sr rfl rfl rfl ((q_extract rfl rfl (nextV_0 _))) ?_
    first | refine sr rfl rfl rfl ((q_extract rfl rfl rfl)) ?_ | refine sr rfl rfl rfl ((q_extract rfl rfl (nextV_0 _))) ?_
    first | refine sr rfl rfl rfl ((q_extract rfl rfl rfl)) ?_ | refine sr rfl rfl rfl ((q_extract rfl rfl (nextV_0 _))) ?_
    refine sr rfl rfl rfl ((q_assign rfl rfl)) (sr rfl rfl rfl ((q_assign rfl rfl)) (sr rfl rfl rfl ((q_assign rfl rfl)) (sw_nil (post_then (cw_seq (cw_region (sr rfl rfl rfl ((q_move rfl rfl)) (sr rfl rfl rfl ((q_move rfl rfl)) ?_))))))))
    refine sw_step rfl rfl rfl (q_call (CanCall.mk Tryz.call35) rfl (.cons rfl inferInstance (.cons rfl inferInstance (.nil))) (fun _ w hw => callq hw (needed_spec n k2 sv vs ls (by omega) w (stb_arg hw hm)))) ?_
    refine sr rfl rfl rfl ((q_assign rfl rfl)) (sw_nil (post_then (cw_seq (cw_seq (cw_region (sr rfl rfl rfl ((q_move rfl rfl)) (sr rfl rfl rfl ((q_eql rfl rfl rfl)) (sr rfl rfl rfl ((q_move rfl rfl)) (sr rfl rfl rfl ((q_move rfl rfl)) (sr rfl rfl rfl ((q_eql rfl rfl rfl)) (sr rfl rfl rfl ((q_or2 rfl rfl rfl)) (sr rfl rfl rfl ((q_move rfl rfl)) (sr rfl rfl rfl ((q_move rfl rfl)) (sr rfl rfl rfl ((q_move rfl rfl)) ?_))))))))))))))
    refine sw_step rfl rfl rfl (q_call (CanCall.mk Tryz.call36) rfl (.cons rfl inferInstance (.cons rfl inferInstance (.nil))) (fun _ w hw => callq hw (widest_spec n (by omega) sv vs ls q4 w (stb_arg hw hm)))) ?_
    refine sr rfl rfl rfl ((q_gtr rfl rfl rfl)) (sr rfl rfl rfl ((q_and2 rfl rfl rfl)) (sw_nil (post_then ?_)))
    rw [hg]
    refine cw_cond rfl (fun h3 => ?_) (fun h3 => ?_)
    · skip
      refine cw_region (sr rfl rfl rfl ((q_assign rfl rfl)) (sw_nil (post_then (cw_seq (cw_seq (cw_region (sr rfl rfl rfl ((q_move rfl rfl)) (sr rfl rfl rfl ((q_neq rfl rfl rfl)) (sw_nil (post_then ?_))))))))))
      refine cw_cond rfl (fun h4 => ?_) (fun h4 => ?_)
      · skip
        refine cw_seq (cw_region (sr rfl rfl rfl ((q_move rfl rfl)) (sr rfl rfl rfl ((q_move rfl rfl)) (sr rfl rfl rfl ((q_eql rfl rfl rfl)) (sr rfl rfl rfl ((q_move rfl rfl)) (sr rfl rfl rfl ((q_move rfl rfl)) ?_))))))
        first | refine sr rfl rfl rfl ((q_len rfl (.cons rfl inferInstance (.nil)) (by first | exact fun w hw => Stb.cl (by assumption) hw | exact fun w hw => rd_own hw (by first | assumption | (repeat first | exact .head _ | apply List.Mem.tail)) | assumption))) ?_ | refine sr rfl rfl rfl ((q_lenV rfl (.cons rfl inferInstance (.nil)))) ?_
        refine sr rfl rfl rfl ((q_eql rfl rfl rfl)) (sr rfl rfl rfl ((q_and2 rfl rfl rfl)) (sr rfl rfl rfl ((q_move rfl rfl)) (sr rfl rfl rfl ((q_move rfl rfl)) (sr rfl rfl rfl ((q_eql rfl rfl rfl)) (sr rfl rfl rfl ((q_and2 rfl rfl rfl)) (sr rfl rfl rfl ((q_move rfl rfl)) (sw_step rfl rfl rfl (q_call (CanCall.mk Tryz.call18) rfl (.nil) (fun _ w hw => callq hw (known_spec w))) (sr rfl rfl rfl ((q_and2 rfl rfl rfl)) (sr rfl rfl rfl ((q_assign rfl rfl)) (sw_nil (post_then (cw_ret (post_then_r (post_ret1 rfl (resOk_tmp rfl) ?_))))))))))))))
        exact fun w' hw => ⟨by simp, hw⟩
      · skip
        simp at h4
    · skip
      simp at h3; omega
theorem lawPrices_none (n : Nat) (hn : -9223372036854775808 ≤ (n : Int)) (sv : SlV) (vs : List SlV) (ls : List (List Int)) (w : World) (hm : Stb w [] (fun w' => Mt w' sv.v vs ls)) (hE : covE n ls 1000 = 0) (h12 : wid (msOf ls) ≤ 12) (hP : possN n (msOf ls) = false) :
    Calls Tryz.prog 7 #[.int .i64 n, sv.v] w fun e w' => e = .returned (.bool true) ∧ Cl w [] [] w' := by
  refine calls_cw (vs := [_, _]) Tryz.func7 rfl Tryz.ntmps7 rfl (Cl.start0 w) (cw_seq (cw_region (sr rfl rfl rfl ((q_assign rfl rfl)) (sw_nil (post_then (cw_seq (cw_seq (cw_region (sr rfl rfl rfl ((q_move rfl rfl)) (sr rfl rfl rfl ((q_move rfl rfl)) (sw_step rfl rfl rfl (q_call (CanCall.mk Tryz.call33) rfl (.cons rfl inferInstance (.cons rfl inferInstance (.cons rfl inferInstance (.nil)))) (fun _ w hw => callq hw (sets_spec n sv vs ls 8 w (stb_arg hw hm)))) (sr rfl rfl rfl ((q_not rfl rfl)) (sw_nil (post_then ?_))))))))))))))
  refine cw_cond rfl (fun h => ?_) (fun h => ?_)
  · skip
    refine cw_seq (cw_region (sw_step rfl rfl rfl (q_call (CanCall.mk Tryz.call18) rfl (.nil) (fun _ w hw => callq hw (known_spec w))) (sr rfl rfl rfl ((q_assign rfl rfl)) (sw_nil (post_then (cw_ret (post_then_r (post_ret1 rfl (resOk_tmp rfl) ?_))))))))
    exact fun w' hw => ⟨rfl, hw⟩
  · skip
    have hso : setsOk n ls 8 = true := by
      cases h2 : setsOk n ls 8
      · rw [h2] at h; simp at h
      · rfl
    obtain ⟨k1, k2⟩ := setsOk_of hso
    obtain ⟨q1, q2, q3, q4⟩ := covE_ok hE
    have hg : greedyE n ls = 5 := by rw [greedyE_ok hE, hP]; rfl
    refine cw_skip (post_then (cw_seq (cw_region (sr rfl rfl rfl ((q_move rfl rfl)) (sr rfl rfl rfl ((q_move rfl rfl)) ?_)))))
    refine sw_step rfl rfl rfl (q_call (CanCall.mk Tryz.call34) rfl (.cons rfl inferInstance (.cons rfl inferInstance (.nil))) (fun _ w hw => callq (v := .tuple #[SlV.v ⟨none, 0, 0⟩, .int .i64 0, .int .i64 5]) hw (price_none n (by omega) sv vs ls w (stb_arg hw hm) hE h12 hP))) ?_
    refine sr rfl rfl rfl ((q_move rfl rfl)) ?_
    first | refine sr rfl rfl rfl ((q_extract rfl rfl rfl)) ?_ | refine sr rfl rfl rfl ((q_extract rfl rfl (nextV_0 _))) ?_
    first | refine sr rfl rfl rfl ((q_extract rfl rfl rfl)) ?_ | refine sr rfl rfl rfl ((q_extract rfl rfl (nextV_0 _))) ?_
    first | refine sr rfl rfl rfl ((q_extract rfl rfl rfl)) ?_ | refine sr rfl rfl rfl ((q_extract rfl rfl (nextV_0 _))) ?_
    refine sr rfl rfl rfl ((q_assign rfl rfl)) (sr rfl rfl rfl ((q_assign rfl rfl)) (sr rfl rfl rfl ((q_assign rfl rfl)) (sw_nil (post_then (cw_seq (cw_region (sr rfl rfl rfl ((q_move rfl rfl)) (sr rfl rfl rfl ((q_move rfl rfl)) ?_))))))))
    refine sw_step rfl rfl rfl (q_call (CanCall.mk Tryz.call35) rfl (.cons rfl inferInstance (.cons rfl inferInstance (.nil))) (fun _ w hw => callq hw (needed_spec n k2 sv vs ls (by omega) w (stb_arg hw hm)))) ?_
    refine sr rfl rfl rfl ((q_assign rfl rfl)) (sw_nil (post_then (cw_seq (cw_seq (cw_region (sr rfl rfl rfl ((q_move rfl rfl)) (sr rfl rfl rfl ((q_eql rfl rfl rfl)) (sr rfl rfl rfl ((q_move rfl rfl)) (sr rfl rfl rfl ((q_move rfl rfl)) (sr rfl rfl rfl ((q_eql rfl rfl rfl)) (sr rfl rfl rfl ((q_or2 rfl rfl rfl)) (sr rfl rfl rfl ((q_move rfl rfl)) (sr rfl rfl rfl ((q_move rfl rfl)) (sr rfl rfl rfl ((q_move rfl rfl)) ?_))))))))))))))
    refine sw_step rfl rfl rfl (q_call (CanCall.mk Tryz.call36) rfl (.cons rfl inferInstance (.cons rfl inferInstance (.nil))) (fun _ w hw => callq hw (widest_spec n (by omega) sv vs ls q4 w (stb_arg hw hm)))) ?_
    refine sr rfl rfl rfl ((q_gtr rfl rfl rfl)) (sr rfl rfl rfl ((q_and2 rfl rfl rfl)) (sw_nil (post_then ?_)))
    rw [hg]
    refine cw_cond rfl (fun h3 => ?_) (fun h3 => ?_)
    · skip
      simp at h3; omega
    · skip
      refine cw_skip (post_then (cw_seq (cw_seq (cw_region (sr rfl rfl rfl ((q_move rfl rfl)) (sr rfl rfl rfl ((q_neq rfl rfl rfl)) (sw_nil (post_then ?_))))))))
      refine cw_cond rfl (fun h4 => ?_) (fun h4 => ?_)
      · skip
        refine cw_seq (cw_region (sr rfl rfl rfl ((q_move rfl rfl)) (sr rfl rfl rfl ((q_move rfl rfl)) (sr rfl rfl rfl ((q_eql rfl rfl rfl)) (sr rfl rfl rfl ((q_move rfl rfl)) (sr rfl rfl rfl ((q_move rfl rfl)) ?_))))))
        first | refine sr rfl rfl rfl ((q_len rfl (.cons rfl inferInstance (.nil)) (by first | exact fun w hw => Stb.cl (by assumption) hw | exact fun w hw => rd_own hw (by first | assumption | (repeat first | exact .head _ | apply List.Mem.tail)) | assumption))) ?_ | refine sr rfl rfl rfl ((q_lenV rfl (.cons rfl inferInstance (.nil)))) ?_
        refine sr rfl rfl rfl ((q_eql rfl rfl rfl)) (sr rfl rfl rfl ((q_and2 rfl rfl rfl)) (sr rfl rfl rfl ((q_move rfl rfl)) (sr rfl rfl rfl ((q_move rfl rfl)) (sr rfl rfl rfl ((q_eql rfl rfl rfl)) (sr rfl rfl rfl ((q_and2 rfl rfl rfl)) (sr rfl rfl rfl ((q_move rfl rfl)) (sw_step rfl rfl rfl (q_call (CanCall.mk Tryz.call18) rfl (.nil) (fun _ w hw => callq hw (known_spec w))) (sr rfl rfl rfl ((q_and2 rfl rfl rfl)) (sr rfl rfl rfl ((q_assign rfl rfl)) (sw_nil (post_then (cw_ret (post_then_r (post_ret1 rfl (resOk_tmp rfl) ?_))))))))))))))
        exact fun w' hw => ⟨by simp, hw⟩
      · skip
        simp at h4
theorem lawPrices_yes (n : Nat) (hn : -9223372036854775808 ≤ (n : Int)) (sv : SlV) (vs : List SlV) (ls : List (List Int)) (w : World) (hm : Stb w [] (fun w' => Mt w' sv.v vs ls)) (hE : covE n ls 1000 = 0) (h12 : wid (msOf ls) ≤ 12) (hP : possN n (msOf ls) = true) :
    Calls Tryz.prog 7 #[.int .i64 n, sv.v] w fun e w' => e = .returned (.bool true) ∧ Cl w [] [] w' := by
  refine calls_cw (vs := [_, _]) Tryz.func7 rfl Tryz.ntmps7 rfl (Cl.start0 w) (cw_seq (cw_region (sr rfl rfl rfl ((q_assign rfl rfl)) (sw_nil (post_then (cw_seq (cw_seq (cw_region (sr rfl rfl rfl ((q_move rfl rfl)) (sr rfl rfl rfl ((q_move rfl rfl)) (sw_step rfl rfl rfl (q_call (CanCall.mk Tryz.call33) rfl (.cons rfl inferInstance (.cons rfl inferInstance (.cons rfl inferInstance (.nil)))) (fun _ w hw => callq hw (sets_spec n sv vs ls 8 w (stb_arg hw hm)))) (sr rfl rfl rfl ((q_not rfl rfl)) (sw_nil (post_then ?_))))))))))))))
  refine cw_cond rfl (fun h => ?_) (fun h => ?_)
  · skip
    refine cw_seq (cw_region (sw_step rfl rfl rfl (q_call (CanCall.mk Tryz.call18) rfl (.nil) (fun _ w hw => callq hw (known_spec w))) (sr rfl rfl rfl ((q_assign rfl rfl)) (sw_nil (post_then (cw_ret (post_then_r (post_ret1 rfl (resOk_tmp rfl) ?_))))))))
    exact fun w' hw => ⟨rfl, hw⟩
  · skip
    have hso : setsOk n ls 8 = true := by
      cases h2 : setsOk n ls 8
      · rw [h2] at h; simp at h
      · rfl
    obtain ⟨k1, k2⟩ := setsOk_of hso
    obtain ⟨q1, q2, q3, q4⟩ := covE_ok hE
    have hg : greedyE n ls = 0 := by rw [greedyE_ok hE, hP]; rfl
    refine cw_skip (post_then (cw_seq (cw_region (sr rfl rfl rfl ((q_move rfl rfl)) (sr rfl rfl rfl ((q_move rfl rfl)) ?_)))))
    refine sw_x rfl rfl rfl (e_call (CanCall.mk Tryz.call34) rfl (.cons rfl inferInstance (.cons rfl inferInstance (.nil))) (fun w hw => price_yes n (by omega) sv vs ls w (stb_arg hw hm) hE (by omega) h12 hP)) (fun z => ?_)
    refine sw_imp fun hz => ?_
    obtain ⟨sp, ⟨lp, ⟨kp, lq⟩⟩⟩ := z
    dsimp only at hz ⊢
    obtain ⟨hz1, hz2⟩ := hz
    refine sr rfl rfl rfl ((q_move rfl rfl)) ?_
    first | refine sr rfl rfl rfl ((q_extract rfl rfl rfl)) ?_ | refine sr rfl rfl rfl ((q_extract rfl rfl (nextV_0 _))) ?_
    first | refine sr rfl rfl rfl ((q_extract rfl rfl rfl)) ?_ | refine sr rfl rfl rfl ((q_extract rfl rfl (nextV_0 _))) ?_
    first | refine sr rfl rfl rfl ((q_extract rfl rfl rfl)) ?_ | refine sr rfl rfl rfl ((q_extract rfl rfl (nextV_0 _))) ?_
    refine sr rfl rfl rfl ((q_assign rfl rfl)) (sr rfl rfl rfl ((q_assign rfl rfl)) (sr rfl rfl rfl ((q_assign rfl rfl)) (sw_nil (post_then (cw_seq (cw_region (sr rfl rfl rfl ((q_move rfl rfl)) (sr rfl rfl rfl ((q_move rfl rfl)) ?_))))))))
    refine sw_step rfl rfl rfl (q_call (CanCall.mk Tryz.call35) rfl (.cons rfl inferInstance (.cons rfl inferInstance (.nil))) (fun _ w hw => callq hw (needed_spec n k2 sv vs ls (by omega) w (stb_arg hw hm)))) ?_
    refine sr rfl rfl rfl ((q_assign rfl rfl)) (sw_nil (post_then (cw_seq (cw_seq (cw_region (sr rfl rfl rfl ((q_move rfl rfl)) (sr rfl rfl rfl ((q_eql rfl rfl rfl)) (sr rfl rfl rfl ((q_move rfl rfl)) (sr rfl rfl rfl ((q_move rfl rfl)) (sr rfl rfl rfl ((q_eql rfl rfl rfl)) (sr rfl rfl rfl ((q_or2 rfl rfl rfl)) (sr rfl rfl rfl ((q_move rfl rfl)) (sr rfl rfl rfl ((q_move rfl rfl)) (sr rfl rfl rfl ((q_move rfl rfl)) ?_))))))))))))))
    refine sw_step rfl rfl rfl (q_call (CanCall.mk Tryz.call36) rfl (.cons rfl inferInstance (.cons rfl inferInstance (.nil))) (fun _ w hw => callq hw (widest_spec n (by omega) sv vs ls q4 w (stb_arg hw hm)))) ?_
    refine sr rfl rfl rfl ((q_gtr rfl rfl rfl)) (sr rfl rfl rfl ((q_and2 rfl rfl rfl)) (sw_nil (post_then ?_)))
    rw [hg]
    refine cw_cond rfl (fun h3 => ?_) (fun h3 => ?_)
    · skip
      simp at h3; omega
    · skip
      refine cw_skip (post_then (cw_seq (cw_seq (cw_region (sr rfl rfl rfl ((q_move rfl rfl)) (sr rfl rfl rfl ((q_neq rfl rfl rfl)) (sw_nil (post_then ?_))))))))
      refine cw_cond rfl (fun h4 => ?_) (fun h4 => ?_)
      · skip
        simp at h4
      · skip
        refine cw_skip (post_then (cw_seq (cw_region (sr rfl rfl rfl ((q_move rfl rfl)) (sr rfl rfl rfl ((q_move rfl rfl)) ?_)))))
        refine sw_x rfl rfl rfl (e_call (CanCall.mk Tryz.call37) rfl (.cons rfl inferInstance (.cons rfl inferInstance (.nil))) (fun w hw => refGreedy_yes n (by omega) sv vs ls (by omega) q4 w (stb_arg hw hm) hP)) (fun z => ?_)
        refine sw_imp fun hz => ?_
        obtain ⟨⟨so, sre⟩, kr⟩ := z
        dsimp only at hz ⊢
        obtain rfl := done_one hz2.ok hz2.full hz.ok hz.full
        refine sr rfl rfl rfl ((q_move rfl rfl)) ?_
        first | refine sr rfl rfl rfl ((q_extract rfl rfl rfl)) ?_ | refine sr rfl rfl rfl ((q_extract rfl rfl (nextV_0 _))) ?_
        first | refine sr rfl rfl rfl ((q_extract rfl rfl rfl)) ?_ | refine sr rfl rfl rfl ((q_extract rfl rfl (nextV_0 _))) ?_
        first | refine sr rfl rfl rfl ((q_extract rfl rfl rfl)) ?_ | refine sr rfl rfl rfl ((q_extract rfl rfl (nextV_0 _))) ?_
        refine sr rfl rfl rfl ((q_assign rfl rfl)) (sr rfl rfl rfl ((q_assign rfl rfl)) (sr rfl rfl rfl ((q_assign rfl rfl)) (sw_nil (post_then (cw_seq (cw_region (sr rfl rfl rfl ((q_move rfl rfl)) (sr rfl rfl rfl ((q_eql rfl rfl rfl)) (sr rfl rfl rfl ((q_move rfl rfl)) (sr rfl rfl rfl ((q_move rfl rfl)) (sr rfl rfl rfl ((q_move rfl rfl)) ?_)))))))))))
        refine sw_step rfl rfl rfl (q_call (CanCall.mk Tryz.call23) rfl (.cons rfl inferInstance (.cons rfl inferInstance (.nil))) (fun _ w hw => callq hw (same_true _ _ lp (priceL (giter n (msOf ls) kp).sh) hz1 w (stb_own (e := 3) hw (by first | assumption | (repeat first | exact .head _ | apply List.Mem.tail))) (stb_own (e := 3) hw (by first | assumption | (repeat first | exact .head _ | apply List.Mem.tail)))))) ?_
        refine sr rfl rfl rfl ((q_and2 rfl rfl rfl)) (sr rfl rfl rfl ((q_move rfl rfl)) (sr rfl rfl rfl ((q_move rfl rfl)) (sr rfl rfl rfl ((q_move rfl rfl)) (sr rfl rfl rfl ((q_move rfl rfl)) ?_))))
        refine sw_step rfl rfl rfl (q_call (CanCall.mk Tryz.call36) rfl (.cons rfl inferInstance (.cons rfl inferInstance (.nil))) (fun _ w hw => callq hw (widest_spec n (by omega) sv vs ls q4 w (stb_arg hw hm)))) ?_
        refine sw_step rfl rfl rfl (q_call (CanCall.mk Tryz.call38) rfl (.cons rfl inferInstance (.nil)) (fun _ w hw => callq hw (scale_spec (wid (msOf ls)) (by omega) w))) ?_
        refine sr rfl rfl rfl ((q_eql rfl rfl rfl)) (sr rfl rfl rfl ((q_and2 rfl rfl rfl)) (sr rfl rfl rfl ((q_move rfl rfl)) (sw_step rfl rfl rfl (q_call (CanCall.mk Tryz.call18) rfl (.nil) (fun _ w hw => callq hw (known_spec w))) (sr rfl rfl rfl ((q_and2 rfl rfl rfl)) (sr rfl rfl rfl ((q_assign rfl rfl)) (sw_nil (post_then (cw_ret (post_ret1 rfl (resOk_tmp rfl) ?_)))))))))
        exact fun w' hw => ⟨by simp, (fun w h => Cl.sel (by (repeat first | exact Sel.nil _ | refine Sel.take 0 rfl ?_ | refine Sel.take 1 rfl ?_ | refine Sel.take 2 rfl ?_ | refine Sel.take 3 rfl ?_ | refine Sel.take 4 rfl ?_ | refine Sel.take 5 rfl ?_ | refine Sel.take 6 rfl ?_ | refine Sel.take 7 rfl ?_ | refine Sel.take 8 rfl ?_ | refine Sel.take 9 rfl ?_ | refine Sel.take 10 rfl ?_ | refine Sel.take 11 rfl ?_)) w h) _ hw⟩
theorem lawPrices (n : Int) (hn : -9223372036854775808 ≤ n) (sv : SlV) (vs : List SlV) (ls : List (List Int)) (w : World) (hm : Stb w [] (fun w' => Mt w' sv.v vs ls)) :
    Calls Tryz.prog 7 #[.int .i64 n, sv.v] w fun e w' => e = .returned (.bool true) ∧ Cl w [] [] w' := by
  by_cases hE : covE n ls 1000 = 0
  · obtain ⟨m, rfl⟩ : ∃ m : Nat, n = m := ⟨n.toNat, by have := (covE_ok hE).2.2.1; omega⟩
    by_cases h12 : 12 < wid (msOf ls)
    · exact lawPrices_wide m hn sv vs ls w hm hE h12
    · cases hP : possN m (msOf ls)
      · exact lawPrices_none m hn sv vs ls w hm hE (by omega) hP
      · exact lawPrices_yes m hn sv vs ls w hm hE (by omega) hP
  · exact lawPrices_bad n hn sv vs ls w hm hE
end Go.Proofs.YtomjbfeafodfbaaGreat

/- Prices prove bounds on covers; the greedy cover's prices. Plain lemmas, no program text. -/
set_option autoImplicit false
namespace Go.Sx
theorem psum_full (l : List Int) (n : Nat) : ∀ k, k ≤ n → psum l (fullN n) k = sumTo l k
  | 0, _ => rfl
  | k + 1, h => by rw [psum, sumTo, psum_full l n k (by omega), fullN_bit, if_pos (by simp; omega)]
theorem psum_or {l : List Int} (h : ∀ k, 0 ≤ nth l k) (a b : Nat) : ∀ k, psum l (a ||| b) k ≤ psum l a k + psum l b k
  | 0 => by simp [psum]
  | k + 1 => by
    have ih := psum_or h a b k
    have hk := h k
    simp only [psum, Nat.testBit_or, Bool.or_eq_true]
    by_cases h1 : a.testBit k = true <;> by_cases h2 : b.testBit k = true <;> simp only [h1, h2, if_true, or_true, true_or, or_self, if_false] <;> simp <;> omega
theorem psum_mono {l : List Int} (h : ∀ k, 0 ≤ nth l k) {a b : Nat} (hab : ∀ i, a.testBit i = true → b.testBit i = true) : ∀ k, psum l a k ≤ psum l b k
  | 0 => by simp [psum]
  | k + 1 => by
    have ih := psum_mono h hab k
    have hk := h k
    have hb := hab k
    simp only [psum]
    by_cases h1 : a.testBit k = true
    · rw [if_pos h1, if_pos (hb h1)]; omega
    · rw [if_neg h1]; split <;> omega
/-- All the numbers of some sets. -/
def unL (ms : List Nat) : List Int → Nat
  | [] => 0
  | i :: c => nth ms i.toNat ||| unL ms c
theorem unL_bit (ms : List Nat) (x : Nat) : ∀ c : List Int, (unL ms c).testBit x = true ↔ ∃ i ∈ c, (nth ms i.toNat).testBit x = true
  | [] => by simp [unL]
  | i :: c => by rw [unL, Nat.testBit_or, Bool.or_eq_true, unL_bit ms x c]; simp
def Cvr (n : Nat) (ms : List Nat) (c : List Int) : Prop := ∀ x, x < n → (unL ms c).testBit x = true
/-- Each set costs at most the scale: so no cover has few sets. -/
theorem cover_bound {n : Nat} {ms : List Nat} {l : List Int} {s : Int} (h0 : ∀ k, 0 ≤ nth l k) (hs0 : 0 ≤ s) (hs : ∀ i, i < ms.length → psum l (nth ms i) n ≤ s) {c : List Int} (hc : Cvr n ms c) : sumTo l n ≤ s * c.length := by
  have key : ∀ c : List Int, psum l (unL ms c) n ≤ s * c.length := by
    intro c
    induction c with
    | nil =>
      have : ∀ q, psum l 0 q = 0 := by
        intro q
        induction q with
        | zero => rfl
        | succ q ih => simp [psum, ih]
      simp [unL, this]
    | cons i c ih =>
      have h1 := psum_or h0 (nth ms i.toNat) (unL ms c) n
      have h2 : psum l (nth ms i.toNat) n ≤ s := by
        by_cases hi : i.toNat < ms.length
        · exact hs _ hi
        · have e : nth ms i.toNat = 0 := by simp only [nth, List.getD, List.getElem?_eq_none (show ms.length ≤ i.toNat by omega)]; rfl
          have : ∀ q, psum l 0 q = 0 := by
            intro q
            induction q with
            | zero => rfl
            | succ q ih => simp [psum, ih]
          rw [e, this]; exact hs0
      have e : s * ((i :: c).length : Int) = s + s * c.length := by rw [List.length_cons, Int.natCast_add, Int.mul_add]; simp; omega
      rw [unL, e]; omega
  rw [← psum_full l n n (Nat.le_refl _)]
  refine Int.le_trans (psum_mono h0 (fun i hi => ?_) n) (key c)
  rw [fullN_bit, decide_eq_true_eq] at hi
  exact hc i hi
theorem ceil_le {a s : Int} {k : Nat} (hs : 1 ≤ s) (h : a ≤ s * k) : (a + s - 1) / s ≤ k := by
  have : (a + s - 1) / s < (k : Int) + 1 := by
    apply Int.ediv_lt_of_lt_mul (by omega)
    rw [Int.add_mul, Int.one_mul, Int.mul_comm (k : Int) s]
    omega
  omega
def prcL (sh : List Int) : List Int := sh.map fun k => 27720 / k
theorem prcL_nth {sh : List Int} {j : Nat} (h : j < sh.length) : nth (prcL sh) j = 27720 / nth sh j := by
  rw [nth_get (by simpa [prcL] using h), nth_get h]; simp [prcL]
theorem psum_step {n : Nat} {g mi m : Nat} {most : Int} {sh : List Int} (hl : sh.length = n) (h0 : ∀ x, x < n → g.testBit x = false → nth sh x = 0) : ∀ k, k ≤ n →
    psum (prcL (shUp n g mi most sh n)) m k = psum (prcL sh) m k + (27720 / most) * sumB (fun x => m.testBit x && (mi.testBit x && !g.testBit x)) k
  | 0, _ => by simp [psum, sumB]
  | k + 1, hk => by
    have ih := psum_step hl h0 (mi := mi) (m := m) (most := most) k (by omega)
    have hl2 := shUp_len n g mi most sh n
    have e1 := prcL_nth (sh := shUp n g mi most sh n) (j := k) (by omega)
    have e2 := prcL_nth (sh := sh) (j := k) (by omega)
    have e3 := shUp_nth n g mi most sh (by omega) n (Nat.le_refl _) k
    rw [psum, psum, sumB, ih, e1, e2, e3]
    have hk' : k < n := by omega
    simp only [hk', true_and]
    by_cases hm : m.testBit k = true
    · rw [if_pos hm, if_pos hm]
      by_cases h1 : mi.testBit k = true ∧ g.testBit k = false
      · rw [if_pos h1, h0 k hk' h1.2]
        simp only [hm, h1.1, h1.2, Bool.not_false, Bool.and_self, Bool.toNat_true]
        rw [Int.natCast_add, Int.mul_add]; simp; omega
      · rw [if_neg h1]
        have : (m.testBit k && (mi.testBit k && !g.testBit k)) = false := by
          cases a : mi.testBit k <;> cases b : g.testBit k <;> simp_all
        rw [this]; simp
        omega
    · rw [if_neg hm, if_neg hm]
      have : m.testBit k = false := by simpa using hm
      rw [this]; simp
theorem giter_zero {n : Nat} {ms : List Nat} : ∀ {k : Nat}, GOk n ms k → ∀ x, x < n → (giter n ms k).g.testBit x = false → nth (giter n ms k).sh x = 0
  | 0, _, x, hx, _ => by simp only [giter]; rw [nth_get (by simpa using hx)]; simp
  | k + 1, hk, x, hx, h => by
    obtain ⟨_, i, h2, h3, h4⟩ := hk k (by omega)
    have h5 := giter_sh n ms k
    simp only [giter, gstep, h3, Int.toNat_natCast] at h ⊢
    rw [Nat.testBit_or, Bool.or_eq_false_iff] at h
    rw [shUp_nth _ _ _ _ _ (by omega) n (Nat.le_refl _), if_neg (by simp [h.2])]
    exact giter_zero (fun j hj => hk j (by omega)) x hx h.1
theorem sumB_less {f : Nat → Bool} {n : Nat} (h : ∀ i, f i = true → i < n) : ∀ {k : Nat}, n ≤ k → sumB f k = sumB f n := by
  intro k hk
  induction k with
  | zero => have : n = 0 := by omega
            rw [this]
  | succ k ih =>
    by_cases e : n = k + 1
    · rw [e]
    · have : f k = false := by
        cases hf : f k
        · rfl
        · have := h k hf; omega
      rw [sumB, this, ih (by omega)]; simp
theorem fr_split {g mi m : Nat} : fr g m = fr (g ||| mi) m + sumB (fun x => m.testBit x && (mi.testBit x && !g.testBit x)) 32 := by
  rw [fr_sum, fr_sum]
  refine sumB_add fun i _ => ?_
  rw [Nat.testBit_or]
  cases m.testBit i <;> cases mi.testBit i <;> cases g.testBit i <;> rfl
theorem div_le {a b : Nat} (h0 : 0 < a) (h : a ≤ b) : (27720 : Int) / (b : Int) ≤ 27720 / (a : Int) := by
  have h1 : 27720 / b ≤ 27720 / a := Nat.div_le_div_left h h0
  have e1 : ((27720 / b : Nat) : Int) = (27720 : Int) / (b : Int) := Int.natCast_ediv 27720 b
  have e2 : ((27720 / a : Nat) : Int) = (27720 : Int) / (a : Int) := Int.natCast_ediv 27720 a
  rw [← e1, ← e2]
  exact Int.ofNat_le.2 h1
theorem scale_gap {r most : Nat} (hr : r ≤ most) : ∀ c, c ≤ r → (27720 / (most : Int)) * c ≤ scaleTo r - scaleTo (r - c)
  | 0, _ => by simp
  | c + 1, hc => by
    have ih := scale_gap hr c (by omega)
    obtain ⟨q, hq⟩ : ∃ q, r - (c + 1) = q := ⟨_, rfl⟩
    have e : r - c = q + 1 := by omega
    rw [e, scaleTo] at ih
    rw [hq]
    have h1 := div_le (a := q + 1) (b := most) (by omega) (by omega)
    rw [Int.natCast_add] at h1
    rw [Int.natCast_add, Int.mul_add]
    simp only [Int.natCast_one, Int.mul_one] at *
    have e1 : ((1 : Nat) : Int) = 1 := rfl
    omega
theorem scaleTo_mono {a b : Nat} (h : a ≤ b) : scaleTo a ≤ scaleTo b := by
  induction b with
  | zero => have : a = 0 := by omega
            rw [this]; exact Int.le_refl _
  | succ b ih =>
    by_cases e : a = b + 1
    · rw [e]; exact Int.le_refl _
    · have h1 : (0 : Int) ≤ 27720 / ((b : Int) + 1) := Int.ediv_nonneg (by decide) (by omega)
      have := ih (by omega)
      simp only [scaleTo]; omega
theorem fr_best {ms : List Nat} {g i : Nat} (hb : best ms g = ((i : Int), fr g (nth ms i))) {j : Nat} (hj : j < ms.length) : fr g (nth ms j) ≤ fr g (nth ms i) := by
  rcases bestTo_spec ms g ms.length with ⟨h1, h2⟩ | ⟨i', h1, h2, h3, h4⟩
  · rw [h2 j hj]; exact Nat.zero_le _
  · have h5 : best ms g = ((i' : Int), fr g (nth ms i')) := h2
    rw [hb] at h5
    simp only [Prod.mk.injEq] at h5
    rw [h5.2]; exact h4 j hj
/-- What is paid in a set, and may yet be paid. -/
theorem paid {n : Nat} {ms : List Nat} (hn : n ≤ 32) (hm : MsOk n ms) {j : Nat} (hj : j < ms.length) : ∀ {k : Nat}, GOk n ms k → psum (prcL (giter n ms k).sh) (nth ms j) n + scaleTo (fr (giter n ms k).g (nth ms j)) ≤ scaleTo (fr 0 (nth ms j))
  | 0, _ => by
    have : ∀ q, q ≤ n → psum (prcL (List.replicate n (0 : Int))) (nth ms j) q = 0 := by
      intro q
      induction q with
      | zero => intro _; rfl
      | succ q ih =>
        intro hq
        rw [psum, ih (by omega), prcL_nth (by rw [List.length_replicate]; omega), nth_get (show q < (List.replicate n (0 : Int)).length by rw [List.length_replicate]; omega)]
        simp
    simp only [giter]
    rw [this n (Nat.le_refl _)]; omega
  | k + 1, hk => by
    have ih := paid hn hm hj (k := k) (fun j hj => hk j (by omega))
    obtain ⟨_, i, h2, h3, h4⟩ := hk k (by omega)
    have hz := giter_zero (k := k) (fun j hj => hk j (by omega))
    have hl := giter_sh n ms k
    have hs := psum_step (n := n) (g := (giter n ms k).g) (mi := nth ms i) (m := nth ms j) (most := fr (giter n ms k).g (nth ms i)) hl hz n (Nat.le_refl _)
    have hf := fr_split (g := (giter n ms k).g) (mi := nth ms i) (m := nth ms j)
    have hb := fr_best h3 hj
    have hc : sumB (fun x => (nth ms j).testBit x && ((nth ms i).testBit x && !(giter n ms k).g.testBit x)) 32 = sumB (fun x => (nth ms j).testBit x && ((nth ms i).testBit x && !(giter n ms k).g.testBit x)) n := by
      refine sumB_less (fun x hx => ?_) hn
      exact msOk_nth hm j x (by simp only [Bool.and_eq_true] at hx; exact hx.1)
    rw [hc] at hf
    have hg := scale_gap (r := fr (giter n ms k).g (nth ms j)) (most := fr (giter n ms k).g (nth ms i)) hb (sumB (fun x => (nth ms j).testBit x && ((nth ms i).testBit x && !(giter n ms k).g.testBit x)) n) (by omega)
    have he : fr (giter n ms k).g (nth ms j) - sumB (fun x => (nth ms j).testBit x && ((nth ms i).testBit x && !(giter n ms k).g.testBit x)) n = fr ((giter n ms k).g ||| nth ms i) (nth ms j) := by omega
    rw [he] at hg
    simp only [giter, gstep, h3, Int.toNat_natCast]
    rw [hs]
    omega
theorem wid_le {ms : List Nat} {j : Nat} (hj : j < ms.length) : fr 0 (nth ms j) ≤ wid ms := by
  have key : ∀ k, j < k → fr 0 (nth ms j) ≤ widTo ms k := by
    intro k
    induction k with
    | zero => intro h; omega
    | succ k ih =>
      intro h
      rw [widTo]
      by_cases e : j = k
      · subst e; omega
      · have := ih (by omega); omega
  exact key _ hj
theorem price_nonneg {sh : List Int} (h : ∀ k, 0 ≤ nth sh k) (k : Nat) : 0 ≤ nth (prcL sh) k ∧ nth (prcL sh) k ≤ 27720 := by
  by_cases hk : k < sh.length
  · rw [prcL_nth hk]
    exact ⟨Int.ediv_nonneg (by decide) (h k), Int.ediv_le_self _ (by decide)⟩
  · have : nth (prcL sh) k = 0 := by simp only [nth, List.getD]; rw [List.getElem?_eq_none (by simp [prcL]; omega)]; rfl
    rw [this]; omega
theorem giter_nonneg {n : Nat} {ms : List Nat} {k : Nat} (hk : GOk n ms k) (x : Nat) : 0 ≤ nth (giter n ms k).sh x := by
  by_cases hx : x < n
  · by_cases hb : (giter n ms k).g.testBit x = true
    · have := (giter_share hk x hx hb).1; omega
    · rw [giter_zero hk x hx (by simpa using hb)]; exact Int.le_refl _
  · have : nth (giter n ms k).sh x = 0 := by simp only [nth, List.getD]; rw [List.getElem?_eq_none (by rw [giter_sh]; omega)]; rfl
    rw [this]; exact Int.le_refl _
/-- The prices of the greedy cover never exceed the scale in a set. -/
theorem greedy_proves {n : Nat} {ms : List Nat} (hn : n ≤ 32) (hm : MsOk n ms) {k : Nat} (hk : GOk n ms k) {j : Nat} (hj : j < ms.length) : psum (prcL (giter n ms k).sh) (nth ms j) n ≤ scaleTo (wid ms) := by
  have h1 := paid hn hm hj hk
  have h2 := scaleTo_bd (fr (giter n ms k).g (nth ms j))
  have h3 := scaleTo_mono (wid_le hj)
  omega
theorem twelve {k : Nat} (h1 : 1 ≤ k) (h2 : k ≤ 12) : (27720 / (k : Int)) * k = 27720 := by
  have : k = 1 ∨ k = 2 ∨ k = 3 ∨ k = 4 ∨ k = 5 ∨ k = 6 ∨ k = 7 ∨ k = 8 ∨ k = 9 ∨ k = 10 ∨ k = 11 ∨ k = 12 := by omega
  rcases this with rfl | rfl | rfl | rfl | rfl | rfl | rfl | rfl | rfl | rfl | rfl | rfl <;> decide
/-- All that is paid. -/
theorem greedy_sum {n : Nat} {ms : List Nat} (hn : n ≤ 32) (hm : MsOk n ms) (hw : wid ms ≤ 12) : ∀ {k : Nat}, GOk n ms k → sumTo (prcL (giter n ms k).sh) n = 27720 * (k : Int)
  | 0, _ => by
    have : ∀ q, q ≤ n → sumTo (prcL (List.replicate n (0 : Int))) q = 0 := by
      intro q
      induction q with
      | zero => intro _; rfl
      | succ q ih =>
        intro hq
        rw [sumTo, ih (by omega), prcL_nth (by rw [List.length_replicate]; omega), nth_get (show q < (List.replicate n (0 : Int)).length by rw [List.length_replicate]; omega)]
        simp
    simp only [giter]
    rw [this n (Nat.le_refl _)]; rfl
  | k + 1, hk => by
    have ih := greedy_sum hn hm hw (k := k) (fun j hj => hk j (by omega))
    obtain ⟨_, i, h2, h3, h4⟩ := hk k (by omega)
    have hz := giter_zero (k := k) (fun j hj => hk j (by omega))
    have hl := giter_sh n ms k
    have hs := psum_step (n := n) (g := (giter n ms k).g) (mi := nth ms i) (m := fullN n) (most := fr (giter n ms k).g (nth ms i)) hl hz n (Nat.le_refl _)
    rw [psum_full _ n n (Nat.le_refl _), psum_full _ n n (Nat.le_refl _), ih] at hs
    have hc : sumB (fun x => (fullN n).testBit x && ((nth ms i).testBit x && !(giter n ms k).g.testBit x)) n = fr (giter n ms k).g (nth ms i) := by
      rw [fr_sum]
      have h5 : sumB (fun x => (nth ms i).testBit x && !(giter n ms k).g.testBit x) 32 = sumB (fun x => (nth ms i).testBit x && !(giter n ms k).g.testBit x) n := sumB_less (fun x hx => msOk_nth hm i x (by simp only [Bool.and_eq_true] at hx; exact hx.1)) hn
      rw [h5]
      refine sumB_congr fun x hx => ?_
      rw [fullN_bit]; simp [hx]
    rw [hc] at hs
    have h6 := wid_le h2
    have h7 : fr (giter n ms k).g (nth ms i) ≤ fr 0 (nth ms i) := by
      have := fr_mono (g := 0) (m := nth ms i) (m' := (giter n ms k).g)
      simpa using this
    rw [twelve (by omega) (by omega)] at hs
    simp only [giter, gstep, h3, Int.toNat_natCast]
    rw [hs, Int.natCast_add, Int.mul_add]; rfl
theorem greedy_covers {n : Nat} {ms : List Nat} : ∀ {k : Nat}, GOk n ms k → ∀ x, (giter n ms k).g.testBit x = true → (unL ms (giter n ms k).out).testBit x = true
  | 0, _, x, h => by simp [giter] at h
  | k + 1, hk, x, h => by
    obtain ⟨_, i, h2, h3, h4⟩ := hk k (by omega)
    simp only [giter, gstep, h3, Int.toNat_natCast, Nat.testBit_or, Bool.or_eq_true] at h ⊢
    rw [unL_bit]
    rcases h with h | h
    · obtain ⟨j, h5, h6⟩ := (unL_bit ms x _).1 (greedy_covers (fun j hj => hk j (by omega)) x h)
      exact ⟨j, by simp [h5], h6⟩
    · exact ⟨i, by simp, by simpa using h⟩
theorem giter_idx {n : Nat} {ms : List Nat} : ∀ {k : Nat}, GOk n ms k → ∀ i ∈ (giter n ms k).out, 0 ≤ i ∧ i < ms.length
  | 0, _, i, h => by simp [giter] at h
  | k + 1, hk, i, h => by
    obtain ⟨_, j, h2, h3, h4⟩ := hk k (by omega)
    simp only [giter, gstep, h3, List.mem_append, List.mem_singleton] at h
    rcases h with h | rfl
    · exact giter_idx (fun j hj => hk j (by omega)) i h
    · omega
theorem unL_perm {ms : List Nat} {c c' : List Int} (h : c.Perm c') (x : Nat) : (unL ms c).testBit x = (unL ms c').testBit x := by
  rw [Bool.eq_iff_iff, unL_bit, unL_bit]
  constructor
  · rintro ⟨i, h1, h2⟩; exact ⟨i, h.mem_iff.1 h1, h2⟩
  · rintro ⟨i, h1, h2⟩; exact ⟨i, h.mem_iff.2 h1, h2⟩
end Go.Sx

set_option autoImplicit false
set_option maxRecDepth 100000
namespace Go.Proofs.YtomjbfeafodfbaaGreat
open Go.Sx
open Enc (enc val)
theorem unL_snoc (ms : List Nat) (c : List Int) (i : Int) : unL ms (c ++ [i]) = unL ms c ||| nth ms i.toNat := by
  apply Nat.eq_of_testBit_eq
  intro x
  rw [Nat.testBit_or, Bool.eq_iff_iff, unL_bit, Bool.or_eq_true, unL_bit]
  constructor
  · rintro ⟨j, h1, h2⟩
    rcases List.mem_append.1 h1 with h | h
    · exact .inl ⟨j, h, h2⟩
    · simp only [List.mem_singleton] at h; subst h; exact .inr h2
  · rintro (⟨j, h1, h2⟩ | h)
    · exact ⟨j, by simp [h1], h2⟩
    · exact ⟨i, by simp, h⟩
def cvrB (n : Nat) (ms : List Nat) (c : List Int) : Bool := (List.range n).all fun x => (unL ms c).testBit x
theorem cvrB_iff {n : Nat} {ms : List Nat} {c : List Int} : cvrB n ms c = true ↔ Cvr n ms c := by simp [cvrB, Cvr]
theorem refCovers_spec (n : Nat) (hn : n ≤ 30) (sv : SlV) (vs : List SlV) (ls : List (List Int)) (hs : ∀ s ∈ ls, setB n s = true) (sc : Value) (c : List Int) (hc : ∀ i ∈ c, 0 ≤ i ∧ i < ls.length) (w : World) (hm : Stb w [] (fun w' => Mt w' sv.v vs ls)) (hcr : Stb w [] (RdL sc c)) :
    Calls Tryz.prog 43 #[.int .i64 n, sv.v, sc] w fun e w' => e = .returned (.bool (cvrB n (msOf ls) c)) ∧ Cl w [] [] w' := by
  have h1 := stb_map hm fun _ h => h.l
  have n1 := hm.here.n
  have hL := rd_len hcr.here
  refine calls_cw (vs := [_, _, _]) Tryz.func43 rfl Tryz.ntmps43 rfl (Cl.start0 w) (cw_seq (cw_region (sr rfl rfl rfl ((q_assign rfl rfl)) (sw_nil (post_then (cw_seq (cw_region (sr rfl rfl rfl ((q_move rfl rfl)) ?_))))))))
  refine sw_x rfl rfl rfl (e_make (α := Bool) (zero := false) rfl rfl rfl rfl rfl (by omega) (by omega) (by decide)) (fun s12 => ?_)
  rw [Int.toNat_natCast, cvL_zero]
  refine sr rfl rfl rfl ((q_assign rfl rfl)) (sw_nil (post_then (cw_seq (cw_seq (cw_region (sr rfl rfl rfl ((q_assign rfl rfl)) (sw_nil (post_then (cw_block ?_)))))))))
  refine cw_loop (S := Nat) (fun k => [(0, [], .int .i64 n), (1, [], sv.v), (2, [], sc), (7, [], s12.v), (8, [], .int .i64 k)]) (fun k => Cl w [] [ownL 4 s12.v (cvL n (unL (msOf ls) (c.take k)))]) (fun k => k ≤ c.length) (fun k => c.length - k) 0 (Nat.zero_le _) (by exact .cons rfl (.cons rfl (.cons rfl (.cons rfl (.cons rfl .nil))))) (fun _ h => h) ?_
  intro k hk
  refine cw_seq (cw_seq (cw_region (sr rfl rfl rfl ((q_move rfl rfl)) (sr rfl rfl rfl ((q_move rfl rfl)) ?_))))
  refine sr rfl rfl rfl ((q_len rfl (.cons rfl inferInstance (.nil)) (by exact fun w hw => Stb.cl (by assumption) hw))) ?_
  refine sr rfl rfl rfl ((q_lss rfl rfl rfl)) (sw_nil (post_then ?_))
  refine cw_cond rfl (fun h => ?_) (fun h => ?_)
  · skip
    have hk' : k < c.length := by simp only [decide_eq_true_eq] at h; omega
    have hck := hc _ (nth_mem hk')
    have hrow := stb_map hm fun _ h => h.r (nth c k).toNat (by omega)
    have hrl := rd_len hrow.here
    have hsb := mask_bits (hs _ (nth_mem (i := (nth c k).toNat) (by omega)))
    refine cw_skip (post_then (cw_seq (cw_block (cw_seq (cw_region (sr rfl rfl rfl ((q_assign rfl rfl)) (sw_nil (post_then (cw_block ?_)))))))))
    refine cw_loop (S := Nat) (fun q => [(0, [], .int .i64 n), (1, [], sv.v), (2, [], sc), (7, [], s12.v), (8, [], .int .i64 k), (9, [], .int .i64 q)]) (fun q => Cl w [] [ownL 4 s12.v (cvL n (unL (msOf ls) (c.take k) ||| maskTo (nth ls (nth c k).toNat) q))]) (fun q => q ≤ (nth ls (nth c k).toNat).length) (fun q => (nth ls (nth c k).toNat).length - q) 0 (Nat.zero_le _) (by exact .cons rfl (.cons rfl (.cons rfl (.cons rfl (.cons rfl (.cons rfl .nil)))))) (fun w3 h3 => by simp only [maskTo, Nat.or_zero]; exact h3) ?_
    intro q hq
    refine cw_seq (cw_seq (cw_region (sr rfl rfl rfl ((q_move rfl rfl)) (sr rfl rfl rfl ((q_move rfl rfl)) (sr rfl rfl rfl ((q_move rfl rfl)) (sr rfl rfl rfl ((q_move rfl rfl)) ?_))))))
    refine sr rfl rfl rfl ((q_indexN rfl rfl rfl (by exact fun w hw => Stb.cl (by assumption) hw) (by intro hc; omega))) ?_
    refine sr rfl rfl rfl ((q_loadEl rfl rfl rfl (by exact fun w hw => Stb.cl (by assumption) hw) (by intro hc; omega))) ?_
    refine sr rfl rfl rfl ((q_index rfl rfl rfl (by exact fun w hw => Stb.cl (by assumption) hw) (by intro hc; omega))) ?_
    refine sr rfl rfl rfl ((q_loadEl rfl rfl rfl (by exact fun w hw => Stb.cl (by assumption) hw) (by intro hc; omega))) ?_
    refine sr rfl rfl rfl ((q_len rfl (.cons rfl inferInstance (.nil)) (by exact fun w hw => Stb.cl (by assumption) hw))) ?_
    refine sr rfl rfl rfl ((q_lss rfl rfl rfl)) (sw_nil (post_then ?_))
    refine cw_cond rfl (fun h2 => ?_) (fun h2 => ?_)
    · skip
      have hq' : q < (nth ls (nth c k).toNat).length := by simp only [decide_eq_true_eq] at h2; omega
      have hel := hsb.2 _ (nth_mem hq')
      have hcl := cvL_len n (unL (msOf ls) (c.take k) ||| maskTo (nth ls (nth c k).toNat) q)
      refine cw_skip (post_then (cw_seq (cw_block (cw_region (sr rfl rfl rfl ((q_move rfl rfl)) (sr rfl rfl rfl ((q_move rfl rfl)) (sr rfl rfl rfl ((q_move rfl rfl)) (sr rfl rfl rfl ((q_move rfl rfl)) ?_))))))))
      refine sr rfl rfl rfl ((q_indexN rfl rfl rfl (by exact fun w hw => Stb.cl (by assumption) hw) (by intro hc; omega))) ?_
      refine sr rfl rfl rfl ((q_loadEl rfl rfl rfl (by exact fun w hw => Stb.cl (by assumption) hw) (by intro hc; omega))) ?_
      refine sr rfl rfl rfl ((q_index rfl rfl rfl (by exact fun w hw => Stb.cl (by assumption) hw) (by intro hc; omega))) ?_
      refine sr rfl rfl rfl ((q_loadEl rfl rfl rfl (by exact fun w hw => Stb.cl (by assumption) hw) (by intro hc; omega))) ?_
      refine sr rfl rfl rfl ((q_move rfl rfl)) ?_
      refine sr rfl rfl rfl ((q_indexN rfl rfl rfl (by exact fun w hw => Stb.cl (by assumption) hw) (by intro hc; omega))) ?_
      refine sr rfl rfl rfl ((q_loadEl rfl rfl rfl (by exact fun w hw => Stb.cl (by assumption) hw) (by intro hc; omega))) ?_
      refine sr rfl rfl rfl ((q_index rfl rfl rfl (by exact fun w hw => rd_own hw (by exact .head _)) (by intro hc; omega))) ?_
      refine sw_eff0 rfl rfl (e_storeEl1 (i := 0) rfl rfl rfl rfl rfl (by omega)) ?_
      refine sw_nil (post_blk (post_then (cw_region (sr rfl rfl rfl ((q_move rfl rfl)) ?_))))
      refine sr rfl rfl rfl ((q_add rfl rfl rfl (by intro hc; omega))) ?_
      refine sr rfl rfl rfl ((q_assign rfl rfl)) (sw_nil ?_)
      refine post_next (q + 1) (by exact .cons rfl (.cons rfl (.cons rfl (.cons rfl (.cons rfl (.cons rfl .nil)))))) (fun w3 hw3 => ?_) (by omega) (by omega)
      rw [maskTo, ← Nat.or_assoc, ← cvL_set (by omega)]
      exact hw3
    · skip
      have hq' : q = (nth ls (nth c k).toNat).length := by simp only [decide_eq_false_iff_not] at h2; omega
      subst hq'
      refine cw_exit (post_then_x (post_then_x (post_blk_eq (post_blk (post_then (cw_region (sr rfl rfl rfl ((q_move rfl rfl)) ?_)))))))
      refine sr rfl rfl rfl ((q_add rfl rfl rfl (by intro hc; omega))) ?_
      refine sr rfl rfl rfl ((q_assign rfl rfl)) (sw_nil ?_)
      refine post_next (k + 1) (by exact .cons rfl (.cons rfl (.cons rfl (.cons rfl (.cons rfl .nil))))) (fun w3 hw3 => ?_) (by omega) (by omega)
      rw [List.take_succ_eq_append_getElem hk', unL_snoc, ← nth_get hk', msOf_nth (by omega)]
      exact hw3
  · skip
    have hk' : k = c.length := by simp only [decide_eq_false_iff_not] at h; omega
    subst hk'
    rw [List.take_length]
    have hcl := cvL_len n (unL (msOf ls) c)
    refine cw_exit (post_then_x (post_then_x (post_blk_eq (post_then (cw_seq (cw_seq (cw_region (sr rfl rfl rfl ((q_assign rfl rfl)) (sw_nil (post_then (cw_block ?_)))))))))))
    refine cw_loop (S := Nat) (fun x => [(0, [], .int .i64 n), (7, [], s12.v), (10, [], .int .i64 x)]) (fun x => Cl w [] [ownL 4 s12.v (cvL n (unL (msOf ls) c))]) (fun x => x ≤ n ∧ ∀ j, j < x → (unL (msOf ls) c).testBit j = true) (fun x => n - x) 0 ⟨Nat.zero_le _, fun j hj => by omega⟩ (by exact .cons rfl (.cons rfl (.cons rfl .nil))) (fun _ h => h) ?_
    rintro x ⟨hx, hb⟩
    refine cw_seq (cw_seq (cw_region (sr rfl rfl rfl ((q_move rfl rfl)) (sr rfl rfl rfl ((q_move rfl rfl)) (sr rfl rfl rfl ((q_lss rfl rfl rfl)) (sw_nil (post_then ?_)))))))
    refine cw_cond rfl (fun h2 => ?_) (fun h2 => ?_)
    · skip
      have hx' : x < n := by simp only [decide_eq_true_eq] at h2; omega
      have hbit := cvL_nth hx' (unL (msOf ls) c)
      refine cw_skip (post_then (cw_seq (cw_block (cw_seq (cw_region (sr rfl rfl rfl ((q_move rfl rfl)) (sr rfl rfl rfl ((q_move rfl rfl)) ?_)))))))
      refine sr rfl rfl rfl ((q_indexN rfl rfl rfl (by exact fun w hw => rd_own hw (by exact .head _)) (by intro hc; omega))) ?_
      refine sr rfl rfl rfl ((q_loadEl rfl rfl rfl (by exact fun w hw => rd_own hw (by exact .head _)) (by intro hc; omega))) ?_
      refine sr rfl rfl rfl ((q_not rfl rfl)) (sw_nil (post_then ?_))
      rw [hbit]
      refine cw_cond rfl (fun h3 => ?_) (fun h3 => ?_)
      · skip
        have h4 : cvrB n (msOf ls) c = false := List.all_eq_false.2 ⟨x, by simpa using hx', by simpa using h3⟩
        refine cw_seq (cw_region (sr rfl rfl rfl ((q_assign rfl rfl)) (sw_nil (post_then (cw_ret (post_blk_r (post_then_r (post_then_r (post_blk_r (post_then_r (post_ret1 rfl (resOk_tmp rfl) ?_)))))))))))
        exact fun w' hw => ⟨by rw [h4], (fun w h => Cl.sel (by exact .nil _) w h) _ hw⟩
      · skip
        refine cw_skip (post_blk (post_then (cw_region (sr rfl rfl rfl ((q_move rfl rfl)) ?_))))
        refine sr rfl rfl rfl ((q_add rfl rfl rfl (by intro hc; omega))) ?_
        refine sr rfl rfl rfl ((q_assign rfl rfl)) (sw_nil ?_)
        refine post_next (x + 1) (by exact .cons rfl (.cons rfl (.cons rfl .nil))) (fun _ h => h) ⟨by omega, fun j hj => ?_⟩ (by omega)
        by_cases e : j = x
        · subst e; simpa using h3
        · exact hb j (by omega)
    · skip
      have hx' : x = n := by simp only [decide_eq_false_iff_not] at h2; omega
      subst hx'
      have h4 : cvrB x (msOf ls) c = true := cvrB_iff.2 hb
      refine cw_exit (post_then_x (post_then_x (post_blk_eq (post_then (cw_seq (cw_region (sr rfl rfl rfl ((q_assign rfl rfl)) (sw_nil (post_then (cw_ret (post_ret1 rfl (resOk_tmp rfl) ?_)))))))))))
      exact fun w' hw => ⟨by rw [h4], (fun w h => Cl.sel (by exact .nil _) w h) _ hw⟩
def someI (f : Nat → Option (List Int)) : Nat → Nat → Option (List Int)
  | _, 0 => none
  | i, c + 1 => match f i with
    | some x => some x
    | none => someI f (i + 1) c
def someF (n : Nat) (ms : List Nat) : Nat → List Int → Nat → Option (List Int)
  | 0, ch, _ => if cvrB n ms ch = true then some ch else none
  | k + 1, ch, fr => someI (fun i => someF n ms k (ch ++ [(i : Int)]) (i + 1)) fr (ms.length - fr)
def leastF (n : Nat) (ms : List Nat) : Option (List Int) := someI (fun k => someF n ms k [] 0) 0 (ms.length + 1)
theorem someI_step {f : Nat → Option (List Int)} {i L : Nat} (h : i < L) : someI f i (L - i) = match f i with
    | some x => some x
    | none => someI f (i + 1) (L - (i + 1)) := by
  rw [show L - i = (L - (i + 1)) + 1 by omega, someI]
def optA (r : SlV) (o : Option (List Int)) : List Asn := match o with
  | some c => [ownL 3 r.v c]
  | none => []
theorem some_spec (n : Nat) (hn : n ≤ 30) (sv : SlV) (vs : List SlV) (ls : List (List Int)) (hl : ls.length ≤ 1000) (hs : ∀ s ∈ ls, setB n s = true) : ∀ (more : Nat) (sc : SlV) (ch : List Int) (f : Nat), ch.length + more ≤ 100000 → f ≤ ls.length → (∀ i ∈ ch, 0 ≤ i ∧ i < ls.length) → ∀ (w : World) (bs : List Nat), Sep [ownL 3 sc.v ch] w bs → bs.Nodup → (∀ b ∈ bs, b < w.heap.size) → Stb w bs (fun w' => Mt w' sv.v vs ls) →
    Calls Tryz.prog 85 #[.int .i64 n, sv.v, sc.v, .int .i64 f, .int .i64 more] w fun e w' => ∃ r : SlV, e = .returned (.tuple #[r.v, .bool (someF n (msOf ls) more ch f).isSome]) ∧ True ∧ Cl w bs (optA r (someF n (msOf ls) more ch f)) w' := by
  intro more
  induction more with
  | zero =>
    intro sc ch f hb hf hch w bs k1 k2 k3 hm
    refine calls_cw (vs := [_, _, _, _, _]) Tryz.func85 rfl Tryz.ntmps85 rfl (Cl.start k1 k2 k3) (cw_seq (cw_region (sr rfl rfl rfl ((q_assign rfl rfl)) (sr rfl rfl rfl ((q_assign rfl rfl)) (sw_nil (post_then (cw_seq (cw_seq (cw_region (sr rfl rfl rfl ((q_move rfl rfl)) (sr rfl rfl rfl ((q_eql rfl rfl rfl)) (sw_nil (post_then ?_)))))))))))))
    refine cw_cond rfl (fun h => ?_) (fun h => ?_)
    · skip
      refine cw_seq (cw_region (sr rfl rfl rfl ((q_move rfl rfl)) (sr rfl rfl rfl ((q_move rfl rfl)) (sr rfl rfl rfl ((q_move rfl rfl)) (sr rfl rfl rfl ((q_move rfl rfl)) (sw_step rfl rfl rfl (q_call (CanCall.mk Tryz.call43) rfl (.cons rfl inferInstance (.cons rfl inferInstance (.cons rfl inferInstance (.nil)))) (fun _ w hw => callq hw (refCovers_spec n hn sv vs ls hs sc.v ch hch w (stb_arg hw hm) (stb_own (e := 3) hw (.head _))))) (sr rfl rfl rfl ((q_assign rfl rfl)) (sr rfl rfl rfl ((q_assign rfl rfl)) (sw_nil (post_then (cw_ret (post_then_r (post_ret2 rfl (resOk_tmp rfl) (resOk_tmp rfl) ?_)))))))))))))
      refine fun w' hw => ⟨sc, ?_, trivial, ?_⟩
      · simp only [someF]; cases cvrB n (msOf ls) ch <;> rfl
      · simp only [someF]
        cases cvrB n (msOf ls) ch
        · exact hw.tail
        · exact hw
    · skip
      simp at h
  | succ more ih =>
    intro sc ch f hb hf hch w bs k1 k2 k3 hm
    have hml : (msOf ls).length = ls.length := by simp [msOf]
    refine calls_cw (vs := [_, _, _, _, _]) Tryz.func85 rfl Tryz.ntmps85 rfl (Cl.start k1 k2 k3) (cw_seq (cw_region (sr rfl rfl rfl ((q_assign rfl rfl)) (sr rfl rfl rfl ((q_assign rfl rfl)) (sw_nil (post_then (cw_seq (cw_seq (cw_region (sr rfl rfl rfl ((q_move rfl rfl)) (sr rfl rfl rfl ((q_eql rfl rfl rfl)) (sw_nil (post_then ?_)))))))))))))
    refine cw_cond rfl (fun h => ?_) (fun h => ?_)
    · skip
      simp at h; omega
    · skip
      clear h
      refine cw_skip (post_then (cw_seq (cw_seq (cw_region (sr rfl rfl rfl ((q_move rfl rfl)) (sr rfl rfl rfl ((q_assign rfl rfl)) (sw_nil (post_then (cw_block ?_)))))))))
      refine cw_loop (S := Nat) (fun i => [(0, [], .int .i64 n), (1, [], sv.v), (2, [], sc.v), (4, [], .int .i64 (more + 1 : Nat)), (12, [], .int .i64 i)]) (fun i => Cl w bs [ownL 3 sc.v ch]) (fun i => i ≤ ls.length ∧ someF n (msOf ls) (more + 1) ch f = someI (fun i => someF n (msOf ls) more (ch ++ [(i : Int)]) (i + 1)) i (ls.length - i)) (fun i => ls.length - i) f ⟨hf, by rw [someF, hml]⟩ (by exact .cons rfl (.cons rfl (.cons rfl (.cons rfl (.cons rfl .nil))))) (fun _ h => h) ?_
      rintro i ⟨hi, hF⟩
      have h1 := stb_map hm fun _ h => h.l
      have n1 := hm.here.n
      refine cw_seq (cw_seq (cw_region (sr rfl rfl rfl ((q_move rfl rfl)) (sr rfl rfl rfl ((q_move rfl rfl)) ?_))))
      refine sr rfl rfl rfl ((q_len rfl (.cons rfl inferInstance (.nil)) (by exact fun w hw => Stb.cl (by assumption) hw))) ?_
      refine sr rfl rfl rfl ((q_lss rfl rfl rfl)) (sw_nil (post_then ?_))
      refine cw_cond rfl (fun h => ?_) (fun h => ?_)
      · skip
        have hi' : i < ls.length := by simp only [decide_eq_true_eq] at h; omega
        rw [someI_step hi'] at hF
        refine cw_c (C' := Cl w bs [ownL 3 (SlV.v ⟨none, 0, 0⟩) ([] : List Int), ownL 3 sc.v ch]) (fun w' hw => hw.addNil (α := Int) 3) (cw_skip (post_then (cw_seq (cw_block (cw_seq (cw_region (sr rfl rfl rfl ((q_move rfl rfl)) (sr rfl rfl rfl ((q_move rfl rfl)) (sr rfl rfl rfl ((q_move rfl rfl)) ?_)))))))))
        refine sw_x rfl rfl rfl (e_append (i := 0) rfl (.cons rfl inferInstance (.cons rfl inferInstance (.nil))) rfl rfl (by exact fun w hw => rd_own hw (by exact .tail _ (.head _))) (by simp only [List.length_set, List.length_append, List.length_cons, List.length_nil, List.length_replicate, List.length_take, List.length_drop, List.length_map]; omega) rfl) (fun s33 => ?_)
        refine sr rfl rfl rfl ((q_move rfl rfl)) ?_
        refine sw_x rfl rfl rfl (e_build1 (α := Int) rfl rfl rfl rfl) (fun s35 => ?_)
        refine sw_x rfl rfl rfl (e_append (i := 1) rfl (.cons rfl inferInstance (.cons rfl inferInstance (.nil))) rfl rfl (by exact fun w hw => rd_own hw (by exact .head _)) (by simp only [List.length_set, List.length_append, List.length_cons, List.length_nil, List.length_replicate, List.length_take, List.length_drop, List.length_map]; omega) rfl) (fun s36 => ?_)
        refine sr rfl rfl rfl ((q_move rfl rfl)) ?_
        refine sr rfl rfl rfl ((q_add rfl rfl rfl (by intro hc; omega))) ?_
        refine sr rfl rfl rfl ((q_move rfl rfl)) ?_
        refine sr rfl rfl rfl ((q_sub rfl rfl rfl (by intro hc; omega))) ?_
        rw [show ((i : Int) + 1) = ((i + 1 : Nat) : Int) by omega, show (((more + 1 : Nat) : Int) - 1) = (more : Int) by omega]
        refine sw_x rfl rfl rfl (e_callH (A := [ownL 3 s36.v (ch ++ [(i : Int)])]) (F := [ownL 3 s35.v [(i : Int)], ownL 3 sc.v ch]) (CanCall.mk Tryz.call85) rfl rfl (.cons rfl inferInstance (.cons rfl inferInstance (.cons rfl inferInstance (.cons rfl inferInstance (.cons rfl inferInstance (.nil)))))) (perm_del (i := 1) rfl) (fun w bs k1 k2 k3 k4 k5 => ih s36 (ch ++ [(i : Int)]) (i + 1) (by simp; omega) (by omega) (fun j hj => by rcases List.mem_append.1 hj with h5 | h5; exact hch j h5; simp only [List.mem_singleton] at h5; omega) w bs k1 k2 k3 (k4 _ hm))) (fun r => ?_)
        refine sw_imp fun _ => (sr rfl rfl rfl ((q_move rfl rfl)) (sr rfl rfl rfl ((q_extract rfl rfl rfl)) (sr rfl rfl rfl ((q_extract rfl rfl rfl)) (sr rfl rfl rfl ((q_assign rfl rfl)) (sr rfl rfl rfl ((q_assign rfl rfl)) (sw_nil (post_then (cw_seq (cw_region (sr rfl rfl rfl ((q_move rfl rfl)) (sw_nil (post_then ?_))))))))))))
        refine cw_cond rfl (fun h2 => ?_) (fun h2 => ?_)
        · skip
          obtain ⟨c, hc⟩ := Option.isSome_iff_exists.1 h2
          rw [hc] at hF
          simp only at hF
          refine cw_seq (cw_region (sr rfl rfl rfl ((q_move rfl rfl)) (sr rfl rfl rfl ((q_assign rfl rfl)) (sr rfl rfl rfl ((q_assign rfl rfl)) (sw_nil (post_then (cw_ret (post_blk_r (post_then_r (post_then_r (post_blk_r (post_then_r (post_ret2 rfl (resOk_tmp rfl) (resOk_tmp rfl) ?_)))))))))))))
          refine fun w' hw => ⟨r, by rw [hF]; rfl, trivial, ?_⟩
          rw [hc] at hw
          rw [hF]
          exact (fun w h => Cl.sel (by exact .take 0 rfl (.nil _)) w h) _ hw
        · skip
          have hc : someF n (msOf ls) more (ch ++ [(i : Int)]) (i + 1) = none := by
            cases hx : someF n (msOf ls) more (ch ++ [(i : Int)]) (i + 1)
            · rfl
            · rw [hx] at h2; cases h2
          rw [hc] at hF
          simp only at hF
          refine cw_skip (post_blk (post_then (cw_region (sr rfl rfl rfl ((q_move rfl rfl)) ?_))))
          refine sr rfl rfl rfl ((q_add rfl rfl rfl (by intro hc; omega))) ?_
          refine sr rfl rfl rfl ((q_assign rfl rfl)) (sw_nil ?_)
          refine post_next (i + 1) (by exact .cons rfl (.cons rfl (.cons rfl (.cons rfl (.cons rfl .nil))))) (fun w3 hw3 => ?_) ⟨by omega, hF⟩ (by omega)
          rw [hc] at hw3
          exact (fun w h => Cl.sel (by exact .take 1 rfl (.nil _)) w h) _ hw3
      · skip
        have hi' : i = ls.length := by simp only [decide_eq_false_iff_not] at h; omega
        subst hi'
        have hF' : someF n (msOf ls) (more + 1) ch f = none := by rw [hF, Nat.sub_self]; rfl
        refine cw_exit (post_then_x (post_then_x (post_blk_eq (post_then (cw_seq (cw_region (sr rfl rfl rfl ((q_assign rfl rfl)) (sr rfl rfl rfl ((q_assign rfl rfl)) (sw_nil (post_then (cw_ret (post_ret2 rfl (resOk_tmp rfl) (resOk_tmp rfl) ?_))))))))))))
        exact fun w' hw => ⟨⟨none, 0, 0⟩, by rw [hF']; rfl, trivial, by rw [hF']; exact hw.tail⟩
theorem refLeast_spec (n : Nat) (hn : n ≤ 30) (sv : SlV) (vs : List SlV) (ls : List (List Int)) (hl : ls.length ≤ 1000) (hs : ∀ s ∈ ls, setB n s = true) (w : World) (hm : Stb w [] (fun w' => Mt w' sv.v vs ls)) :
    Calls Tryz.prog 41 #[.int .i64 n, sv.v] w fun e w' => ∃ r : SlV, e = .returned (.tuple #[r.v, .bool (leastF n (msOf ls)).isSome]) ∧ True ∧ Cl w [] (optA r (leastF n (msOf ls))) w' := by
  have h1 := stb_map hm fun _ h => h.l
  have n1 := hm.here.n
  have hml : (msOf ls).length = ls.length := by simp [msOf]
  refine calls_cw (vs := [_, _]) Tryz.func41 rfl Tryz.ntmps41 rfl (Cl.start0 w) (cw_seq (cw_region (sr rfl rfl rfl ((q_assign rfl rfl)) (sr rfl rfl rfl ((q_assign rfl rfl)) (sw_nil (post_then (cw_seq (cw_seq (cw_region (sr rfl rfl rfl ((q_assign rfl rfl)) (sw_nil (post_then (cw_block ?_)))))))))))))
  refine cw_loop (S := Nat) (fun k => [(0, [], .int .i64 n), (1, [], sv.v), (6, [], .int .i64 k)]) (fun k => Cl w [] []) (fun k => k ≤ ls.length + 1 ∧ leastF n (msOf ls) = someI (fun k => someF n (msOf ls) k [] 0) k (ls.length + 1 - k)) (fun k => ls.length + 1 - k) 0 ⟨Nat.zero_le _, by rw [leastF, hml]; rfl⟩ (by exact .cons rfl (.cons rfl (.cons rfl .nil))) (fun _ h => h) ?_
  rintro k ⟨hk, hF⟩
  refine cw_seq (cw_seq (cw_region (sr rfl rfl rfl ((q_move rfl rfl)) (sr rfl rfl rfl ((q_move rfl rfl)) ?_))))
  refine sr rfl rfl rfl ((q_len rfl (.cons rfl inferInstance (.nil)) (by exact fun w hw => Stb.cl (by assumption) hw))) ?_
  refine sr rfl rfl rfl ((q_leq rfl rfl rfl)) (sw_nil (post_then ?_))
  refine cw_cond rfl (fun h => ?_) (fun h => ?_)
  · skip
    have hk' : k < ls.length + 1 := by simp only [decide_eq_true_eq] at h; omega
    rw [someI_step hk'] at hF
    refine cw_c (C' := Cl w [] [ownL 3 (SlV.v ⟨none, 0, 0⟩) ([] : List Int)]) (fun w' hw => hw.addNil (α := Int) 3) (cw_skip (post_then (cw_seq (cw_block (cw_seq (cw_region (sr rfl rfl rfl ((q_move rfl rfl)) (sr rfl rfl rfl ((q_move rfl rfl)) (sr rfl rfl rfl ((q_move rfl rfl)) ?_)))))))))
    refine sw_x rfl rfl rfl (e_callH (A := [ownL 3 (SlV.v ⟨none, 0, 0⟩) ([] : List Int)]) (F := []) (CanCall.mk Tryz.call85) rfl rfl (.cons rfl inferInstance (.cons rfl inferInstance (.cons rfl inferInstance (.cons rfl inferInstance (.cons rfl inferInstance (.nil)))))) (.refl _) (fun w bs k1 k2 k3 k4 k5 => some_spec n hn sv vs ls hl hs k ⟨none, 0, 0⟩ [] 0 (by simp; omega) (Nat.zero_le _) (fun j hj => by simp at hj) w bs k1 k2 k3 (k4 _ hm))) (fun r => ?_)
    refine sw_imp fun _ => (sr rfl rfl rfl ((q_move rfl rfl)) (sr rfl rfl rfl ((q_extract rfl rfl rfl)) (sr rfl rfl rfl ((q_extract rfl rfl rfl)) (sr rfl rfl rfl ((q_assign rfl rfl)) (sr rfl rfl rfl ((q_assign rfl rfl)) (sw_nil (post_then (cw_seq (cw_region (sr rfl rfl rfl ((q_move rfl rfl)) (sw_nil (post_then ?_))))))))))))
    refine cw_cond rfl (fun h2 => ?_) (fun h2 => ?_)
    · skip
      obtain ⟨c, hc⟩ := Option.isSome_iff_exists.1 h2
      rw [hc] at hF
      simp only at hF
      refine cw_seq (cw_region (sr rfl rfl rfl ((q_move rfl rfl)) (sr rfl rfl rfl ((q_assign rfl rfl)) (sr rfl rfl rfl ((q_assign rfl rfl)) (sw_nil (post_then (cw_ret (post_blk_r (post_then_r (post_then_r (post_blk_r (post_then_r (post_ret2 rfl (resOk_tmp rfl) (resOk_tmp rfl) ?_)))))))))))))
      refine fun w' hw => ⟨r, by rw [hF]; rfl, trivial, ?_⟩
      rw [hc] at hw
      rw [hF]
      exact (fun w h => Cl.sel (by exact .take 0 rfl (.nil _)) w h) _ hw
    · skip
      have hc : someF n (msOf ls) k [] 0 = none := by
        cases hx : someF n (msOf ls) k [] 0
        · rfl
        · rw [hx] at h2; cases h2
      rw [hc] at hF
      simp only at hF
      refine cw_skip (post_blk (post_then (cw_region (sr rfl rfl rfl ((q_move rfl rfl)) ?_))))
      refine sr rfl rfl rfl ((q_add rfl rfl rfl (by intro hc; omega))) ?_
      refine sr rfl rfl rfl ((q_assign rfl rfl)) (sw_nil ?_)
      refine post_next (k + 1) (by exact .cons rfl (.cons rfl (.cons rfl .nil))) (fun w3 hw3 => ?_) ⟨by omega, hF⟩ (by omega)
      rw [hc] at hw3
      exact (fun w h => Cl.sel (by exact .nil _) w h) _ hw3
  · skip
    have hk' : k = ls.length + 1 := by simp only [decide_eq_false_iff_not] at h; omega
    subst hk'
    have hF' : leastF n (msOf ls) = none := by rw [hF, Nat.sub_self]; rfl
    refine cw_exit (post_then_x (post_then_x (post_blk_eq (post_then (cw_seq (cw_region (sr rfl rfl rfl ((q_assign rfl rfl)) (sr rfl rfl rfl ((q_assign rfl rfl)) (sw_nil (post_then (cw_ret (post_ret2 rfl (resOk_tmp rfl) (resOk_tmp rfl) ?_))))))))))))
    exact fun w' hw => ⟨⟨none, 0, 0⟩, by rw [hF']; rfl, trivial, by rw [hF']; exact hw⟩
theorem someI_some {f : Nat → Option (List Int)} {c : List Int} : ∀ {m i : Nat}, someI f i m = some c → ∃ j, i ≤ j ∧ j < i + m ∧ f j = some c
  | 0, i, h => by simp [someI] at h
  | m + 1, i, h => by
    rw [someI] at h
    cases h1 : f i with
    | some x => rw [h1] at h; exact ⟨i, by omega, by omega, by rw [h1]; exact h⟩
    | none =>
      rw [h1] at h
      obtain ⟨j, h2, h3, h4⟩ := someI_some h
      exact ⟨j, by omega, by omega, h4⟩
theorem someI_none {f : Nat → Option (List Int)} : ∀ {m i : Nat}, someI f i m = none → ∀ j, i ≤ j → j < i + m → f j = none
  | 0, i, _, j, a, b => by omega
  | m + 1, i, h, j, a, b => by
    rw [someI] at h
    cases h1 : f i with
    | some x => rw [h1] at h; cases h
    | none =>
      rw [h1] at h
      by_cases e : j = i
      · subst e; exact h1
      · exact someI_none h j (by omega) (by omega)
theorem someF_some {n : Nat} {ms : List Nat} : ∀ {k : Nat} {ch : List Int} {fr : Nat} {c : List Int}, someF n ms k ch fr = some c → Cvr n ms c ∧ c.length = ch.length + k
  | 0, ch, fr, c, h => by
    rw [someF] at h
    split at h
    · rename_i h1
      cases h
      exact ⟨cvrB_iff.1 h1, rfl⟩
    · cases h
  | k + 1, ch, fr, c, h => by
    rw [someF] at h
    obtain ⟨j, _, _, h4⟩ := someI_some h
    have := someF_some h4
    simp only [List.length_append, List.length_cons, List.length_nil] at this
    exact ⟨this.1, by omega⟩
/-- All sets from one on, if they do: there is a cover. -/
theorem someF_all {n : Nat} {ms : List Nat} : ∀ {k : Nat} {ch : List Int} {f : Nat}, f + k = ms.length → (∀ x, x < n → (unL ms ch).testBit x = true ∨ ∃ j, f ≤ j ∧ j < ms.length ∧ (nth ms j).testBit x = true) → someF n ms k ch f ≠ none
  | 0, ch, f, he, h => by
    rw [someF, if_pos]
    · simp
    · refine cvrB_iff.2 fun x hx => ?_
      rcases h x hx with h1 | ⟨j, h2, h3, _⟩
      · exact h1
      · omega
  | k + 1, ch, f, he, h => by
    rw [someF]
    intro hn
    have h1 := someI_none hn f (Nat.le_refl _) (by omega)
    refine someF_all (k := k) (by omega) (fun x hx => ?_) h1
    rw [unL_snoc, Nat.testBit_or, Bool.or_eq_true]
    rcases h x hx with h2 | ⟨j, h3, h4, h5⟩
    · exact .inl (.inl h2)
    · by_cases e : j = f
      · subst e; exact .inl (.inr (by simpa using h5))
      · exact .inr ⟨j, by omega, h4, h5⟩
theorem least_some {n : Nat} {ms : List Nat} (hn : n ≤ 32) (hp : possN n ms = true) : ∃ c, leastF n ms = some c ∧ Cvr n ms c ∧ c.length ≤ ms.length := by
  have h1 := someF_all (n := n) (ms := ms) (k := ms.length) (ch := []) (f := 0) (by omega) (fun x hx => by
    obtain ⟨j, h2, h3⟩ := (possN_iff hn).1 hp x hx
    exact .inr ⟨j, Nat.zero_le _, h2, h3⟩)
  cases h : leastF n ms with
  | none => exact absurd (someI_none h ms.length (Nat.zero_le _) (by omega)) h1
  | some c =>
    obtain ⟨j, _, h3, h4⟩ := someI_some h
    have h5 := someF_some h4
    exact ⟨c, rfl, h5.1, by have := h5.2; simp only [List.length_nil] at this; omega⟩
end Go.Proofs.YtomjbfeafodfbaaGreat

set_option autoImplicit false
set_option maxRecDepth 100000
namespace Go.Proofs.YtomjbfeafodfbaaGreat
open Go.Sx
open Enc (enc val)
theorem prov_bound {n : Nat} {ms : List Nat} {prices : List Int} {scale : Int} (h : provB n ms prices scale = true) {c : List Int} (hc : Cvr n ms c) : provV n ms prices scale ≤ c.length ∧ sumTo prices n ≤ scale * c.length := by
  have h0 := h
  rw [provB, Bool.and_eq_true] at h
  obtain ⟨h1, h2⟩ := h
  simp only [prcB, Bool.and_eq_true, inB, decide_eq_true_eq] at h1
  obtain ⟨⟨h3, h4⟩, h5⟩ := h1
  have hp : ∀ k, 0 ≤ nth prices k := fun k => (nth_bd (lo := 0) (hi := 1000000000) (by omega) (fun v hv => by have := List.all_eq_true.1 h5 v hv; simpa using this) k).1
  have hs : ∀ i, i < ms.length → psum prices (nth ms i) n ≤ scale := fun i hi => by
    have := List.all_eq_true.1 h2 _ (nth_mem hi)
    simpa using this
  have hb := cover_bound hp (by omega) hs hc
  refine ⟨?_, hb⟩
  rw [provV, h0, if_pos rfl]
  exact ceil_le (by omega) hb
theorem greedy_prov {n : Nat} {ms : List Nat} (hn : n ≤ 30) (hm : MsOk n ms) {k : Nat} (hk : GOk n ms k) : provB n ms ((giter n ms k).sh.map fun k => 27720 / k) (scaleTo (wid ms)) = true := by
  have hl := giter_sh n ms k
  have hw := widTo_bd ms ms.length
  have hw2 : 1 ≤ wid ms ∧ wid ms ≤ 32 := hw
  have hs := scaleTo_bd (wid ms)
  have hs1 : 27720 ≤ scaleTo (wid ms) := by
    have := scaleTo_mono hw2.1
    have e : scaleTo 1 = 27720 := by decide
    omega
  rw [provB, Bool.and_eq_true]
  constructor
  · simp only [prcB, Bool.and_eq_true, inB, decide_eq_true_eq]
    refine ⟨⟨by simpa using hl, by omega, by omega⟩, List.all_eq_true.2 fun v hv => ?_⟩
    obtain ⟨j, hj, rfl⟩ := List.getElem_of_mem hv
    have h1 := price_nonneg (giter_nonneg hk) j
    have e : nth (prcL (giter n ms k).sh) j = nth ((giter n ms k).sh.map fun k => 27720 / k) j := rfl
    rw [e, nth_get hj] at h1
    simp only [Bool.and_eq_true, decide_eq_true_eq]; omega
  · refine List.all_eq_true.2 fun m hmm => ?_
    obtain ⟨j, hj, rfl⟩ := List.getElem_of_mem hmm
    have := greedy_proves (by omega) hm hk hj
    rw [nth_get hj] at this
    simp only [decide_eq_true_eq]; exact this
theorem lawBounds_out (n : Int) (sv : SlV) (vs : List SlV) (ls : List (List Int)) (sp : SlV) (prices : List Int) (scale : Int) (w : World) (hm : Stb w [] (fun w' => Mt w' sv.v vs ls)) (hout : ¬ (setsOk n ls 8 = true ∧ ls.length ≤ 8)) :
    Calls Tryz.prog 9 #[.int .i64 n, sv.v, sp.v, .int .i64 scale] w fun e w' => e = .returned (.bool true) ∧ Cl w [] [] w' := by
  have h1 := stb_map hm fun _ h => h.l
  have n1 := hm.here.n
  refine calls_cw (vs := [_, _, _, _]) Tryz.func9 rfl Tryz.ntmps9 rfl (Cl.start0 w) (cw_seq (cw_region (sr rfl rfl rfl ((q_assign rfl rfl)) (sw_nil (post_then (cw_seq (cw_seq (cw_region (sr rfl rfl rfl ((q_move rfl rfl)) (sr rfl rfl rfl ((q_move rfl rfl)) (sw_step rfl rfl rfl (q_call (CanCall.mk Tryz.call33) rfl (.cons rfl inferInstance (.cons rfl inferInstance (.cons rfl inferInstance (.nil)))) (fun _ w hw => callq hw (sets_spec n sv vs ls 8 w (stb_arg hw hm)))) (sr rfl rfl rfl ((q_not rfl rfl)) (sr rfl rfl rfl ((q_move rfl rfl)) (sr rfl rfl rfl ((q_move rfl rfl)) ?_))))))))))))))
  first | refine sr rfl rfl rfl ((q_len rfl (.cons rfl inferInstance (.nil)) (by first | exact fun w hw => Stb.cl (by assumption) hw | exact fun w hw => rd_own hw (by first | assumption | (repeat first | exact .head _ | apply List.Mem.tail)) | assumption))) ?_ | refine sr rfl rfl rfl ((q_lenV rfl (.cons rfl inferInstance (.nil)))) ?_
  refine sr rfl rfl rfl ((q_gtr rfl rfl rfl)) (sr rfl rfl rfl ((q_or2 rfl rfl rfl)) (sr rfl rfl rfl ((q_move rfl rfl)) (sr rfl rfl rfl ((q_move rfl rfl)) (sr rfl rfl rfl ((q_move rfl rfl)) ?_))))
  have hg : (!setsOk n ls 8 || decide (8 < (vs.length : Int))) = true := by
    rw [n1]
    cases h2 : setsOk n ls 8
    · rfl
    · have : ¬ ls.length ≤ 8 := fun h => hout ⟨h2, h⟩
      simp; omega
  rw [hg]
  refine sr rfl rfl rfl ((q_off (v := .int .i64 0) (by simp [AllT]))) ?_
  refine sr rfl rfl rfl ((q_neq rfl rfl rfl)) (sr rfl rfl rfl ((q_or2 rfl rfl rfl)) (sw_nil (post_then ?_)))
  refine cw_cond rfl (fun h => ?_) (fun h => ?_)
  · skip
    refine cw_seq (cw_region (sw_step rfl rfl rfl (q_call (CanCall.mk Tryz.call18) rfl (.nil) (fun _ w hw => callq hw (known_spec w))) (sr rfl rfl rfl ((q_assign rfl rfl)) (sw_nil (post_then (cw_ret (post_then_r (post_ret1 rfl (resOk_tmp rfl) ?_))))))))
    exact fun w' hw => ⟨rfl, hw⟩
  · skip
    simp at h
theorem lawBounds_wide (n : Nat) (hn : n ≤ 30) (sv : SlV) (vs : List SlV) (ls : List (List Int)) (sp : SlV) (prices : List Int) (scale : Int) (w : World) (hm : Stb w [] (fun w' => Mt w' sv.v vs ls)) (hp : Stb w [] (RdL sp.v prices)) (hso : setsOk n ls 8 = true) (h8 : ls.length ≤ 8) (hE : covE n ls 1000 = 0) (hP : possN n (msOf ls) = true) (h12 : 12 < wid (msOf ls)) :
    Calls Tryz.prog 9 #[.int .i64 n, sv.v, sp.v, .int .i64 scale] w fun e w' => e = .returned (.bool true) ∧ Cl w [] [] w' := by
  have h1 := stb_map hm fun _ h => h.l
  have n1 := hm.here.n
  obtain ⟨q1, q2, q3, q4⟩ := covE_ok hE
  have hmo := msOf_ok q4
  have hml : (msOf ls).length = ls.length := by simp [msOf]
  obtain ⟨c, hc1, hc2, hc3⟩ := least_some (by omega) hP
  have hg : greedyE n ls = 0 := by rw [greedyE_ok hE, hP]; rfl
  refine calls_cw (vs := [_, _, _, _]) Tryz.func9 rfl Tryz.ntmps9 rfl (Cl.start0 w) (cw_seq (cw_region (sr rfl rfl rfl ((q_assign rfl rfl)) (sw_nil (post_then (cw_seq (cw_seq (cw_region (sr rfl rfl rfl ((q_move rfl rfl)) (sr rfl rfl rfl ((q_move rfl rfl)) (sw_step rfl rfl rfl (q_call (CanCall.mk Tryz.call33) rfl (.cons rfl inferInstance (.cons rfl inferInstance (.cons rfl inferInstance (.nil)))) (fun _ w hw => callq hw (sets_spec n sv vs ls 8 w (stb_arg hw hm)))) (sr rfl rfl rfl ((q_not rfl rfl)) (sr rfl rfl rfl ((q_move rfl rfl)) (sr rfl rfl rfl ((q_move rfl rfl)) ?_))))))))))))))
  first | refine sr rfl rfl rfl ((q_len rfl (.cons rfl inferInstance (.nil)) (by first | exact fun w hw => Stb.cl (by assumption) hw | exact fun w hw => rd_own hw (by first | assumption | (repeat first | exact .head _ | apply List.Mem.tail)) | assumption))) ?_ | refine sr rfl rfl rfl ((q_lenV rfl (.cons rfl inferInstance (.nil)))) ?_
  refine sr rfl rfl rfl ((q_gtr rfl rfl rfl)) (sr rfl rfl rfl ((q_or2 rfl rfl rfl)) (sr rfl rfl rfl ((q_move rfl rfl)) (sr rfl rfl rfl ((q_move rfl rfl)) (sr rfl rfl rfl ((q_move rfl rfl)) ?_))))
  refine sw_step rfl rfl rfl (q_call (CanCall.mk Tryz.call35) rfl (.cons rfl inferInstance (.cons rfl inferInstance (.nil))) (fun _ w hw => callq hw (needed_spec n (.inl (by omega)) sv vs ls (.inl h8) w (stb_arg hw hm)))) ?_
  refine sr rfl rfl rfl ((q_neq rfl rfl rfl)) (sr rfl rfl rfl ((q_or2 rfl rfl rfl)) (sw_nil (post_then ?_)))
  refine cw_cond rfl (fun h => ?_) (fun h => ?_)
  · skip
    exfalso
    rw [hso, hg] at h
    simp at h; omega
  · skip
    clear h
    refine cw_skip (post_then (cw_seq (cw_region (sr rfl rfl rfl ((q_move rfl rfl)) (sr rfl rfl rfl ((q_move rfl rfl)) ?_)))))
    refine sw_x rfl rfl rfl (e_call (CanCall.mk Tryz.call41) rfl (.cons rfl inferInstance (.cons rfl inferInstance (.nil))) (fun w hw => refLeast_spec n hn sv vs ls (by omega) q4 w (stb_arg hw hm))) (fun r => ?_)
    refine sw_imp fun _ => ?_
    rw [hc1]
    refine sw_le (C' := Cl w [] [ownL 3 r.v c]) (fun w' hw => hw) (sr rfl rfl rfl ((q_move rfl rfl)) ?_)
    first | refine sr rfl rfl rfl ((q_extract rfl rfl rfl)) ?_ | refine sr rfl rfl rfl ((q_extract rfl rfl (nextV_0 _))) ?_
    first | refine sr rfl rfl rfl ((q_extract rfl rfl rfl)) ?_ | refine sr rfl rfl rfl ((q_extract rfl rfl (nextV_0 _))) ?_
    refine sr rfl rfl rfl ((q_assign rfl rfl)) (sr rfl rfl rfl ((q_assign rfl rfl)) (sw_nil (post_then (cw_seq (cw_seq (cw_region (sr rfl rfl rfl ((q_move rfl rfl)) (sr rfl rfl rfl ((q_move rfl rfl)) (sr rfl rfl rfl ((q_move rfl rfl)) (sr rfl rfl rfl ((q_move rfl rfl)) (sw_step rfl rfl rfl (q_call (CanCall.mk Tryz.call39) rfl (.cons rfl inferInstance (.cons rfl inferInstance (.cons rfl inferInstance (.cons rfl inferInstance (.nil))))) (fun _ w hw => callq hw (proves_yes n hn sv vs ls sp prices scale w (stb_arg hw hm) (stb_arg hw hp) hE))) (sr rfl rfl rfl ((q_move rfl rfl)) ?_))))))))))))
    first | refine sr rfl rfl rfl ((q_extract rfl rfl rfl)) ?_ | refine sr rfl rfl rfl ((q_extract rfl rfl (nextV_0 _))) ?_
    first | refine sr rfl rfl rfl ((q_extract rfl rfl rfl)) ?_ | refine sr rfl rfl rfl ((q_extract rfl rfl (nextV_0 _))) ?_
    refine sr rfl rfl rfl ((q_assign rfl rfl)) (sr rfl rfl rfl ((q_assign rfl rfl)) (sw_nil (post_then (cw_seq (cw_region (sr rfl rfl rfl ((q_move rfl rfl)) (sr rfl rfl rfl ((q_move rfl rfl)) (sr rfl rfl rfl ((q_move rfl rfl)) (sr rfl rfl rfl ((q_move rfl rfl)) ?_)))))))))
    first | refine sr rfl rfl rfl ((q_len rfl (.cons rfl inferInstance (.nil)) (by first | exact fun w hw => Stb.cl (by assumption) hw | exact fun w hw => rd_own hw (by first | assumption | (repeat first | exact .head _ | apply List.Mem.tail)) | assumption))) ?_ | refine sr rfl rfl rfl ((q_lenV rfl (.cons rfl inferInstance (.nil)))) ?_
    refine sr rfl rfl rfl ((q_gtr rfl rfl rfl)) (sr rfl rfl rfl ((q_and2 rfl rfl rfl)) (sw_nil (post_then ?_)))
    refine cw_cond rfl (fun h => ?_) (fun h => ?_)
    · skip
      exfalso
      simp only [Bool.and_eq_true, decide_eq_true_eq] at h
      have := (prov_bound h.1 hc2).1
      omega
    · skip
      clear h
      refine cw_skip (post_then (cw_seq (cw_region (sr rfl rfl rfl ((q_move rfl rfl)) (sr rfl rfl rfl ((q_move rfl rfl)) ?_)))))
      refine sw_x rfl rfl rfl (e_call (CanCall.mk Tryz.call42) rfl (.cons rfl inferInstance (.cons rfl inferInstance (.nil))) (fun w hw => greedy_yes n hn sv vs ls h8 w (stb_arg hw hm) hE hP)) (fun z => ?_)
      refine sw_imp fun hz => ?_
      obtain ⟨sa, ⟨la, ka⟩⟩ := z
      dsimp only at hz ⊢
      have hidx : ∀ i ∈ la, 0 ≤ i ∧ i < ls.length := fun i hi => by
        have := giter_idx hz.ok i (hz.perm.mem_iff.1 hi)
        omega
      have hcov : cvrB n (msOf ls) la = true := cvrB_iff.2 fun x hx => by
        rw [unL_perm hz.perm]
        exact greedy_covers hz.ok x (fr_zero.1 hz.full x (by omega) (by rw [fullN_bit]; simpa using hx))
      have hlen : la.length = ka := by rw [hz.perm.length_eq, giter_out]
      have hkn := giter_bd (by omega) hmo hz.ok
      refine sr rfl rfl rfl ((q_move rfl rfl)) ?_
      first | refine sr rfl rfl rfl ((q_extract rfl rfl rfl)) ?_ | refine sr rfl rfl rfl ((q_extract rfl rfl (nextV_0 _))) ?_
      first | refine sr rfl rfl rfl ((q_extract rfl rfl rfl)) ?_ | refine sr rfl rfl rfl ((q_extract rfl rfl (nextV_0 _))) ?_
      refine sr rfl rfl rfl ((q_assign rfl rfl)) (sr rfl rfl rfl ((q_assign rfl rfl)) (sw_nil (post_then (cw_seq (cw_seq (cw_region (sr rfl rfl rfl ((q_move rfl rfl)) (sr rfl rfl rfl ((q_neq rfl rfl rfl)) (sr rfl rfl rfl ((q_move rfl rfl)) (sr rfl rfl rfl ((q_move rfl rfl)) (sr rfl rfl rfl ((q_move rfl rfl)) (sr rfl rfl rfl ((q_move rfl rfl)) (sw_step rfl rfl rfl (q_call (CanCall.mk Tryz.call43) rfl (.cons rfl inferInstance (.cons rfl inferInstance (.cons rfl inferInstance (.nil)))) (fun _ w hw => callq hw (refCovers_spec n hn sv vs ls q4 sa.v la hidx w (stb_arg hw hm) (stb_own (e := 3) hw (.head _))))) (sr rfl rfl rfl ((q_not rfl rfl)) (sr rfl rfl rfl ((q_or2 rfl rfl rfl)) (sw_nil (post_then ?_)))))))))))))))))
      refine cw_cond rfl (fun h => ?_) (fun h => ?_)
      · skip
        exfalso
        rw [hcov] at h
        simp at h
      · skip
        clear h
        refine cw_skip (post_then (cw_seq (cw_region (sr rfl rfl rfl ((q_move rfl rfl)) (sr rfl rfl rfl ((q_move rfl rfl)) (sw_step rfl rfl rfl (q_call (CanCall.mk Tryz.call34) rfl (.cons rfl inferInstance (.cons rfl inferInstance (.nil))) (fun _ w hw => callq hw (price_wide n hn sv vs ls w (stb_arg hw hm) hE h12))) (sr rfl rfl rfl ((q_move rfl rfl)) ?_)))))))
        first | refine sr rfl rfl rfl ((q_extract rfl rfl rfl)) ?_ | refine sr rfl rfl rfl ((q_extract rfl rfl (nextV_0 _))) ?_
        first | refine sr rfl rfl rfl ((q_extract rfl rfl rfl)) ?_ | refine sr rfl rfl rfl ((q_extract rfl rfl (nextV_0 _))) ?_
        first | refine sr rfl rfl rfl ((q_extract rfl rfl rfl)) ?_ | refine sr rfl rfl rfl ((q_extract rfl rfl (nextV_0 _))) ?_
        refine sr rfl rfl rfl ((q_assign rfl rfl)) (sr rfl rfl rfl ((q_assign rfl rfl)) (sr rfl rfl rfl ((q_assign rfl rfl)) (sw_nil (post_then (cw_seq (cw_seq (cw_region (sr rfl rfl rfl ((q_move rfl rfl)) (sr rfl rfl rfl ((q_neq rfl rfl rfl)) (sw_nil (post_then ?_)))))))))))
        refine cw_cond rfl (fun h => ?_) (fun h => ?_)
        · skip
          refine cw_seq (cw_region (sr rfl rfl rfl ((q_move rfl rfl)) (sr rfl rfl rfl ((q_eql rfl rfl rfl)) (sr rfl rfl rfl ((q_move rfl rfl)) (sw_step rfl rfl rfl (q_call (CanCall.mk Tryz.call18) rfl (.nil) (fun _ w hw => callq hw (known_spec w))) (sr rfl rfl rfl ((q_and2 rfl rfl rfl)) (sr rfl rfl rfl ((q_assign rfl rfl)) (sw_nil (post_then (cw_ret (post_then_r (post_ret1 rfl (resOk_tmp rfl) ?_))))))))))))
          exact fun w' hw => ⟨rfl, (fun w h => Cl.sel (by (repeat first | exact Sel.nil _ | refine Sel.take 0 rfl ?_ | refine Sel.take 1 rfl ?_ | refine Sel.take 2 rfl ?_ | refine Sel.take 3 rfl ?_ | refine Sel.take 4 rfl ?_ | refine Sel.take 5 rfl ?_ | refine Sel.take 6 rfl ?_ | refine Sel.take 7 rfl ?_ | refine Sel.take 8 rfl ?_ | refine Sel.take 9 rfl ?_ | refine Sel.take 10 rfl ?_ | refine Sel.take 11 rfl ?_)) w h) _ hw⟩
        · skip
          simp at h
theorem lawBounds_yes (n : Nat) (hn : n ≤ 30) (sv : SlV) (vs : List SlV) (ls : List (List Int)) (sp : SlV) (prices : List Int) (scale : Int) (w : World) (hm : Stb w [] (fun w' => Mt w' sv.v vs ls)) (hp : Stb w [] (RdL sp.v prices)) (hso : setsOk n ls 8 = true) (h8 : ls.length ≤ 8) (hE : covE n ls 1000 = 0) (hP : possN n (msOf ls) = true) (h12 : wid (msOf ls) ≤ 12) :
    Calls Tryz.prog 9 #[.int .i64 n, sv.v, sp.v, .int .i64 scale] w fun e w' => e = .returned (.bool true) ∧ Cl w [] [] w' := by
  have h1 := stb_map hm fun _ h => h.l
  have n1 := hm.here.n
  obtain ⟨q1, q2, q3, q4⟩ := covE_ok hE
  have hmo := msOf_ok q4
  have hml : (msOf ls).length = ls.length := by simp [msOf]
  obtain ⟨c, hc1, hc2, hc3⟩ := least_some (by omega) hP
  have hg : greedyE n ls = 0 := by rw [greedyE_ok hE, hP]; rfl
  refine calls_cw (vs := [_, _, _, _]) Tryz.func9 rfl Tryz.ntmps9 rfl (Cl.start0 w) (cw_seq (cw_region (sr rfl rfl rfl ((q_assign rfl rfl)) (sw_nil (post_then (cw_seq (cw_seq (cw_region (sr rfl rfl rfl ((q_move rfl rfl)) (sr rfl rfl rfl ((q_move rfl rfl)) (sw_step rfl rfl rfl (q_call (CanCall.mk Tryz.call33) rfl (.cons rfl inferInstance (.cons rfl inferInstance (.cons rfl inferInstance (.nil)))) (fun _ w hw => callq hw (sets_spec n sv vs ls 8 w (stb_arg hw hm)))) (sr rfl rfl rfl ((q_not rfl rfl)) (sr rfl rfl rfl ((q_move rfl rfl)) (sr rfl rfl rfl ((q_move rfl rfl)) ?_))))))))))))))
  first | refine sr rfl rfl rfl ((q_len rfl (.cons rfl inferInstance (.nil)) (by first | exact fun w hw => Stb.cl (by assumption) hw | exact fun w hw => rd_own hw (by first | assumption | (repeat first | exact .head _ | apply List.Mem.tail)) | assumption))) ?_ | refine sr rfl rfl rfl ((q_lenV rfl (.cons rfl inferInstance (.nil)))) ?_
  refine sr rfl rfl rfl ((q_gtr rfl rfl rfl)) (sr rfl rfl rfl ((q_or2 rfl rfl rfl)) (sr rfl rfl rfl ((q_move rfl rfl)) (sr rfl rfl rfl ((q_move rfl rfl)) (sr rfl rfl rfl ((q_move rfl rfl)) ?_))))
  refine sw_step rfl rfl rfl (q_call (CanCall.mk Tryz.call35) rfl (.cons rfl inferInstance (.cons rfl inferInstance (.nil))) (fun _ w hw => callq hw (needed_spec n (.inl (by omega)) sv vs ls (.inl h8) w (stb_arg hw hm)))) ?_
  refine sr rfl rfl rfl ((q_neq rfl rfl rfl)) (sr rfl rfl rfl ((q_or2 rfl rfl rfl)) (sw_nil (post_then ?_)))
  refine cw_cond rfl (fun h => ?_) (fun h => ?_)
  · skip
    exfalso
    rw [hso, hg] at h
    simp at h; omega
  · skip
    clear h
    refine cw_skip (post_then (cw_seq (cw_region (sr rfl rfl rfl ((q_move rfl rfl)) (sr rfl rfl rfl ((q_move rfl rfl)) ?_)))))
    refine sw_x rfl rfl rfl (e_call (CanCall.mk Tryz.call41) rfl (.cons rfl inferInstance (.cons rfl inferInstance (.nil))) (fun w hw => refLeast_spec n hn sv vs ls (by omega) q4 w (stb_arg hw hm))) (fun r => ?_)
    refine sw_imp fun _ => ?_
    rw [hc1]
    refine sw_le (C' := Cl w [] [ownL 3 r.v c]) (fun w' hw => hw) (sr rfl rfl rfl ((q_move rfl rfl)) ?_)
    first | refine sr rfl rfl rfl ((q_extract rfl rfl rfl)) ?_ | refine sr rfl rfl rfl ((q_extract rfl rfl (nextV_0 _))) ?_
    first | refine sr rfl rfl rfl ((q_extract rfl rfl rfl)) ?_ | refine sr rfl rfl rfl ((q_extract rfl rfl (nextV_0 _))) ?_
    refine sr rfl rfl rfl ((q_assign rfl rfl)) (sr rfl rfl rfl ((q_assign rfl rfl)) (sw_nil (post_then (cw_seq (cw_seq (cw_region (sr rfl rfl rfl ((q_move rfl rfl)) (sr rfl rfl rfl ((q_move rfl rfl)) (sr rfl rfl rfl ((q_move rfl rfl)) (sr rfl rfl rfl ((q_move rfl rfl)) (sw_step rfl rfl rfl (q_call (CanCall.mk Tryz.call39) rfl (.cons rfl inferInstance (.cons rfl inferInstance (.cons rfl inferInstance (.cons rfl inferInstance (.nil))))) (fun _ w hw => callq hw (proves_yes n hn sv vs ls sp prices scale w (stb_arg hw hm) (stb_arg hw hp) hE))) (sr rfl rfl rfl ((q_move rfl rfl)) ?_))))))))))))
    first | refine sr rfl rfl rfl ((q_extract rfl rfl rfl)) ?_ | refine sr rfl rfl rfl ((q_extract rfl rfl (nextV_0 _))) ?_
    first | refine sr rfl rfl rfl ((q_extract rfl rfl rfl)) ?_ | refine sr rfl rfl rfl ((q_extract rfl rfl (nextV_0 _))) ?_
    refine sr rfl rfl rfl ((q_assign rfl rfl)) (sr rfl rfl rfl ((q_assign rfl rfl)) (sw_nil (post_then (cw_seq (cw_region (sr rfl rfl rfl ((q_move rfl rfl)) (sr rfl rfl rfl ((q_move rfl rfl)) (sr rfl rfl rfl ((q_move rfl rfl)) (sr rfl rfl rfl ((q_move rfl rfl)) ?_)))))))))
    first | refine sr rfl rfl rfl ((q_len rfl (.cons rfl inferInstance (.nil)) (by first | exact fun w hw => Stb.cl (by assumption) hw | exact fun w hw => rd_own hw (by first | assumption | (repeat first | exact .head _ | apply List.Mem.tail)) | assumption))) ?_ | refine sr rfl rfl rfl ((q_lenV rfl (.cons rfl inferInstance (.nil)))) ?_
    refine sr rfl rfl rfl ((q_gtr rfl rfl rfl)) (sr rfl rfl rfl ((q_and2 rfl rfl rfl)) (sw_nil (post_then ?_)))
    refine cw_cond rfl (fun h => ?_) (fun h => ?_)
    · skip
      exfalso
      simp only [Bool.and_eq_true, decide_eq_true_eq] at h
      have := (prov_bound h.1 hc2).1
      omega
    · skip
      clear h
      refine cw_skip (post_then (cw_seq (cw_region (sr rfl rfl rfl ((q_move rfl rfl)) (sr rfl rfl rfl ((q_move rfl rfl)) ?_)))))
      refine sw_x rfl rfl rfl (e_call (CanCall.mk Tryz.call42) rfl (.cons rfl inferInstance (.cons rfl inferInstance (.nil))) (fun w hw => greedy_yes n hn sv vs ls h8 w (stb_arg hw hm) hE hP)) (fun z => ?_)
      refine sw_imp fun hz => ?_
      obtain ⟨sa, ⟨la, ka⟩⟩ := z
      dsimp only at hz ⊢
      have hidx : ∀ i ∈ la, 0 ≤ i ∧ i < ls.length := fun i hi => by
        have := giter_idx hz.ok i (hz.perm.mem_iff.1 hi)
        omega
      have hcov : cvrB n (msOf ls) la = true := cvrB_iff.2 fun x hx => by
        rw [unL_perm hz.perm]
        exact greedy_covers hz.ok x (fr_zero.1 hz.full x (by omega) (by rw [fullN_bit]; simpa using hx))
      have hlen : la.length = ka := by rw [hz.perm.length_eq, giter_out]
      have hkn := giter_bd (by omega) hmo hz.ok
      refine sr rfl rfl rfl ((q_move rfl rfl)) ?_
      first | refine sr rfl rfl rfl ((q_extract rfl rfl rfl)) ?_ | refine sr rfl rfl rfl ((q_extract rfl rfl (nextV_0 _))) ?_
      first | refine sr rfl rfl rfl ((q_extract rfl rfl rfl)) ?_ | refine sr rfl rfl rfl ((q_extract rfl rfl (nextV_0 _))) ?_
      refine sr rfl rfl rfl ((q_assign rfl rfl)) (sr rfl rfl rfl ((q_assign rfl rfl)) (sw_nil (post_then (cw_seq (cw_seq (cw_region (sr rfl rfl rfl ((q_move rfl rfl)) (sr rfl rfl rfl ((q_neq rfl rfl rfl)) (sr rfl rfl rfl ((q_move rfl rfl)) (sr rfl rfl rfl ((q_move rfl rfl)) (sr rfl rfl rfl ((q_move rfl rfl)) (sr rfl rfl rfl ((q_move rfl rfl)) (sw_step rfl rfl rfl (q_call (CanCall.mk Tryz.call43) rfl (.cons rfl inferInstance (.cons rfl inferInstance (.cons rfl inferInstance (.nil)))) (fun _ w hw => callq hw (refCovers_spec n hn sv vs ls q4 sa.v la hidx w (stb_arg hw hm) (stb_own (e := 3) hw (.head _))))) (sr rfl rfl rfl ((q_not rfl rfl)) (sr rfl rfl rfl ((q_or2 rfl rfl rfl)) (sw_nil (post_then ?_)))))))))))))))))
      refine cw_cond rfl (fun h => ?_) (fun h => ?_)
      · skip
        exfalso
        rw [hcov] at h
        simp at h
      · skip
        clear h
        refine cw_skip (post_then (cw_seq (cw_region (sr rfl rfl rfl ((q_move rfl rfl)) (sr rfl rfl rfl ((q_move rfl rfl)) ?_)))))
        refine sw_x rfl rfl rfl (e_call (CanCall.mk Tryz.call34) rfl (.cons rfl inferInstance (.cons rfl inferInstance (.nil))) (fun w hw => price_yes n hn sv vs ls w (stb_arg hw hm) hE h8 h12 hP)) (fun z => ?_)
        refine sw_imp fun hzp => ?_
        obtain ⟨sre, ⟨lr, ⟨kr, lq⟩⟩⟩ := z
        dsimp only at hzp ⊢
        obtain ⟨hz1, hz2⟩ := hzp
        obtain rfl := done_one hz.ok hz.full hz2.ok hz2.full
        subst hz1
        have hprov := greedy_prov hn hmo hz.ok
        have hpl : ((giter n (msOf ls) ka).sh.map fun k => 27720 / k).length = n := by simpa using giter_sh n (msOf ls) ka
        have hpos : ∀ k, 0 ≤ nth ((giter n (msOf ls) ka).sh.map fun k => 27720 / k) k ∧ nth ((giter n (msOf ls) ka).sh.map fun k => 27720 / k) k ≤ 27720 := fun k => price_nonneg (giter_nonneg hz.ok) k
        have hsum : sumTo ((giter n (msOf ls) ka).sh.map fun k => 27720 / k) n = 27720 * (ka : Int) := greedy_sum (by omega) hmo h12 hz.ok
        have hb := prov_bound hprov hc2
        generalize hlr : ((giter n (msOf ls) ka).sh.map fun k => 27720 / k) = lr at *
        have hsc := scaleTo_bd (wid (msOf ls))
        have hmul : scaleTo (wid (msOf ls)) * (c.length : Int) ≤ 332640 * 8 := Int.mul_le_mul (by omega) (by omega) (by omega) (by omega)
        have hmul0 : 0 ≤ scaleTo (wid (msOf ls)) * (c.length : Int) := Int.mul_nonneg hsc.1 (by omega)
        refine sr rfl rfl rfl ((q_move rfl rfl)) ?_
        first | refine sr rfl rfl rfl ((q_extract rfl rfl rfl)) ?_ | refine sr rfl rfl rfl ((q_extract rfl rfl (nextV_0 _))) ?_
        first | refine sr rfl rfl rfl ((q_extract rfl rfl rfl)) ?_ | refine sr rfl rfl rfl ((q_extract rfl rfl (nextV_0 _))) ?_
        first | refine sr rfl rfl rfl ((q_extract rfl rfl rfl)) ?_ | refine sr rfl rfl rfl ((q_extract rfl rfl (nextV_0 _))) ?_
        refine sr rfl rfl rfl ((q_assign rfl rfl)) (sr rfl rfl rfl ((q_assign rfl rfl)) (sr rfl rfl rfl ((q_assign rfl rfl)) (sw_nil (post_then (cw_seq (cw_seq (cw_region (sr rfl rfl rfl ((q_move rfl rfl)) (sr rfl rfl rfl ((q_neq rfl rfl rfl)) (sw_nil (post_then ?_)))))))))))
        refine cw_cond rfl (fun h => ?_) (fun h => ?_)
        · skip
          simp at h
        · skip
          clear h
          refine cw_skip (post_then (cw_seq (cw_region (sr rfl rfl rfl ((q_assign rfl rfl)) (sw_nil (post_then (cw_seq (cw_seq (cw_region (sr rfl rfl rfl ((q_assign rfl rfl)) (sw_nil (post_then (cw_block ?_)))))))))))))
          refine cw_loop (S := Nat) (fun k => [(0, [], .int .i64 n), (1, [], sv.v), (9, [], r.v), (13, [], sa.v), (15, [], sre.v), (16, [], .int .i64 (scaleTo (wid (msOf ls)))), (18, [], .int .i64 (sumTo lr k)), (19, [], .int .i64 k)]) (fun _ => Cl w [] [ownL 3 sre.v lr, ownL 3 sa.v la, ownL 3 r.v c]) (fun k => k ≤ n) (fun k => n - k) 0 (Nat.zero_le _) (by (repeat first | exact Le.nil | refine Le.cons rfl ?_ | refine Le.cons' rfl (by congr 1; first | omega | (simp only; omega)) ?_)) (fun w h => Cl.sel (by (repeat first | exact Sel.nil _ | refine Sel.take 0 rfl ?_ | refine Sel.take 1 rfl ?_ | refine Sel.take 2 rfl ?_ | refine Sel.take 3 rfl ?_ | refine Sel.take 4 rfl ?_ | refine Sel.take 5 rfl ?_ | refine Sel.take 6 rfl ?_ | refine Sel.take 7 rfl ?_ | refine Sel.take 8 rfl ?_ | refine Sel.take 9 rfl ?_ | refine Sel.take 10 rfl ?_ | refine Sel.take 11 rfl ?_)) w h) ?_
          intro k hk
          have hs1 := sumTo_bd hpos k
          have hs2 := hpos k
          refine cw_seq (cw_seq (cw_region (sr rfl rfl rfl ((q_move rfl rfl)) (sr rfl rfl rfl ((q_move rfl rfl)) ?_))))
          first | refine sr rfl rfl rfl ((q_len rfl (.cons rfl inferInstance (.nil)) (by first | exact fun w hw => Stb.cl (by assumption) hw | exact fun w hw => rd_own hw (by first | assumption | (repeat first | exact .head _ | apply List.Mem.tail)) | assumption))) ?_ | refine sr rfl rfl rfl ((q_lenV rfl (.cons rfl inferInstance (.nil)))) ?_
          refine sr rfl rfl rfl ((q_lss rfl rfl rfl)) (sw_nil (post_then ?_))
          refine cw_cond rfl (fun h => ?_) (fun h => ?_)
          · skip
            have hk' : k < n := by simp only [decide_eq_true_eq] at h; omega
            refine cw_skip (post_then (cw_seq (cw_block (cw_region (sr rfl rfl rfl ((q_move rfl rfl)) (sr rfl rfl rfl ((q_move rfl rfl)) (sr rfl rfl rfl ((q_move rfl rfl)) ?_)))))))
            first | refine sr rfl rfl rfl ((q_indexN rfl rfl rfl (by first | exact fun w hw => Stb.cl (by assumption) hw | exact fun w hw => rd_own hw (by first | assumption | (repeat first | exact .head _ | apply List.Mem.tail)) | assumption) (by intro hc; first | omega | (simp only [List.length_set, List.length_append, List.length_cons, List.length_nil, List.length_replicate, List.length_take, List.length_drop, List.length_map]; omega) | (simp only [AllT.iff, List.all_cons, List.all_nil, id, Bool.and_eq_true, Bool.not_eq_true', decide_eq_true_eq, decide_eq_false_iff_not, and_true] at hc; first | omega | (simp only [List.length_set, List.length_append, List.length_cons, List.length_nil, List.length_replicate, List.length_take, List.length_drop, List.length_map]; omega)) | (exfalso; simp_all [AllT]; done)))) ?_ | refine sr rfl rfl rfl ((q_index rfl rfl rfl (by first | exact fun w hw => Stb.cl (by assumption) hw | exact fun w hw => rd_own hw (by first | assumption | (repeat first | exact .head _ | apply List.Mem.tail)) | assumption) (by intro hc; first | omega | (simp only [List.length_set, List.length_append, List.length_cons, List.length_nil, List.length_replicate, List.length_take, List.length_drop, List.length_map]; omega) | (simp only [AllT.iff, List.all_cons, List.all_nil, id, Bool.and_eq_true, Bool.not_eq_true', decide_eq_true_eq, decide_eq_false_iff_not, and_true] at hc; first | omega | (simp only [List.length_set, List.length_append, List.length_cons, List.length_nil, List.length_replicate, List.length_take, List.length_drop, List.length_map]; omega)) | (exfalso; simp_all [AllT]; done)))) ?_
            first | refine sr rfl rfl rfl ((q_loadC rfl rfl (by first | assumption | (repeat first | exact .head _ | apply List.Mem.tail)) rfl)) ?_ | refine sr rfl rfl rfl ((q_loadA rfl rfl (by first | assumption | (repeat first | exact .head _ | apply List.Mem.tail)) rfl)) ?_ | refine sr rfl rfl rfl ((q_loadEl rfl rfl rfl (by first | exact fun w hw => Stb.cl (by assumption) hw | exact fun w hw => rd_own hw (by first | assumption | (repeat first | exact .head _ | apply List.Mem.tail)) | assumption) (by intro hc; first | omega | (simp only [List.length_set, List.length_append, List.length_cons, List.length_nil, List.length_replicate, List.length_take, List.length_drop, List.length_map]; omega) | (simp only [AllT.iff, List.all_cons, List.all_nil, id, Bool.and_eq_true, Bool.not_eq_true', decide_eq_true_eq, decide_eq_false_iff_not, and_true] at hc; first | omega | (simp only [List.length_set, List.length_append, List.length_cons, List.length_nil, List.length_replicate, List.length_take, List.length_drop, List.length_map]; omega)) | (exfalso; simp_all [AllT]; done)))) ?_ | refine sr rfl rfl rfl ((q_loadF rfl rfl rfl (by first | exact fun w hw => Stb.cl (by assumption) hw | exact fun w hw => rd_own hw (by first | assumption | (repeat first | exact .head _ | apply List.Mem.tail)) | assumption) (by intro hc; first | omega | (simp only [List.length_set, List.length_append, List.length_cons, List.length_nil, List.length_replicate, List.length_take, List.length_drop, List.length_map]; omega) | (simp only [AllT.iff, List.all_cons, List.all_nil, id, Bool.and_eq_true, Bool.not_eq_true', decide_eq_true_eq, decide_eq_false_iff_not, and_true] at hc; first | omega | (simp only [List.length_set, List.length_append, List.length_cons, List.length_nil, List.length_replicate, List.length_take, List.length_drop, List.length_map]; omega)) | (exfalso; simp_all [AllT]; done)) rfl)) ?_ | refine sr rfl rfl rfl ((q_loadS rfl rfl (fun w hw => Stb.cl (by assumption) hw) rfl)) ?_
            refine sr rfl rfl rfl ((q_add rfl rfl rfl (by intro hc; first | omega | (simp only [List.length_set, List.length_append, List.length_cons, List.length_nil, List.length_replicate, List.length_take, List.length_drop, List.length_map]; omega) | (simp only [AllT.iff, List.all_cons, List.all_nil, id, Bool.and_eq_true, Bool.not_eq_true', decide_eq_true_eq, decide_eq_false_iff_not, and_true] at hc; first | omega | (simp only [List.length_set, List.length_append, List.length_cons, List.length_nil, List.length_replicate, List.length_take, List.length_drop, List.length_map]; omega)) | (exfalso; simp_all [AllT]; done)))) ?_
            refine sr rfl rfl rfl ((q_assign rfl rfl)) (sw_nil (post_blk (post_then (cw_region (sr rfl rfl rfl ((q_move rfl rfl)) ?_)))))
            refine sr rfl rfl rfl ((q_add rfl rfl rfl (by intro hc; first | omega | (simp only [List.length_set, List.length_append, List.length_cons, List.length_nil, List.length_replicate, List.length_take, List.length_drop, List.length_map]; omega) | (simp only [AllT.iff, List.all_cons, List.all_nil, id, Bool.and_eq_true, Bool.not_eq_true', decide_eq_true_eq, decide_eq_false_iff_not, and_true] at hc; first | omega | (simp only [List.length_set, List.length_append, List.length_cons, List.length_nil, List.length_replicate, List.length_take, List.length_drop, List.length_map]; omega)) | (exfalso; simp_all [AllT]; done)))) ?_
            refine sr rfl rfl rfl ((q_assign rfl rfl)) (sw_nil ?_)
            exact post_next (k + 1) (by (repeat first | exact Le.nil | refine Le.cons rfl ?_ | refine Le.cons' rfl (by congr 1; first | omega | (simp only; omega)) ?_)) (fun _ h => h) (by simp only [decide_eq_true_eq] at h; omega) (by simp only [decide_eq_true_eq] at h; omega)
          · skip
            have hk' : k = n := by simp only [decide_eq_false_iff_not] at h; omega
            subst hk'
            rw [hsum]
            refine cw_exit (post_then_x (post_then_x (post_blk_eq (post_then (cw_seq (cw_region (sr rfl rfl rfl ((q_move rfl rfl)) (sr rfl rfl rfl ((q_move rfl rfl)) (sr rfl rfl rfl ((q_move rfl rfl)) (sr rfl rfl rfl ((q_move rfl rfl)) (sw_step rfl rfl rfl (q_call (CanCall.mk Tryz.call39) rfl (.cons rfl inferInstance (.cons rfl inferInstance (.cons rfl inferInstance (.cons rfl inferInstance (.nil))))) (fun _ w hw => callq hw (proves_yes k hn sv vs ls sre lr (scaleTo (wid (msOf ls))) w (stb_arg hw hm) (stb_own (e := 3) hw (.head _)) hE))) (sr rfl rfl rfl ((q_move rfl rfl)) ?_))))))))))))
            first | refine sr rfl rfl rfl ((q_extract rfl rfl rfl)) ?_ | refine sr rfl rfl rfl ((q_extract rfl rfl (nextV_0 _))) ?_
            first | refine sr rfl rfl rfl ((q_extract rfl rfl rfl)) ?_ | refine sr rfl rfl rfl ((q_extract rfl rfl (nextV_0 _))) ?_
            refine sr rfl rfl rfl ((q_assign rfl rfl)) (sr rfl rfl rfl ((q_assign rfl rfl)) (sw_nil (post_then (cw_seq (cw_region (sr rfl rfl rfl ((q_move rfl rfl)) (sr rfl rfl rfl ((q_move rfl rfl)) (sr rfl rfl rfl ((q_move rfl rfl)) (sr rfl rfl rfl ((q_move rfl rfl)) ?_)))))))))
            first | refine sr rfl rfl rfl ((q_len rfl (.cons rfl inferInstance (.nil)) (by first | exact fun w hw => Stb.cl (by assumption) hw | exact fun w hw => rd_own hw (by first | assumption | (repeat first | exact .head _ | apply List.Mem.tail)) | assumption))) ?_ | refine sr rfl rfl rfl ((q_lenV rfl (.cons rfl inferInstance (.nil)))) ?_
            refine sr rfl rfl rfl ((q_mul rfl rfl rfl (by intro hc; first | omega | (simp only [List.length_set, List.length_append, List.length_cons, List.length_nil, List.length_replicate, List.length_take, List.length_drop, List.length_map]; omega) | (simp only [AllT.iff, List.all_cons, List.all_nil, id, Bool.and_eq_true, Bool.not_eq_true', decide_eq_true_eq, decide_eq_false_iff_not, and_true] at hc; first | omega | (simp only [List.length_set, List.length_append, List.length_cons, List.length_nil, List.length_replicate, List.length_take, List.length_drop, List.length_map]; omega)) | (exfalso; simp_all [AllT]; done)))) ?_
            refine sr rfl rfl rfl ((q_eql rfl rfl rfl)) (sr rfl rfl rfl ((q_and2 rfl rfl rfl)) (sr rfl rfl rfl ((q_move rfl rfl)) (sr rfl rfl rfl ((q_move rfl rfl)) (sr rfl rfl rfl ((q_move rfl rfl)) ?_))))
            first | refine sr rfl rfl rfl ((q_len rfl (.cons rfl inferInstance (.nil)) (by first | exact fun w hw => Stb.cl (by assumption) hw | exact fun w hw => rd_own hw (by first | assumption | (repeat first | exact .head _ | apply List.Mem.tail)) | assumption))) ?_ | refine sr rfl rfl rfl ((q_lenV rfl (.cons rfl inferInstance (.nil)))) ?_
            refine sr rfl rfl rfl ((q_leq rfl rfl rfl)) (sr rfl rfl rfl ((q_and2 rfl rfl rfl)) (sr rfl rfl rfl ((q_move rfl rfl)) (sr rfl rfl rfl ((q_move rfl rfl)) ?_)))
            first | refine sr rfl rfl rfl ((q_len rfl (.cons rfl inferInstance (.nil)) (by first | exact fun w hw => Stb.cl (by assumption) hw | exact fun w hw => rd_own hw (by first | assumption | (repeat first | exact .head _ | apply List.Mem.tail)) | assumption))) ?_ | refine sr rfl rfl rfl ((q_lenV rfl (.cons rfl inferInstance (.nil)))) ?_
            refine sr rfl rfl rfl ((q_mul rfl rfl rfl (by intro hc; first | omega | (simp only [List.length_set, List.length_append, List.length_cons, List.length_nil, List.length_replicate, List.length_take, List.length_drop, List.length_map]; omega) | (simp only [AllT.iff, List.all_cons, List.all_nil, id, Bool.and_eq_true, Bool.not_eq_true', decide_eq_true_eq, decide_eq_false_iff_not, and_true] at hc; first | omega | (simp only [List.length_set, List.length_append, List.length_cons, List.length_nil, List.length_replicate, List.length_take, List.length_drop, List.length_map]; omega)) | (exfalso; simp_all [AllT]; done)))) ?_
            refine sr rfl rfl rfl ((q_move rfl rfl)) (sr rfl rfl rfl ((q_move rfl rfl)) ?_)
            first | refine sr rfl rfl rfl ((q_len rfl (.cons rfl inferInstance (.nil)) (by first | exact fun w hw => Stb.cl (by assumption) hw | exact fun w hw => rd_own hw (by first | assumption | (repeat first | exact .head _ | apply List.Mem.tail)) | assumption))) ?_ | refine sr rfl rfl rfl ((q_lenV rfl (.cons rfl inferInstance (.nil)))) ?_
            refine sr rfl rfl rfl ((q_mul rfl rfl rfl (by intro hc; first | omega | (simp only [List.length_set, List.length_append, List.length_cons, List.length_nil, List.length_replicate, List.length_take, List.length_drop, List.length_map]; omega) | (simp only [AllT.iff, List.all_cons, List.all_nil, id, Bool.and_eq_true, Bool.not_eq_true', decide_eq_true_eq, decide_eq_false_iff_not, and_true] at hc; first | omega | (simp only [List.length_set, List.length_append, List.length_cons, List.length_nil, List.length_replicate, List.length_take, List.length_drop, List.length_map]; omega)) | (exfalso; simp_all [AllT]; done)))) ?_
            refine sr rfl rfl rfl ((q_leq rfl rfl rfl)) (sr rfl rfl rfl ((q_and2 rfl rfl rfl)) (sr rfl rfl rfl ((q_move rfl rfl)) (sw_step rfl rfl rfl (q_call (CanCall.mk Tryz.call18) rfl (.nil) (fun _ w hw => callq hw (known_spec w))) (sr rfl rfl rfl ((q_and2 rfl rfl rfl)) (sr rfl rfl rfl ((q_assign rfl rfl)) (sw_nil (post_then (cw_ret (post_ret1 rfl (resOk_tmp rfl) ?_)))))))))
            refine fun w' hw => ⟨?_, (fun w h => Cl.sel (by (repeat first | exact Sel.nil _ | refine Sel.take 0 rfl ?_ | refine Sel.take 1 rfl ?_ | refine Sel.take 2 rfl ?_ | refine Sel.take 3 rfl ?_ | refine Sel.take 4 rfl ?_ | refine Sel.take 5 rfl ?_ | refine Sel.take 6 rfl ?_ | refine Sel.take 7 rfl ?_ | refine Sel.take 8 rfl ?_ | refine Sel.take 9 rfl ?_ | refine Sel.take 10 rfl ?_ | refine Sel.take 11 rfl ?_)) w h) _ hw⟩
            have e1 : decide (27720 * (ka : Int) = 27720 * (la.length : Int)) = true := by rw [hlen]; simp
            have e2 : decide (provV k (msOf ls) lr (scaleTo (wid (msOf ls))) ≤ (c.length : Int)) = true := by simpa using hb.1
            have e3 : decide (27720 * (la.length : Int) ≤ scaleTo (wid (msOf ls)) * (c.length : Int)) = true := by rw [hlen]; simp; omega
            rw [hprov, e1, e2, e3]; rfl
theorem lawBounds_some (n : Nat) (hn : n ≤ 30) (sv : SlV) (vs : List SlV) (ls : List (List Int)) (sp : SlV) (prices : List Int) (scale : Int) (w : World) (hm : Stb w [] (fun w' => Mt w' sv.v vs ls)) (hp : Stb w [] (RdL sp.v prices)) (hso : setsOk n ls 8 = true) (h8 : ls.length ≤ 8) (hE : covE n ls 1000 = 0) (hP : possN n (msOf ls) = true) :
    Calls Tryz.prog 9 #[.int .i64 n, sv.v, sp.v, .int .i64 scale] w fun e w' => e = .returned (.bool true) ∧ Cl w [] [] w' := by
  by_cases h12 : 12 < wid (msOf ls)
  · exact lawBounds_wide n hn sv vs ls sp prices scale w hm hp hso h8 hE hP h12
  · exact lawBounds_yes n hn sv vs ls sp prices scale w hm hp hso h8 hE hP (by omega)
theorem lawBounds_no (n : Int) (sv : SlV) (vs : List SlV) (ls : List (List Int)) (sp : SlV) (prices : List Int) (scale : Int) (w : World) (hm : Stb w [] (fun w' => Mt w' sv.v vs ls)) (hso : setsOk n ls 8 = true) (h8 : ls.length ≤ 8) (hG : greedyE n ls ≠ 0) :
    Calls Tryz.prog 9 #[.int .i64 n, sv.v, sp.v, .int .i64 scale] w fun e w' => e = .returned (.bool true) ∧ Cl w [] [] w' := by
  have h1 := stb_map hm fun _ h => h.l
  have n1 := hm.here.n
  obtain ⟨k1, k2⟩ := setsOk_of hso
  refine calls_cw (vs := [_, _, _, _]) Tryz.func9 rfl Tryz.ntmps9 rfl (Cl.start0 w) (cw_seq (cw_region (sr rfl rfl rfl ((q_assign rfl rfl)) (sw_nil (post_then (cw_seq (cw_seq (cw_region (sr rfl rfl rfl ((q_move rfl rfl)) (sr rfl rfl rfl ((q_move rfl rfl)) (sw_step rfl rfl rfl (q_call (CanCall.mk Tryz.call33) rfl (.cons rfl inferInstance (.cons rfl inferInstance (.cons rfl inferInstance (.nil)))) (fun _ w hw => callq hw (sets_spec n sv vs ls 8 w (stb_arg hw hm)))) (sr rfl rfl rfl ((q_not rfl rfl)) (sr rfl rfl rfl ((q_move rfl rfl)) (sr rfl rfl rfl ((q_move rfl rfl)) ?_))))))))))))))
  first | refine sr rfl rfl rfl ((q_len rfl (.cons rfl inferInstance (.nil)) (by first | exact fun w hw => Stb.cl (by assumption) hw | exact fun w hw => rd_own hw (by first | assumption | (repeat first | exact .head _ | apply List.Mem.tail)) | assumption))) ?_ | refine sr rfl rfl rfl ((q_lenV rfl (.cons rfl inferInstance (.nil)))) ?_
  refine sr rfl rfl rfl ((q_gtr rfl rfl rfl)) (sr rfl rfl rfl ((q_or2 rfl rfl rfl)) (sr rfl rfl rfl ((q_move rfl rfl)) (sr rfl rfl rfl ((q_move rfl rfl)) (sr rfl rfl rfl ((q_move rfl rfl)) (sw_step rfl rfl rfl (q_call (CanCall.mk Tryz.call35) rfl (.cons rfl inferInstance (.cons rfl inferInstance (.nil))) (fun _ w hw => callq hw (needed_spec n k2 sv vs ls (.inl h8) w (stb_arg hw hm)))) (sr rfl rfl rfl ((q_neq rfl rfl rfl)) (sr rfl rfl rfl ((q_or2 rfl rfl rfl)) (sw_nil (post_then ?_)))))))))
  refine cw_cond rfl (fun h => ?_) (fun h => ?_)
  · skip
    refine cw_seq (cw_region (sw_step rfl rfl rfl (q_call (CanCall.mk Tryz.call18) rfl (.nil) (fun _ w hw => callq hw (known_spec w))) (sr rfl rfl rfl ((q_assign rfl rfl)) (sw_nil (post_then (cw_ret (post_then_r (post_ret1 rfl (resOk_tmp rfl) ?_))))))))
    exact fun w' hw => ⟨rfl, hw⟩
  · skip
    exfalso
    rw [hso] at h
    simp at h
    exact hG h.2
theorem lawBounds (n : Int) (sv : SlV) (vs : List SlV) (ls : List (List Int)) (sp : SlV) (prices : List Int) (scale : Int) (w : World) (hm : Stb w [] (fun w' => Mt w' sv.v vs ls)) (hp : Stb w [] (RdL sp.v prices)) :
    Calls Tryz.prog 9 #[.int .i64 n, sv.v, sp.v, .int .i64 scale] w fun e w' => e = .returned (.bool true) ∧ Cl w [] [] w' := by
  by_cases hso : setsOk n ls 8 = true ∧ ls.length ≤ 8
  · by_cases hG : greedyE n ls = 0
    · by_cases hE : covE n ls 1000 = 0
      · obtain ⟨m, rfl⟩ : ∃ m : Nat, n = m := ⟨n.toNat, by have := (covE_ok hE).2.2.1; omega⟩
        have hP : possN m (msOf ls) = true := by
          rw [greedyE_ok hE] at hG
          cases h : possN m (msOf ls)
          · rw [h] at hG; cases hG
          · rfl
        have hn : m ≤ 30 := by have := (setsOk_of hso.1).2; have := (covE_ok hE).1; omega
        exact lawBounds_some m hn sv vs ls sp prices scale w hm hp hso.1 hso.2 hE hP
      · rw [(greedyE_bad hE).1] at hG; exact absurd hG hE
    · exact lawBounds_no n sv vs ls sp prices scale w hm hso.1 hso.2 hG
  · exact lawBounds_out n sv vs ls sp prices scale w hm hso
end Go.Proofs.YtomjbfeafodfbaaGreat

set_option autoImplicit false
set_option maxRecDepth 100000
namespace Go.Proofs.YtomjbfeafodfbaaGreat
open Go.Sx
open Enc (enc val)
def shortB (s : ByteArray) : Bool := decide ((s.size : Int) ≤ 12)
theorem short_spec (s : ByteArray) (w : World) : Calls Tryz.prog 62 #[.string s] w fun e w' => e = .returned (.bool (shortB s)) ∧ Cl w [] [] w' := by
  refine calls_cw (vs := [_]) Tryz.func62 rfl Tryz.ntmps62 rfl (Cl.start0 w) (cw_seq (cw_region (sr rfl rfl rfl ((q_assign rfl rfl)) (sw_nil (post_then (cw_seq (cw_region (sr rfl rfl rfl ((q_move rfl rfl)) (sr rfl rfl rfl ((q_lenS rfl (.cons rfl inferInstance (.nil)) Tryz.underlying9)) (sr rfl rfl rfl ((q_leq rfl rfl rfl)) (sr rfl rfl rfl ((q_assign rfl rfl)) (sw_nil (post_then (cw_ret (post_ret1 rfl (resOk_tmp rfl) ?_)))))))))))))))
  exact fun w' hw => ⟨rfl, hw⟩
def smallU (u : Un) : Bool := shortB u.phone && shortB u.before && shortB u.after && decide (u.bl.length ≤ 50) && decide (u.el.length ≤ 50)
def smallT (t : Wan) : Bool := shortB t.phone && shortB t.before && shortB t.after
def sizesB (p : List Un) (tgt : List Wan) (mu mt : Int) : Bool := decide (((p.length : Int) ≤ mu ∨ 2000 < p.length) ∧ p.length ≤ 2100 ∧ ((tgt.length : Int) ≤ mt ∨ 500 < tgt.length) ∧ tgt.length ≤ 600)
def smallB (p : List Un) (tgt : List Wan) (mu mt : Int) : Bool := sizesB p tgt mu mt && p.all smallU && tgt.all smallT
structure VoIn (w : World) (sp : SlV) (p : List Un) : Prop where
  l : RdL sp.v p w
  u : ∀ u ∈ p, UnIn u w
theorem VoIn.stb {w : World} {sp : SlV} {p : List Un} (h : VoIn w sp p) : Stb w [] (fun w' => VoIn w' sp p) := ⟨fun w' k => ⟨(rd_stb h.l).stb w' k, fun u hu => ⟨(h.u u hu).s1, (h.u u hu).s2, (h.u u hu).s3, (rd_stb (h.u u hu).b).stb w' k, (rd_stb (h.u u hu).e).stb w' k⟩⟩⟩
theorem small_vo {w : World} {sp : SlV} {p : List Un} {tgt : List Wan} {mu mt : Int} (h : VoIn w sp p) (hs : smallB p tgt mu mt = true) : VoRd w sp p := by
  simp only [smallB, Bool.and_eq_true] at hs
  refine ⟨rd_stb h.l, fun u hu => ?_⟩
  have h1 := List.all_eq_true.1 hs.1.2 u hu
  simp only [smallU, shortB, Bool.and_eq_true, decide_eq_true_eq] at h1
  have h2 := h.u u hu
  exact ⟨by omega, by omega, by omega, rd_stb h2.b, rd_stb h2.e⟩
theorem small_ta {p : List Un} {tgt : List Wan} {mu mt : Int} (hs : smallB p tgt mu mt = true) : ∀ t ∈ tgt, WaRd t := by
  simp only [smallB, Bool.and_eq_true] at hs
  intro t ht
  have h1 := List.all_eq_true.1 hs.2 t ht
  simp only [smallT, shortB, Bool.and_eq_true, decide_eq_true_eq] at h1
  exact ⟨by omega, by omega, by omega⟩
theorem small_n {p : List Un} {tgt : List Wan} {mu mt : Int} (hs : smallB p tgt mu mt = true) : ((p.length : Int) ≤ mu ∨ 2000 < p.length) ∧ ((tgt.length : Int) ≤ mt ∨ 500 < tgt.length) ∧ p.length ≤ 2100 ∧ tgt.length ≤ 600 := by
  simp only [smallB, sizesB, Bool.and_eq_true, decide_eq_true_eq] at hs
  exact ⟨hs.1.1.1, hs.1.1.2.2.1, hs.1.1.2.1, hs.1.1.2.2.2⟩
theorem small_spec (sp tp : SlV) (p : List Un) (tgt : List Wan) (mu mt : Int) (w : World) (hvo : VoIn w sp p) (htp : Stb w [] (RdL tp.v tgt)) : Calls Tryz.prog 17 #[sp.v, tp.v, .int .i64 mu, .int .i64 mt] w fun e w' => e = .returned (.bool (smallB p tgt mu mt)) ∧ Cl w [] [] w' := by
  have h1 : Stb w [] (RdL sp.v p) := rd_stb hvo.l
  have hL := rd_len hvo.l
  have hL2 := rd_len htp.here
  refine calls_cw (vs := [_, _, _, _]) Tryz.func17 rfl Tryz.ntmps17 rfl (Cl.start0 w) (cw_seq (cw_region (sr rfl rfl rfl ((q_assign rfl rfl)) (sw_nil (post_then (cw_seq (cw_seq (cw_region (sr rfl rfl rfl ((q_move rfl rfl)) ?_)))))))))
  refine sr rfl rfl rfl ((q_len rfl (.cons rfl inferInstance (.nil)) (by exact fun w hw => Stb.cl (by assumption) hw))) ?_
  refine sr rfl rfl rfl ((q_move rfl rfl)) (sr rfl rfl rfl ((q_gtr rfl rfl rfl)) (sr rfl rfl rfl ((q_move rfl rfl)) (sr rfl rfl rfl ((q_move rfl rfl)) ?_)))
  refine sr rfl rfl rfl ((q_len rfl (.cons rfl inferInstance (.nil)) (by exact fun w hw => Stb.cl (by assumption) hw))) ?_
  refine sr rfl rfl rfl ((q_leq rfl rfl rfl)) (sr rfl rfl rfl ((q_and2 rfl rfl rfl)) (sr rfl rfl rfl ((q_move rfl rfl)) (sr rfl rfl rfl ((q_move rfl rfl)) ?_)))
  refine sr rfl rfl rfl ((q_len rfl (.cons rfl inferInstance (.nil)) (by exact fun w hw => Stb.cl (by assumption) hw))) ?_
  refine sr rfl rfl rfl ((q_gtr rfl rfl rfl)) (sr rfl rfl rfl ((q_or2 rfl rfl rfl)) (sr rfl rfl rfl ((q_move rfl rfl)) (sr rfl rfl rfl ((q_move rfl rfl)) ?_)))
  refine sr rfl rfl rfl ((q_len rfl (.cons rfl inferInstance (.nil)) (by exact fun w hw => Stb.cl (by assumption) hw))) ?_
  refine sr rfl rfl rfl ((q_move rfl rfl)) (sr rfl rfl rfl ((q_gtr rfl rfl rfl)) (sr rfl rfl rfl ((q_move rfl rfl)) (sr rfl rfl rfl ((q_move rfl rfl)) ?_)))
  refine sr rfl rfl rfl ((q_len rfl (.cons rfl inferInstance (.nil)) (by exact fun w hw => Stb.cl (by assumption) hw))) ?_
  refine sr rfl rfl rfl ((q_leq rfl rfl rfl)) (sr rfl rfl rfl ((q_and2 rfl rfl rfl)) (sr rfl rfl rfl ((q_or2 rfl rfl rfl)) (sr rfl rfl rfl ((q_move rfl rfl)) (sr rfl rfl rfl ((q_move rfl rfl)) ?_))))
  refine sr rfl rfl rfl ((q_len rfl (.cons rfl inferInstance (.nil)) (by exact fun w hw => Stb.cl (by assumption) hw))) ?_
  refine sr rfl rfl rfl ((q_gtr rfl rfl rfl)) (sr rfl rfl rfl ((q_or2 rfl rfl rfl)) (sw_nil (post_then ?_)))
  refine cw_cond rfl (fun h => ?_) (fun h => ?_)
  · skip
    have h2 : sizesB p tgt mu mt = false := by
      simp only [sizesB, decide_eq_false_iff_not]
      simp only [Bool.or_eq_true, Bool.and_eq_true, decide_eq_true_eq] at h
      omega
    refine cw_seq (cw_region (sr rfl rfl rfl ((q_assign rfl rfl)) (sw_nil (post_then (cw_ret (post_then_r (post_ret1 rfl (resOk_tmp rfl) ?_)))))))
    exact fun w' hw => ⟨by rw [smallB, h2]; rfl, hw⟩
  · skip
    have h2 : sizesB p tgt mu mt = true := by
      simp only [sizesB, decide_eq_true_eq]
      simp only [Bool.or_eq_false_iff, Bool.and_eq_false_iff, decide_eq_false_iff_not] at h
      omega
    have hno : ∀ {b : Bool}, b = false → (sizesB p tgt mu mt && p.all smallU && b) = false := fun h => by rw [h, Bool.and_false]
    refine cw_skip (post_then (cw_seq (cw_seq (cw_region (sr rfl rfl rfl ((q_assign rfl rfl)) (sw_nil (post_then (cw_block ?_))))))))
    refine cw_loop (S := Nat) (fun k => [(0, [], sp.v), (1, [], tp.v), (9, [], .int .i64 k)]) (fun _ => Cl w [] []) (fun k => k ≤ p.length ∧ ∀ j, j < k → smallU (nth p j) = true) (fun k => p.length - k) 0 ⟨Nat.zero_le _, fun j hj => by omega⟩ (by exact .cons rfl (.cons rfl (.cons rfl .nil))) (fun _ h => h) ?_
    rintro k ⟨hk, he⟩
    refine cw_seq (cw_seq (cw_region (sr rfl rfl rfl ((q_move rfl rfl)) (sr rfl rfl rfl ((q_move rfl rfl)) ?_))))
    refine sr rfl rfl rfl ((q_len rfl (.cons rfl inferInstance (.nil)) (by exact fun w hw => Stb.cl (by assumption) hw))) ?_
    refine sr rfl rfl rfl ((q_lss rfl rfl rfl)) (sw_nil (post_then ?_))
    refine cw_cond rfl (fun h3 => ?_) (fun h3 => ?_)
    · skip
      have hk' : k < p.length := by simp only [decide_eq_true_eq] at h3; omega
      have hin := hvo.u _ (nth_mem hk')
      have l1 : (nth p k).bs.len = (nth p k).bl.length := (rd_lens hin.b).1
      have l2 : (nth p k).es.len = (nth p k).el.length := (rd_lens hin.e).1
      refine cw_skip (post_then (cw_seq (cw_block (cw_seq (cw_region (sr rfl rfl rfl ((q_move rfl rfl)) (sr rfl rfl rfl ((q_move rfl rfl)) ?_)))))))
      refine sr rfl rfl rfl ((q_indexN rfl rfl rfl (by exact fun w hw => Stb.cl (by assumption) hw) (by intro hc; omega))) ?_
      refine sr rfl rfl rfl ((q_loadEl rfl rfl rfl (by exact fun w hw => Stb.cl (by assumption) hw) (by intro hc; omega))) ?_
      refine sw_x rfl rfl rfl (e_alloc rfl) (fun b10 => ?_)
      refine sw_eff0 rfl rfl (e_store (i := 0) rfl rfl rfl rfl rfl rfl rfl rfl) (sw_nil (post_then (cw_seq (cw_region (sr rfl rfl rfl ((q_fieldAddr rfl rfl)) ?_)))))
      refine sr rfl rfl rfl ((q_loadC rfl rfl (by exact .head _) rfl)) ?_
      refine sw_step rfl rfl rfl (q_call (CanCall.mk Tryz.call62) rfl (.cons rfl inferInstance (.nil)) (fun _ w hw => callq hw (short_spec _ w))) (sr rfl rfl rfl ((q_not rfl rfl)) (sr rfl rfl rfl ((q_move rfl rfl)) (sr rfl rfl rfl ((q_fieldAddr rfl rfl)) ?_)))
      refine sr rfl rfl rfl ((q_loadC rfl rfl (by exact .head _) rfl)) ?_
      refine sw_step rfl rfl rfl (q_call (CanCall.mk Tryz.call62) rfl (.cons rfl inferInstance (.nil)) (fun _ w hw => callq hw (short_spec _ w))) (sr rfl rfl rfl ((q_not rfl rfl)) (sr rfl rfl rfl ((q_or2 rfl rfl rfl)) (sr rfl rfl rfl ((q_move rfl rfl)) (sr rfl rfl rfl ((q_fieldAddr rfl rfl)) ?_))))
      refine sr rfl rfl rfl ((q_loadC rfl rfl (by exact .head _) rfl)) ?_
      refine sw_step rfl rfl rfl (q_call (CanCall.mk Tryz.call62) rfl (.cons rfl inferInstance (.nil)) (fun _ w hw => callq hw (short_spec _ w))) (sr rfl rfl rfl ((q_not rfl rfl)) (sr rfl rfl rfl ((q_or2 rfl rfl rfl)) (sr rfl rfl rfl ((q_move rfl rfl)) (sr rfl rfl rfl ((q_fieldAddr rfl rfl)) ?_))))
      refine sr rfl rfl rfl ((q_loadC rfl rfl (by exact .head _) rfl)) ?_
      refine sr rfl rfl rfl ((q_lenV rfl (.cons rfl inferInstance (.nil)))) (sr rfl rfl rfl ((q_gtr rfl rfl rfl)) (sr rfl rfl rfl ((q_or2 rfl rfl rfl)) (sr rfl rfl rfl ((q_move rfl rfl)) (sr rfl rfl rfl ((q_fieldAddr rfl rfl)) ?_))))
      refine sr rfl rfl rfl ((q_loadC rfl rfl (by exact .head _) rfl)) ?_
      refine sr rfl rfl rfl ((q_lenV rfl (.cons rfl inferInstance (.nil)))) (sr rfl rfl rfl ((q_gtr rfl rfl rfl)) (sr rfl rfl rfl ((q_or2 rfl rfl rfl)) (sw_nil (post_then ?_))))
      rw [l1, l2]
      refine cw_cond rfl (fun h4 => ?_) (fun h4 => ?_)
      · skip
        have h5 : smallU (nth p k) = false := by
          simp only [Bool.or_eq_true, Bool.not_eq_true', decide_eq_true_eq] at h4
          simp only [smallU, Bool.and_eq_false_iff, decide_eq_false_iff_not]
          rcases h4 with (((h4 | h4) | h4) | h4) | h4
          · exact .inl (.inl (.inl (.inl h4)))
          · exact .inl (.inl (.inl (.inr h4)))
          · exact .inl (.inl (.inr h4))
          · exact .inl (.inr (by omega))
          · exact .inr (by omega)
        have h6 : p.all smallU = false := List.all_eq_false.2 ⟨nth p k, nth_mem hk', by rw [h5]; decide⟩
        refine cw_seq (cw_region (sr rfl rfl rfl ((q_assign rfl rfl)) (sw_nil (post_then (cw_ret (post_blk_r (post_then_r (post_then_r (post_blk_r (post_then_r (post_ret1 rfl (resOk_tmp rfl) ?_)))))))))))
        exact fun w' hw => ⟨by rw [smallB, h6, Bool.and_false]; rfl, (fun w h => Cl.sel (by exact .nil _) w h) _ hw⟩
      · skip
        have h5 : smallU (nth p k) = true := by
          simp only [Bool.or_eq_false_iff, Bool.not_eq_false', decide_eq_false_iff_not] at h4
          obtain ⟨⟨⟨⟨a1, a2⟩, a3⟩, a4⟩, a5⟩ := h4
          simp only [smallU, a1, a2, a3, Bool.and_eq_true, decide_eq_true_eq, true_and]
          omega
        refine cw_skip (post_blk (post_then (cw_region (sr rfl rfl rfl ((q_move rfl rfl)) ?_))))
        refine sr rfl rfl rfl ((q_add rfl rfl rfl (by intro hc; omega))) ?_
        refine sr rfl rfl rfl ((q_assign rfl rfl)) (sw_nil ?_)
        refine post_next (k + 1) (by exact .cons rfl (.cons rfl (.cons rfl .nil))) (fun w h => Cl.sel (by exact .nil _) w h) ⟨by omega, fun j hj => ?_⟩ (by omega)
        by_cases e : j = k
        · subst e; exact h5
        · exact he j (by omega)
    · skip
      have hk' : k = p.length := by simp only [decide_eq_false_iff_not] at h3; omega
      subst hk'
      have h6 : p.all smallU = true := List.all_eq_true.2 fun u hu => by
        obtain ⟨j, hj, rfl⟩ := List.getElem_of_mem hu
        have := he j hj
        rwa [nth_get hj] at this
      refine cw_exit (post_then_x (post_then_x (post_blk_eq (post_then (cw_seq (cw_seq (cw_region (sr rfl rfl rfl ((q_assign rfl rfl)) (sw_nil (post_then (cw_block ?_)))))))))))
      refine cw_loop (S := Nat) (fun k => [(1, [], tp.v), (11, [], .int .i64 k)]) (fun _ => Cl w [] []) (fun k => k ≤ tgt.length ∧ ∀ j, j < k → smallT (nth tgt j) = true) (fun k => tgt.length - k) 0 ⟨Nat.zero_le _, fun j hj => by omega⟩ (by exact .cons rfl (.cons rfl .nil)) (fun _ h => h) ?_
      rintro k ⟨hk, he2⟩
      refine cw_seq (cw_seq (cw_region (sr rfl rfl rfl ((q_move rfl rfl)) (sr rfl rfl rfl ((q_move rfl rfl)) ?_))))
      refine sr rfl rfl rfl ((q_len rfl (.cons rfl inferInstance (.nil)) (by exact fun w hw => Stb.cl (by assumption) hw))) ?_
      refine sr rfl rfl rfl ((q_lss rfl rfl rfl)) (sw_nil (post_then ?_))
      refine cw_cond rfl (fun h4 => ?_) (fun h4 => ?_)
      · skip
        have hk' : k < tgt.length := by simp only [decide_eq_true_eq] at h4; omega
        refine cw_skip (post_then (cw_seq (cw_block (cw_seq (cw_region (sr rfl rfl rfl ((q_move rfl rfl)) (sr rfl rfl rfl ((q_move rfl rfl)) ?_)))))))
        refine sr rfl rfl rfl ((q_indexN rfl rfl rfl (by exact fun w hw => Stb.cl (by assumption) hw) (by intro hc; omega))) ?_
        refine sr rfl rfl rfl ((q_fieldEl rfl rfl (by exact fun w hw => Stb.cl (by assumption) hw) (by intro hc; omega))) ?_
        refine sr rfl rfl rfl ((q_loadF rfl rfl rfl (by exact fun w hw => Stb.cl (by assumption) hw) (by intro hc; omega) rfl)) ?_
        refine sw_step rfl rfl rfl (q_call (CanCall.mk Tryz.call62) rfl (.cons rfl inferInstance (.nil)) (fun _ w hw => callq hw (short_spec _ w))) (sr rfl rfl rfl ((q_not rfl rfl)) (sr rfl rfl rfl ((q_move rfl rfl)) (sr rfl rfl rfl ((q_move rfl rfl)) (sr rfl rfl rfl ((q_move rfl rfl)) ?_))))
        refine sr rfl rfl rfl ((q_indexN rfl rfl rfl (by exact fun w hw => Stb.cl (by assumption) hw) (by intro hc; omega))) ?_
        refine sr rfl rfl rfl ((q_fieldEl rfl rfl (by exact fun w hw => Stb.cl (by assumption) hw) (by intro hc; omega))) ?_
        refine sr rfl rfl rfl ((q_loadF rfl rfl rfl (by exact fun w hw => Stb.cl (by assumption) hw) (by intro hc; omega) rfl)) ?_
        refine sw_step rfl rfl rfl (q_call (CanCall.mk Tryz.call62) rfl (.cons rfl inferInstance (.nil)) (fun _ w hw => callq hw (short_spec _ w))) (sr rfl rfl rfl ((q_not rfl rfl)) (sr rfl rfl rfl ((q_or2 rfl rfl rfl)) (sr rfl rfl rfl ((q_move rfl rfl)) (sr rfl rfl rfl ((q_move rfl rfl)) (sr rfl rfl rfl ((q_move rfl rfl)) ?_)))))
        refine sr rfl rfl rfl ((q_indexN rfl rfl rfl (by exact fun w hw => Stb.cl (by assumption) hw) (by intro hc; omega))) ?_
        refine sr rfl rfl rfl ((q_fieldEl rfl rfl (by exact fun w hw => Stb.cl (by assumption) hw) (by intro hc; omega))) ?_
        refine sr rfl rfl rfl ((q_loadF rfl rfl rfl (by exact fun w hw => Stb.cl (by assumption) hw) (by intro hc; omega) rfl)) ?_
        refine sw_step rfl rfl rfl (q_call (CanCall.mk Tryz.call62) rfl (.cons rfl inferInstance (.nil)) (fun _ w hw => callq hw (short_spec _ w))) (sr rfl rfl rfl ((q_not rfl rfl)) (sr rfl rfl rfl ((q_or2 rfl rfl rfl)) (sw_nil (post_then ?_))))
        refine cw_cond rfl (fun h5 => ?_) (fun h5 => ?_)
        · skip
          have h7 : smallT (nth tgt k) = false := by
            simp only [Bool.or_eq_true, Bool.not_eq_true'] at h5
            simp only [smallT, Bool.and_eq_false_iff]
            exact h5
          have h8 : tgt.all smallT = false := List.all_eq_false.2 ⟨nth tgt k, nth_mem hk', by rw [h7]; decide⟩
          refine cw_seq (cw_region (sr rfl rfl rfl ((q_assign rfl rfl)) (sw_nil (post_then (cw_ret (post_blk_r (post_then_r (post_then_r (post_blk_r (post_then_r (post_ret1 rfl (resOk_tmp rfl) ?_)))))))))))
          exact fun w' hw => ⟨by rw [smallB, h8, Bool.and_false], (fun w h => Cl.sel (by exact .nil _) w h) _ hw⟩
        · skip
          have h7 : smallT (nth tgt k) = true := by
            simp only [Bool.or_eq_false_iff, Bool.not_eq_false'] at h5
            simp only [smallT, Bool.and_eq_true]
            exact h5
          refine cw_skip (post_blk (post_then (cw_region (sr rfl rfl rfl ((q_move rfl rfl)) ?_))))
          refine sr rfl rfl rfl ((q_add rfl rfl rfl (by intro hc; omega))) ?_
          refine sr rfl rfl rfl ((q_assign rfl rfl)) (sw_nil ?_)
          refine post_next (k + 1) (by exact .cons rfl (.cons rfl .nil)) (fun w h => Cl.sel (by exact .nil _) w h) ⟨by omega, fun j hj => ?_⟩ (by omega)
          by_cases e : j = k
          · subst e; exact h7
          · exact he2 j (by omega)
      · skip
        have hk' : k = tgt.length := by simp only [decide_eq_false_iff_not] at h4; omega
        subst hk'
        have h8 : tgt.all smallT = true := List.all_eq_true.2 fun u hu => by
          obtain ⟨j, hj, rfl⟩ := List.getElem_of_mem hu
          have := he2 j hj
          rwa [nth_get hj] at this
        refine cw_exit (post_then_x (post_then_x (post_blk_eq (post_then (cw_seq (cw_region (sr rfl rfl rfl ((q_assign rfl rfl)) (sw_nil (post_then (cw_ret (post_ret1 rfl (resOk_tmp rfl) ?_)))))))))))
        exact fun w' hw => ⟨by rw [smallB, h2, h6, h8]; rfl, hw⟩
theorem refAll_spec (tp : SlV) (tgt : List Wan) (w : World) (htp : Stb w [] (RdL tp.v tgt)) (hwa : ∀ t ∈ tgt, WaRd t) : Calls Tryz.prog 68 #[tp.v] w fun e w' => e = .returned (.bool (tgt.all waB)) ∧ Cl w [] [] w' := by
  have hL2 := rd_len htp.here
  refine calls_cw (vs := [_]) Tryz.func68 rfl Tryz.ntmps68 rfl (Cl.start0 w) (cw_seq (cw_region (sr rfl rfl rfl ((q_assign rfl rfl)) (sw_nil (post_then (cw_seq (cw_seq (cw_region (sr rfl rfl rfl ((q_assign rfl rfl)) (sw_nil (post_then (cw_block ?_))))))))))))
  refine cw_loop (S := Nat) (fun k => [(0, [], tp.v), (3, [], .int .i64 k)]) (fun _ => Cl w [] []) (fun k => k ≤ tgt.length ∧ ∀ j, j < k → waB (nth tgt j) = true) (fun k => tgt.length - k) 0 ⟨Nat.zero_le _, fun j hj => by omega⟩ (by exact .cons rfl (.cons rfl .nil)) (fun _ h => h) ?_
  rintro k ⟨hk, he⟩
  refine cw_seq (cw_seq (cw_region (sr rfl rfl rfl ((q_move rfl rfl)) (sr rfl rfl rfl ((q_move rfl rfl)) ?_))))
  refine sr rfl rfl rfl ((q_len rfl (.cons rfl inferInstance (.nil)) (by exact fun w hw => Stb.cl (by assumption) hw))) ?_
  refine sr rfl rfl rfl ((q_lss rfl rfl rfl)) (sw_nil (post_then ?_))
  refine cw_cond rfl (fun h => ?_) (fun h => ?_)
  · skip
    have hk' : k < tgt.length := by simp only [decide_eq_true_eq] at h; omega
    have hwk := hwa _ (nth_mem hk')
    refine cw_skip (post_then (cw_seq (cw_block (cw_seq (cw_region (sr rfl rfl rfl ((q_move rfl rfl)) (sr rfl rfl rfl ((q_move rfl rfl)) ?_)))))))
    refine sr rfl rfl rfl ((q_indexN rfl rfl rfl (by exact fun w hw => Stb.cl (by assumption) hw) (by intro hc; omega))) ?_
    refine sr rfl rfl rfl ((q_loadEl rfl rfl rfl (by exact fun w hw => Stb.cl (by assumption) hw) (by intro hc; omega))) ?_
    refine sw_step rfl rfl rfl (q_call (CanCall.mk Tryz.call47) rfl (.cons rfl inferInstance (.nil)) (fun _ w hw => callq hw (refWanted_spec (nth tgt k) w hwk))) (sr rfl rfl rfl ((q_not rfl rfl)) (sw_nil (post_then ?_)))
    refine cw_cond rfl (fun h2 => ?_) (fun h2 => ?_)
    · skip
      have h3 : tgt.all waB = false := List.all_eq_false.2 ⟨nth tgt k, nth_mem hk', by simpa using h2⟩
      refine cw_seq (cw_region (sr rfl rfl rfl ((q_assign rfl rfl)) (sw_nil (post_then (cw_ret (post_blk_r (post_then_r (post_then_r (post_blk_r (post_then_r (post_ret1 rfl (resOk_tmp rfl) ?_)))))))))))
      exact fun w' hw => ⟨by rw [h3], hw⟩
    · skip
      refine cw_skip (post_blk (post_then (cw_region (sr rfl rfl rfl ((q_move rfl rfl)) ?_))))
      refine sr rfl rfl rfl ((q_add rfl rfl rfl (by intro hc; omega))) ?_
      refine sr rfl rfl rfl ((q_assign rfl rfl)) (sw_nil ?_)
      refine post_next (k + 1) (by exact .cons rfl (.cons rfl .nil)) (fun _ h => h) ⟨by omega, fun j hj => ?_⟩ (by omega)
      by_cases e : j = k
      · subst e; simpa using h2
      · exact he j (by omega)
  · skip
    have hk' : k = tgt.length := by simp only [decide_eq_false_iff_not] at h; omega
    subst hk'
    have h3 : tgt.all waB = true := List.all_eq_true.2 fun u hu => by
      obtain ⟨j, hj, rfl⟩ := List.getElem_of_mem hu
      have := he j hj
      rwa [nth_get hj] at this
    refine cw_exit (post_then_x (post_then_x (post_blk_eq (post_then (cw_seq (cw_region (sr rfl rfl rfl ((q_assign rfl rfl)) (sw_nil (post_then (cw_ret (post_ret1 rfl (resOk_tmp rfl) ?_)))))))))))
    exact fun w' hw => ⟨by rw [h3], hw⟩
theorem wrong_spec (sp tp : SlV) (p : List Un) (tgt : List Wan) (x : Wts) (w : World) (hvo : VoRd w sp p) (htp : Stb w [] (RdL tp.v tgt)) (hwa : ∀ t ∈ tgt, WaRd t) : Calls Tryz.prog 20 #[sp.v, tp.v, val x] w fun e w' => e = .returned (.int .i64 (beginE p tgt x)) ∧ Cl w [] [] w' := by
  have h1 := hvo.l
  refine calls_cw (vs := [_, _, _]) Tryz.func20 rfl Tryz.ntmps20 rfl (Cl.start0 w) (cw_seq (cw_region ?_))
  refine sw_x rfl rfl rfl (e_box rfl rfl rfl) (fun b5 => ?_)
  refine sr rfl rfl rfl ((q_assign rfl rfl)) (sw_nil (post_then (cw_seq (cw_seq (cw_region (sr rfl rfl rfl ((q_move rfl rfl)) ?_))))))
  refine sr rfl rfl rfl ((q_len rfl (.cons rfl inferInstance (.nil)) (by exact fun w hw => Stb.cl (by assumption) hw))) ?_
  refine sr rfl rfl rfl ((q_gtr rfl rfl rfl)) (sr rfl rfl rfl ((q_move rfl rfl)) (sr rfl rfl rfl ((q_move rfl rfl)) ?_))
  refine sr rfl rfl rfl ((q_len rfl (.cons rfl inferInstance (.nil)) (by exact fun w hw => Stb.cl (by assumption) hw))) ?_
  refine sr rfl rfl rfl ((q_gtr rfl rfl rfl)) (sr rfl rfl rfl ((q_or2 rfl rfl rfl)) (sw_nil (post_then ?_)))
  refine cw_cond rfl (fun h => ?_) (fun h => ?_)
  · skip
    have h2 : 2000 < p.length ∨ 500 < tgt.length := by
      simp only [Bool.or_eq_true, decide_eq_true_eq] at h; omega
    refine cw_seq (cw_region (sr rfl rfl rfl ((q_assign rfl rfl)) (sw_nil (post_then (cw_ret (post_then_r (post_ret1 rfl (resOk_tmp rfl) ?_)))))))
    exact fun w' hw => ⟨by rw [beginE, if_pos h2], (fun w h => Cl.sel (by exact .nil _) w h) _ hw⟩
  · skip
    have h2 : ¬ (2000 < p.length ∨ 500 < tgt.length) := by
      simp only [Bool.or_eq_false_iff, decide_eq_false_iff_not] at h; omega
    refine cw_skip (post_then (cw_seq (cw_seq (cw_region (sr rfl rfl rfl ((q_move rfl rfl)) (sw_step rfl rfl rfl (q_call (CanCall.mk Tryz.call28) rfl (.cons rfl inferInstance (.nil)) (fun _ w hw => callq hw (refVoice_spec sp p w (hvo.arg hw)))) (sr rfl rfl rfl ((q_not rfl rfl)) (sr rfl rfl rfl ((q_move rfl rfl)) (sr rfl rfl rfl ((q_move rfl rfl)) (sw_step rfl rfl rfl (q_call (CanCall.mk Tryz.call68) rfl (.cons rfl inferInstance (.nil)) (fun _ w hw => callq hw (refAll_spec tp tgt w (stb_arg hw htp) hwa))) (sr rfl rfl rfl ((q_not rfl rfl)) (sr rfl rfl rfl ((q_or2 rfl rfl rfl)) (sr rfl rfl rfl ((q_move rfl rfl)) ?_)))))))))))))
    refine sr rfl rfl rfl ((q_loadA rfl rfl (by exact .head _) rfl)) ?_
    refine sw_step rfl rfl rfl (q_call (CanCall.mk Tryz.call48) rfl (.cons rfl inferInstance (.nil)) (fun _ w hw => callq hw (refWeights_spec x w))) (sr rfl rfl rfl ((q_not rfl rfl)) (sr rfl rfl rfl ((q_or2 rfl rfl rfl)) (sw_nil (post_then ?_))))
    refine cw_cond rfl (fun h3 => ?_) (fun h3 => ?_)
    · skip
      have h4 : (voiceB p && tgt.all waB && wtB x) = false := by
        simp only [Bool.or_eq_true, Bool.not_eq_true'] at h3
        simp only [Bool.and_eq_false_iff]; exact h3
      refine cw_seq (cw_region (sr rfl rfl rfl ((q_assign rfl rfl)) (sw_nil (post_then (cw_ret (post_then_r (post_ret1 rfl (resOk_tmp rfl) ?_)))))))
      exact fun w' hw => ⟨by rw [beginE, if_neg h2, h4]; rfl, (fun w h => Cl.sel (by exact .nil _) w h) _ hw⟩
    · skip
      have h4 : (voiceB p && tgt.all waB && wtB x) = true := by
        simp only [Bool.or_eq_false_iff, Bool.not_eq_false'] at h3
        simp only [Bool.and_eq_true]; exact h3
      refine cw_skip (post_then (cw_seq (cw_region (sr rfl rfl rfl ((q_assign rfl rfl)) (sw_nil (post_then (cw_ret (post_ret1 rfl (resOk_tmp rfl) ?_))))))))
      exact fun w' hw => ⟨by rw [beginE, if_neg h2, h4]; rfl, (fun w h => Cl.sel (by exact .nil _) w h) _ hw⟩
end Go.Proofs.YtomjbfeafodfbaaGreat

set_option autoImplicit false
set_option maxRecDepth 100000
namespace Go.Proofs.YtomjbfeafodfbaaGreat
open Go.Sx
open Enc (enc val)
def tgtOk (u : Un) (t : Wan) (x : Wts) : Bool := unB u && waB t && wtB x
def tgtN (u : Un) (t : Wan) (x : Wts) : Int := if tgtOk u t x = true ∧ u.phone = t.phone then fitC x u t else 0
def tgtE (u : Un) (t : Wan) (x : Wts) : Int := if tgtOk u t x = true then (if u.phone = t.phone then 0 else 5) else 2
theorem tgtOk_of {u : Un} {t : Wan} {x : Wts} (h : tgtOk u t x = true) : UnOk u ∧ WaOk t ∧ WtOk x := by
  simp only [tgtOk, Bool.and_eq_true] at h
  exact ⟨un_ok h.1.1, wa_ok h.1.2, wt_ok h.2⟩
theorem target_spec (u : Un) (t : Wan) (x : Wts) (w : World) (hu : UnRd w u) (ht : WaRd t) : Calls Tryz.prog 45 #[val u, val t, val x] w fun e w' => e = .returned (.tuple #[.int .i64 (tgtN u t x), .int .i64 (tgtE u t x)]) ∧ Cl w [] [] w' := by
  refine calls_cw (vs := [_, _, _]) Tryz.func45 rfl Tryz.ntmps45 rfl (Cl.start0 w) (cw_seq (cw_region ?_))
  refine sw_x rfl rfl rfl (e_box rfl rfl rfl) (fun b3 => ?_)
  refine sw_x rfl rfl rfl (e_box rfl rfl rfl) (fun b4 => ?_)
  refine sw_x rfl rfl rfl (e_box rfl rfl rfl) (fun b5 => ?_)
  refine sr rfl rfl rfl ((q_assign rfl rfl)) (sr rfl rfl rfl ((q_assign rfl rfl)) (sw_nil (post_then (cw_seq (cw_seq (cw_region ?_))))))
  refine sr rfl rfl rfl ((q_loadA rfl rfl (by exact .tail _ (.tail _ (.head _))) rfl)) ?_
  refine sw_step rfl rfl rfl (q_call (CanCall.mk Tryz.call87) rfl (.cons rfl inferInstance (.nil)) (fun _ w hw => callq hw (right_spec u w (UnRd.arg hw hu)))) (sr rfl rfl rfl ((q_not rfl rfl)) (sr rfl rfl rfl ((q_move rfl rfl)) ?_))
  refine sr rfl rfl rfl ((q_loadA rfl rfl (by exact .tail _ (.head _)) rfl)) ?_
  refine sw_step rfl rfl rfl (q_call (CanCall.mk Tryz.call88) rfl (.cons rfl inferInstance (.nil)) (fun _ w hw => callq hw (wanted_spec t w ht))) (sr rfl rfl rfl ((q_not rfl rfl)) (sr rfl rfl rfl ((q_or2 rfl rfl rfl)) (sr rfl rfl rfl ((q_move rfl rfl)) ?_)))
  refine sr rfl rfl rfl ((q_loadA rfl rfl (by exact .head _) rfl)) ?_
  refine sw_step rfl rfl rfl (q_call (CanCall.mk Tryz.call89) rfl (.cons rfl inferInstance (.nil)) (fun _ w hw => callq hw (weights_spec x w))) (sr rfl rfl rfl ((q_not rfl rfl)) (sr rfl rfl rfl ((q_or2 rfl rfl rfl)) (sw_nil (post_then ?_))))
  refine cw_cond rfl (fun h => ?_) (fun h => ?_)
  · skip
    have h1 : ¬ tgtOk u t x = true := by
      simp only [tgtOk, Bool.and_eq_true]
      simp only [Bool.or_eq_true, Bool.not_eq_true'] at h
      rintro ⟨⟨a1, a2⟩, a3⟩
      rw [a1, a2, a3] at h; simp at h
    refine cw_seq (cw_region (sr rfl rfl rfl ((q_assign rfl rfl)) (sr rfl rfl rfl ((q_assign rfl rfl)) (sw_nil (post_then (cw_ret (post_then_r (post_ret2 rfl (resOk_tmp rfl) (resOk_tmp rfl) ?_))))))))
    refine fun w' hw => ⟨?_, (fun w h => Cl.sel (by exact .nil _) w h) _ hw⟩
    rw [tgtN, tgtE, if_neg (fun h => h1 h.1), if_neg h1]
  · skip
    have h1 : tgtOk u t x = true := by
      simp only [tgtOk, Bool.and_eq_true]
      simp only [Bool.or_eq_false_iff, Bool.not_eq_false'] at h
      exact h
    obtain ⟨o1, o2, o3⟩ := tgtOk_of h1
    refine cw_skip (post_then (cw_seq (cw_seq (cw_region (sr rfl rfl rfl ((q_fieldAddr rfl rfl)) ?_)))))
    refine sr rfl rfl rfl ((q_loadC rfl rfl (by exact .tail _ (.tail _ (.head _))) rfl)) ?_
    refine sr rfl rfl rfl ((q_fieldAddr rfl rfl)) ?_
    refine sr rfl rfl rfl ((q_loadC rfl rfl (by exact .tail _ (.head _)) rfl)) ?_
    refine sr rfl rfl rfl ((q_neqStr rfl rfl rfl Tryz.underlying9)) (sw_nil (post_then ?_))
    refine cw_cond rfl (fun h2 => ?_) (fun h2 => ?_)
    · skip
      have h3 : ¬ u.phone = t.phone := by simpa using h2
      refine cw_seq (cw_region (sr rfl rfl rfl ((q_assign rfl rfl)) (sr rfl rfl rfl ((q_assign rfl rfl)) (sw_nil (post_then (cw_ret (post_then_r (post_ret2 rfl (resOk_tmp rfl) (resOk_tmp rfl) ?_))))))))
      refine fun w' hw => ⟨?_, (fun w h => Cl.sel (by exact .nil _) w h) _ hw⟩
      rw [tgtN, tgtE, if_neg (fun h => h3 h.2), if_pos h1, if_neg h3]
    · skip
      have h3 : u.phone = t.phone := by simpa using h2
      refine cw_skip (post_then (cw_seq (cw_region ?_)))
      refine sr rfl rfl rfl ((q_loadA rfl rfl (by exact .tail _ (.tail _ (.head _))) rfl)) ?_
      refine sr rfl rfl rfl ((q_loadA rfl rfl (by exact .tail _ (.head _)) rfl)) ?_
      refine sr rfl rfl rfl ((q_loadA rfl rfl (by exact .head _) rfl)) ?_
      refine sw_step rfl rfl rfl (q_call (CanCall.mk Tryz.call90) rfl (.cons rfl inferInstance (.cons rfl inferInstance (.cons rfl inferInstance (.nil)))) (fun _ w hw => callq hw (fitting_spec u t x w o1 o2 o3))) (sr rfl rfl rfl ((q_assign rfl rfl)) (sr rfl rfl rfl ((q_assign rfl rfl)) (sw_nil (post_then (cw_ret (post_ret2 rfl (resOk_tmp rfl) (resOk_tmp rfl) ?_))))))
      refine fun w' hw => ⟨?_, (fun w h => Cl.sel (by exact .nil _) w h) _ hw⟩
      rw [tgtN, tgtE, if_pos ⟨h1, h3⟩, if_pos h1, if_pos h3]
def joinOk (a b : Un) (x : Wts) : Bool := unB a && unB b && wtB x
def joinE (a b : Un) (x : Wts) : Int := if joinOk a b x = true ∧ eqB [a, b] = true then 0 else 2
def joinN (a b : Un) (x : Wts) : Int := if joinOk a b x = true ∧ eqB [a, b] = true then joinC x a b else 0
theorem two_vo {w0 w : World} {H : List Asn} {s : SlV} {a b : Un} {e : TypeId} (hw : Cl w0 [] H w) (hm : ownL e s.v [a, b] ∈ H) (ha : UnRd w0 a) (hb : UnRd w0 b) : VoRd w s [a, b] := by
  refine ⟨stb_own hw hm, fun u hu => ?_⟩
  simp only [List.mem_cons, List.not_mem_nil, or_false] at hu
  rcases hu with rfl | rfl
  · exact ha.arg hw
  · exact hb.arg hw
theorem join_bad (a b : Un) (x : Wts) (w : World) (ha : UnRd w a) (hb : UnRd w b) (hno : joinOk a b x = false) : Calls Tryz.prog 50 #[val a, val b, val x] w fun e w' => e = .returned (.tuple #[.int .i64 (joinN a b x), .int .i64 (joinE a b x)]) ∧ Cl w [] [] w' := by
  have h0 : ¬ (joinOk a b x = true ∧ eqB [a, b] = true) := by rw [hno]; simp
  refine calls_cw (vs := [_, _, _]) Tryz.func50 rfl Tryz.ntmps50 rfl (Cl.start0 w) (cw_seq (cw_region ?_))
  refine sw_x rfl rfl rfl (e_box rfl rfl rfl) (fun b3 => ?_)
  refine sw_x rfl rfl rfl (e_box rfl rfl rfl) (fun b4 => ?_)
  refine sw_x rfl rfl rfl (e_box rfl rfl rfl) (fun b5 => ?_)
  refine sr rfl rfl rfl ((q_assign rfl rfl)) (sr rfl rfl rfl ((q_assign rfl rfl)) (sw_nil (post_then (cw_seq (cw_seq (cw_region ?_))))))
  refine sr rfl rfl rfl ((q_loadA rfl rfl (by exact .tail _ (.tail _ (.head _))) rfl)) ?_
  refine sw_step rfl rfl rfl (q_call (CanCall.mk Tryz.call87) rfl (.cons rfl inferInstance (.nil)) (fun _ w hw => callq hw (right_spec a w (UnRd.arg hw ha)))) (sr rfl rfl rfl ((q_not rfl rfl)) (sr rfl rfl rfl ((q_move rfl rfl)) ?_))
  refine sr rfl rfl rfl ((q_loadA rfl rfl (by exact .tail _ (.head _)) rfl)) ?_
  refine sw_step rfl rfl rfl (q_call (CanCall.mk Tryz.call87) rfl (.cons rfl inferInstance (.nil)) (fun _ w hw => callq hw (right_spec b w (UnRd.arg hw hb)))) (sr rfl rfl rfl ((q_not rfl rfl)) (sr rfl rfl rfl ((q_or2 rfl rfl rfl)) (sr rfl rfl rfl ((q_move rfl rfl)) ?_)))
  refine sr rfl rfl rfl ((q_loadA rfl rfl (by exact .head _) rfl)) ?_
  refine sw_step rfl rfl rfl (q_call (CanCall.mk Tryz.call89) rfl (.cons rfl inferInstance (.nil)) (fun _ w hw => callq hw (weights_spec x w))) (sr rfl rfl rfl ((q_not rfl rfl)) (sr rfl rfl rfl ((q_or2 rfl rfl rfl)) (sr rfl rfl rfl ((q_move rfl rfl)) ?_)))
  refine sr rfl rfl rfl ((q_loadA rfl rfl (by exact .tail _ (.tail _ (.head _))) rfl)) ?_
  refine sr rfl rfl rfl ((q_loadA rfl rfl (by exact .tail _ (.head _)) rfl)) ?_
  have hg : (!unB a || !unB b || !wtB x) = true := by
    simp only [joinOk, Bool.and_eq_false_iff] at hno
    simp only [Bool.or_eq_true, Bool.not_eq_true']; exact hno
  rw [hg]
  refine sr rfl rfl rfl ((q_off (v := .slice none 0 0) (by simp [AllT]))) ?_
  refine sr rfl rfl rfl ((q_off (v := .bool false) (by simp [AllT]))) ?_
  refine sr rfl rfl rfl ((q_not rfl rfl)) (sr rfl rfl rfl ((q_or2 rfl rfl rfl)) (sw_nil (post_then ?_)))
  refine cw_cond rfl (fun h => ?_) (fun h => ?_)
  · skip
    refine cw_seq (cw_region (sr rfl rfl rfl ((q_assign rfl rfl)) (sr rfl rfl rfl ((q_assign rfl rfl)) (sw_nil (post_then (cw_ret (post_then_r (post_ret2 rfl (resOk_tmp rfl) (resOk_tmp rfl) ?_))))))))
    refine fun w' hw => ⟨?_, (fun w h => Cl.sel (by exact .nil _) w h) _ hw⟩
    rw [joinN, joinE, if_neg h0, if_neg h0]
  · skip
    simp at h
theorem join_ok (a b : Un) (x : Wts) (w : World) (ha : UnRd w a) (hb : UnRd w b) (hyes : joinOk a b x = true) : Calls Tryz.prog 50 #[val a, val b, val x] w fun e w' => e = .returned (.tuple #[.int .i64 (joinN a b x), .int .i64 (joinE a b x)]) ∧ Cl w [] [] w' := by
  simp only [joinOk, Bool.and_eq_true] at hyes
  have hyes2 : joinOk a b x = true := by simp only [joinOk, Bool.and_eq_true]; exact hyes
  obtain ⟨⟨y1, y2⟩, y3⟩ := hyes
  refine calls_cw (vs := [_, _, _]) Tryz.func50 rfl Tryz.ntmps50 rfl (Cl.start0 w) (cw_seq (cw_region ?_))
  refine sw_x rfl rfl rfl (e_box rfl rfl rfl) (fun b3 => ?_)
  refine sw_x rfl rfl rfl (e_box rfl rfl rfl) (fun b4 => ?_)
  refine sw_x rfl rfl rfl (e_box rfl rfl rfl) (fun b5 => ?_)
  refine sr rfl rfl rfl ((q_assign rfl rfl)) (sr rfl rfl rfl ((q_assign rfl rfl)) (sw_nil (post_then (cw_seq (cw_seq (cw_region ?_))))))
  refine sr rfl rfl rfl ((q_loadA rfl rfl (by exact .tail _ (.tail _ (.head _))) rfl)) ?_
  refine sw_step rfl rfl rfl (q_call (v := .bool true) (CanCall.mk Tryz.call87) rfl (.cons rfl inferInstance (.nil)) (fun _ w hw => callq hw (by have := right_spec a w (UnRd.arg hw ha); rwa [y1] at this))) ?_
  refine sr rfl rfl rfl ((q_not rfl rfl)) (sr rfl rfl rfl ((q_move rfl rfl)) ?_)
  refine sr rfl rfl rfl ((q_loadA rfl rfl (by exact .tail _ (.head _)) rfl)) ?_
  refine sw_step rfl rfl rfl (q_call (v := .bool true) (CanCall.mk Tryz.call87) rfl (.cons rfl inferInstance (.nil)) (fun _ w hw => callq hw (by have := right_spec b w (UnRd.arg hw hb); rwa [y2] at this))) ?_
  refine sr rfl rfl rfl ((q_not rfl rfl)) (sr rfl rfl rfl ((q_or2 rfl rfl rfl)) (sr rfl rfl rfl ((q_move rfl rfl)) ?_))
  refine sr rfl rfl rfl ((q_loadA rfl rfl (by exact .head _) rfl)) ?_
  refine sw_step rfl rfl rfl (q_call (v := .bool true) (CanCall.mk Tryz.call89) rfl (.cons rfl inferInstance (.nil)) (fun _ w hw => callq hw (by have := weights_spec x w; rwa [y3] at this))) ?_
  refine sr rfl rfl rfl ((q_not rfl rfl)) (sr rfl rfl rfl ((q_or2 rfl rfl rfl)) (sr rfl rfl rfl ((q_move rfl rfl)) ?_))
  refine sr rfl rfl rfl ((q_loadA rfl rfl (by exact .tail _ (.tail _ (.head _))) rfl)) ?_
  refine sr rfl rfl rfl ((q_loadA rfl rfl (by exact .tail _ (.head _)) rfl)) ?_
  refine sw_xc rfl (by first | (simp [AllT]; done) | simp [AllT, *]) rfl rfl (e_buildLc (α := Un) (l := [a, b]) rfl (.cons rfl inferInstance (.cons rfl inferInstance (.nil))) rfl rfl rfl rfl) (fun s24 => ?_)
  refine sw_step rfl rfl rfl (q_call (CanCall.mk Tryz.call93) rfl (.cons rfl inferInstance (.nil)) (fun _ w hw => callq hw (equal_spec s24 [a, b] w (two_vo hw (.head _) ha hb)))) (sr rfl rfl rfl ((q_not rfl rfl)) (sr rfl rfl rfl ((q_or2 rfl rfl rfl)) (sw_nil (post_then ?_))))
  refine cw_cond rfl (fun h => ?_) (fun h => ?_)
  · skip
    have h0 : ¬ (joinOk a b x = true ∧ eqB [a, b] = true) := by
      rintro ⟨_, h2⟩
      rw [h2] at h; simp at h
    refine cw_seq (cw_region (sr rfl rfl rfl ((q_assign rfl rfl)) (sr rfl rfl rfl ((q_assign rfl rfl)) (sw_nil (post_then (cw_ret (post_then_r (post_ret2 rfl (resOk_tmp rfl) (resOk_tmp rfl) ?_))))))))
    refine fun w' hw => ⟨?_, (fun w h => Cl.sel (by exact .nil _) w h) _ hw⟩
    rw [joinN, joinE, if_neg h0, if_neg h0]
  · skip
    have h1 : eqB [a, b] = true := by
      cases h2 : eqB [a, b]
      · rw [h2] at h; simp at h
      · rfl
    have h0 : joinOk a b x = true ∧ eqB [a, b] = true := ⟨hyes2, h1⟩
    have hab : a.el.length = b.bl.length := by
      simp only [eqB, Bool.and_eq_true, List.all_eq_true, decide_eq_true_eq] at h1
      have e1 := h1 a (by simp)
      have e2 := h1 b (by simp)
      have e0 : nth [a, b] 0 = a := rfl
      rw [e0] at e1 e2
      omega
    refine cw_skip (post_then (cw_seq (cw_region ?_)))
    refine sr rfl rfl rfl ((q_loadA rfl rfl (by exact .tail _ (.tail _ (.tail _ (.head _)))) rfl)) ?_
    refine sr rfl rfl rfl ((q_loadA rfl rfl (by exact .tail _ (.tail _ (.head _))) rfl)) ?_
    refine sr rfl rfl rfl ((q_loadA rfl rfl (by exact .tail _ (.head _)) rfl)) ?_
    refine sw_step rfl rfl rfl (q_call (CanCall.mk Tryz.call94) rfl (.cons rfl inferInstance (.cons rfl inferInstance (.cons rfl inferInstance (.nil)))) (fun _ w hw => callq hw (joining_spec a b x w (UnRd.arg hw ha) (UnRd.arg hw hb) (un_ok y1) (un_ok y2) hab (wt_ok y3)))) (sr rfl rfl rfl ((q_assign rfl rfl)) (sr rfl rfl rfl ((q_assign rfl rfl)) (sw_nil (post_then (cw_ret (post_ret2 rfl (resOk_tmp rfl) (resOk_tmp rfl) ?_))))))
    refine fun w' hw => ⟨?_, (fun w h => Cl.sel (by exact .nil _) w h) _ hw⟩
    rw [joinN, joinE, if_pos h0, if_pos h0]
theorem joinCost_spec (a b : Un) (x : Wts) (w : World) (ha : UnRd w a) (hb : UnRd w b) : Calls Tryz.prog 50 #[val a, val b, val x] w fun e w' => e = .returned (.tuple #[.int .i64 (joinN a b x), .int .i64 (joinE a b x)]) ∧ Cl w [] [] w' := by
  cases h : joinOk a b x
  · exact join_bad a b x w ha hb h
  · exact join_ok a b x w ha hb h
end Go.Proofs.YtomjbfeafodfbaaGreat
