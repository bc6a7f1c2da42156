import Derived.Test.YtomjbfeafodfbaaGreatWAgain4

set_option autoImplicit false
set_option linter.unusedSimpArgs false
set_option linter.unusedVariables false
set_option maxRecDepth 100000
namespace Go.Proofs.YtomjbfeafodfbaaGreat
open Go.Sx
open Enc (enc val)
structure EX where
  su : SlV
  st : SlV
  a : SlV
  b : SlV
  c : SlV
  d : SlV
  e : SlV
  f : SlV
def EX.U (y : EX) : List Un := exU y.a y.b y.c y.d y.e y.f
def EX.H (y : EX) : List Asn := [ownL 51 y.st.v exT, ownL 49 y.su.v y.U, ownL 3 y.f.v [(5 : Int)], ownL 3 y.e.v [(0 : Int)], ownL 3 y.d.v [(0 : Int)], ownL 3 y.c.v [(5 : Int)], ownL 3 y.b.v [(4 : Int)], ownL 3 y.a.v [(0 : Int)]]
theorem example_spec (w : World) : Calls Tryz.prog 63 #[] w fun e w' => ∃ y : EX, e = .returned (.tuple #[y.su.v, y.st.v, val exW]) ∧ True ∧ Cl w [] y.H w' := by
  refine calls_cw (vs := []) Tryz.func63 rfl Tryz.ntmps63 rfl (Cl.start0 w) (cw_seq (cw_region (sr rfl rfl rfl ((q_assign rfl rfl)) (sr rfl rfl rfl ((q_assign rfl rfl)) ?_))))
  refine sw_x rfl rfl rfl (e_alloc rfl) (fun b2 => ?_)
  refine sw_nil (post_then (cw_seq (cw_region ?_)))
  refine sw_x rfl rfl rfl (e_build1 (α := Int) rfl rfl rfl rfl) (fun s4 => ?_)
  refine sw_x rfl rfl rfl (e_build1 (α := Int) rfl rfl rfl rfl) (fun s5 => ?_)
  refine sr rfl rfl rfl ((q_build rfl (.cons rfl inferInstance (.cons rfl inferInstance (.cons rfl inferInstance (.cons rfl inferInstance (.cons rfl inferInstance (.cons rfl inferInstance (.nil))))))) rfl)) ?_
  refine sw_x rfl rfl rfl (e_build1 (α := Int) rfl rfl rfl rfl) (fun s7 => ?_)
  refine sw_x rfl rfl rfl (e_build1 (α := Int) rfl rfl rfl rfl) (fun s8 => ?_)
  refine sr rfl rfl rfl ((q_build rfl (.cons rfl inferInstance (.cons rfl inferInstance (.cons rfl inferInstance (.cons rfl inferInstance (.cons rfl inferInstance (.cons rfl inferInstance (.cons rfl inferInstance (.nil)))))))) rfl)) ?_
  refine sw_x rfl rfl rfl (e_build1 (α := Int) rfl rfl rfl rfl) (fun s10 => ?_)
  refine sw_x rfl rfl rfl (e_build1 (α := Int) rfl rfl rfl rfl) (fun s11 => ?_)
  refine sr rfl rfl rfl ((q_build rfl (.cons rfl inferInstance (.cons rfl inferInstance (.cons rfl inferInstance (.cons rfl inferInstance (.cons rfl inferInstance (.cons rfl inferInstance (.cons rfl inferInstance (.nil)))))))) rfl)) ?_
  refine sw_x rfl rfl rfl (e_buildL (α := Un) (l := exU s4 s5 s7 s8 s10 s11) rfl (.cons rfl inferInstance (.cons rfl inferInstance (.cons rfl inferInstance (.nil)))) rfl rfl rfl rfl) (fun s13 => ?_)
  refine sr rfl rfl rfl ((q_assign rfl rfl)) (sw_nil (post_then (cw_seq (cw_region (sr rfl rfl rfl ((q_move rfl rfl)) ?_)))))
  refine sr rfl rfl rfl ((q_build (cells := [.string exA, .string ByteArray.empty, .string ByteArray.empty, .int .i64 100, .int .i64 10]) rfl (.cons rfl inferInstance (.cons rfl inferInstance (.cons rfl inferInstance (.nil)))) (by rfl))) ?_
  refine sr rfl rfl rfl ((q_build (cells := [.string exB, .string ByteArray.empty, .string ByteArray.empty, .int .i64 100, .int .i64 10]) rfl (.cons rfl inferInstance (.cons rfl inferInstance (.cons rfl inferInstance (.nil)))) (by rfl))) ?_
  refine sw_x rfl rfl rfl (e_buildL (α := Wan) (l := exT) rfl (.cons rfl inferInstance (.cons rfl inferInstance (.nil))) rfl rfl rfl rfl) (fun s17 => ?_)
  refine sr rfl rfl rfl ((q_build (cells := enc exW) rfl (.cons rfl inferInstance (.cons rfl inferInstance (.cons rfl inferInstance (.cons rfl inferInstance (.nil))))) (by rfl))) ?_
  refine sr rfl rfl rfl ((q_assign rfl rfl)) (sr rfl rfl rfl ((q_assign rfl rfl)) (sw_eff0 rfl rfl (e_store (i := 8) rfl rfl rfl rfl rfl rfl rfl rfl) (sw_nil (post_then (cw_ret ?_)))))
  refine post_ret3 rfl (resOk_tmp rfl) (resOk_tmp rfl) (resOk_blk (x := exW) rfl (by exact .tail _ (.tail _ (.tail _ (.tail _ (.tail _ (.tail _ (.tail _ (.tail _ (.head _))))))))) (by rfl)) ?_
  exact fun w' hw => ⟨⟨s13, s17, s4, s5, s7, s8, s10, s11⟩, rfl, trivial, (fun w h => Cl.sel (by exact .take 0 rfl (.take 0 rfl (.take 0 rfl (.take 0 rfl (.take 0 rfl (.take 0 rfl (.take 0 rfl (.take 0 rfl (.nil _))))))))) w h) _ hw⟩
theorem ex_un {w : World} {H : List Asn} {w0 : World} (y : EX) (hw : Cl w0 [] H w) (hm : ∀ A ∈ y.H, A ∈ H) : VoRd w y.su y.U ∧ Stb w [] (RdL y.st.v exT) := by
  have h1 := stb_own (e := 49) hw (hm _ (.tail _ (.head _)))
  have h2 := stb_own (e := 51) hw (hm _ (.head _))
  have hf := stb_own (e := 3) hw (hm _ (.tail _ (.tail _ (.head _))))
  have he := stb_own (e := 3) hw (hm _ (.tail _ (.tail _ (.tail _ (.head _)))))
  have hd := stb_own (e := 3) hw (hm _ (.tail _ (.tail _ (.tail _ (.tail _ (.head _))))))
  have hc := stb_own (e := 3) hw (hm _ (.tail _ (.tail _ (.tail _ (.tail _ (.tail _ (.head _)))))))
  have hb := stb_own (e := 3) hw (hm _ (.tail _ (.tail _ (.tail _ (.tail _ (.tail _ (.tail _ (.head _))))))))
  have ha := stb_own (e := 3) hw (hm _ (.tail _ (.tail _ (.tail _ (.tail _ (.tail _ (.tail _ (.tail _ (.head _)))))))))
  refine ⟨⟨h1, fun u hu => ?_⟩, h2⟩
  simp only [EX.U, exU, List.mem_cons, List.not_mem_nil, or_false] at hu
  have sA : exA.size ≤ 140737488355328 := by decide
  have sB : exB.size ≤ 140737488355328 := by decide
  have sE : ByteArray.empty.size ≤ 140737488355328 := by decide
  rcases hu with rfl | rfl | rfl
  · exact ⟨sA, sE, sE, ha, hb⟩
  · exact ⟨sB, sE, sE, hc, hd⟩
  · exact ⟨sA, sE, sE, he, hf⟩
theorem ex_wa : ∀ t ∈ exT, WaRd t := by
  intro t ht
  simp only [exT, List.mem_cons, List.not_mem_nil, or_false] at ht
  rcases ht with rfl | rfl <;> exact ⟨by decide, by decide, by decide⟩
theorem mt_own {w0 w : World} {fp : List Nat} {H : List Asn} (hw : Cl w0 fp H w) {s : SlV} {vs : List SlV} {ls : List (List Int)} {e : TypeId} (hl : ownL e s.v vs ∈ H) (hn : vs.length = ls.length) (hr : ∀ i, i < ls.length → ∃ e2, ownL e2 (nth vs i).v (nth ls i) ∈ H) : Stb w [] (fun w' => Mt w' s.v vs ls) := by
  have h1 := stb_own hw hl
  have h2 : ∀ i, i < ls.length → Stb w [] (RdL (nth vs i).v (nth ls i)) := fun i hi => by
    obtain ⟨e2, h⟩ := hr i hi
    exact stb_own hw h
  exact ⟨fun w' k => ⟨h1.stb w' k, hn, fun i hi => (h2 i hi).stb w' k⟩⟩
theorem ex_rows {w : World} {so sc : SlV} (h1 : Stb w [] (RdL so.v (rowsTo sc 3 2 2))) (h2 : Stb w [] (RdL sc.v [(0 : Int), 0, 20, 0, 0, 0])) : Stb w [] (fun w' => Mt w' so.v (rowsTo sc 3 2 2) [[0, 0, 20], [0, 0, 0]]) := by
  have r0 : Stb w [] (RdL (sc.row 1 0 3).v [(0 : Int), 0, 20]) := stb_row (α := Int) h2 (by decide) (by decide)
  have r1 : Stb w [] (RdL (sc.row 1 3 6).v [(0 : Int), 0, 0]) := stb_row (α := Int) h2 (by decide) (by decide)
  refine ⟨fun w' k => ⟨h1.stb w' k, rowsTo_len _ _ _ _, fun i hi => ?_⟩⟩
  match i, hi with
  | 0, _ => rw [rowsTo_nth _ _ _ _ _ (by decide)]; exact r0.stb w' k
  | 1, _ => rw [rowsTo_nth _ _ _ _ _ (by decide)]; exact r1.stb w' k
def exP : CutP := ⟨[[1], [1], [9]], [[1], [8]], 1⟩
theorem exP_D : (exP.D exP.m 0).getD 0 = 1 := by decide +kernel
theorem exP_pth : exP.pth exP.m 0 = [2, 1] := by decide +kernel
theorem exP_E : cutE exP.fl exP.pl exP.L = 0 := by decide +kernel
theorem exP_ok : exP.Ok where
  fv f hf := by
    have hf' : f < 3 := hf
    match f, hf' with
    | 0, _ => decide
    | 1, _ => decide
    | 2, _ => decide
  pv p hp := by
    have hp' : p < 2 := hp
    match p, hp' with
    | 0, _ => decide
    | 1, _ => decide
  eq f p hf hp := by
    have hf' : f < 3 := hf
    have hp' : p < 2 := hp
    match f, hf', p, hp' with
    | 0, _, 0, _ => rfl
    | 1, _, 0, _ => rfl
    | 2, _, 0, _ => rfl
    | 0, _, 1, _ => rfl
    | 1, _, 1, _ => rfl
    | 2, _, 1, _ => rfl
  n2 := by decide
  m2 := by decide
  l1 := by decide
theorem same_true (sa sb : Value) (a b : List Int) (h : a = b) (w : World) (ha : Stb w [] (RdL sa a)) (hb : Stb w [] (RdL sb b)) : Calls Tryz.prog 23 #[sa, sb] w fun e w' => e = .returned (.bool true) ∧ Cl w [] [] w' := by
  have := same_spec sa sb a b w ha hb
  rwa [decide_eq_true h] at this
theorem sameL_true (sa sb : Value) (va vb : List SlV) (a b : List (List Int)) (h : a = b) (w : World) (ha : Stb w [] (fun w' => Mt w' sa va a)) (hb : Stb w [] (fun w' => Mt w' sb vb b)) : Calls Tryz.prog 24 #[sa, sb] w fun e w' => e = .returned (.bool true) ∧ Cl w [] [] w' := by
  have := sameLists_spec sa sb va vb a b w ha hb
  rwa [decide_eq_true h] at this
theorem known_spec (w : World) : Calls Tryz.prog 18 #[] w fun e w' => e = .returned (.bool true) ∧ Cl w [] [] w' := by
  refine calls_cw (vs := []) Tryz.func18 rfl Tryz.ntmps18 rfl (Cl.start0 w) (cw_seq (cw_region (sr rfl rfl rfl ((q_assign rfl rfl)) (sw_nil (post_then (cw_seq (cw_region ?_)))))))
  refine sw_x rfl rfl rfl (e_call (CanCall.mk Tryz.call63) rfl (.nil) (fun w hw => example_spec w)) (fun y => ?_)
  refine sw_imp fun _ => ?_
  rw [List.append_nil]
  refine sr rfl rfl rfl ((q_move rfl rfl)) (sr rfl rfl rfl ((q_extract rfl rfl rfl)) (sr rfl rfl rfl ((q_extract rfl rfl rfl)) (sr rfl rfl rfl ((q_extract rfl rfl rfl)) ?_)))
  refine sw_x rfl rfl rfl (e_alloc rfl) (fun b3 => ?_)
  refine sr rfl rfl rfl ((q_assign rfl rfl)) (sr rfl rfl rfl ((q_assign rfl rfl)) (sw_eff0 rfl rfl (e_store (i := 0) rfl rfl rfl rfl rfl rfl rfl rfl) (sw_nil (post_then (cw_seq (cw_region (sr rfl rfl rfl ((q_move rfl rfl)) (sr rfl rfl rfl ((q_move rfl rfl)) ?_))))))))
  refine sr rfl rfl rfl ((q_loadA rfl rfl (by exact .head _) rfl)) ?_
  refine sw_x rfl rfl rfl (e_call (CanCall.mk Tryz.call19) rfl (.cons rfl inferInstance (.cons rfl inferInstance (.cons rfl inferInstance (.nil)))) (fun w1 hw => choose_yes y.su y.st y.U exT exW w1 (ex_un y hw (fun A hA => .tail _ hA)).1 (ex_un y hw (fun A hA => .tail _ hA)).2 ex_wa (ex_begin _ _ _ _ _ _) (ex_poss _ _ _ _ _ _) (show (3 + 1) ^ 2 ≤ 500000000 by decide))) (fun z => ?_)
  refine sw_imp fun hz => ?_
  obtain ⟨⟨so, sc⟩, ⟨cells, ⟨qs, qc, ql⟩⟩⟩ := z
  obtain ⟨h1, h2⟩ := hz
  dsimp only at h1 h2
  obtain rfl := ex_cells _ _ _ _ _ _ h1
  obtain ⟨rfl, rfl⟩ := ex_best _ _ _ _ _ _ h2
  clear h1 h2
  dsimp only
  refine sr rfl rfl rfl ((q_move rfl rfl)) (sr rfl rfl rfl ((q_extract rfl rfl rfl)) (sr rfl rfl rfl ((q_extract rfl rfl rfl)) (sr rfl rfl rfl ((q_extract rfl rfl rfl)) ?_)))
  refine sw_x rfl rfl rfl (e_alloc rfl) (fun b4 => ?_)
  refine sw_eff0 rfl rfl (e_store (i := 0) rfl rfl rfl rfl rfl rfl rfl rfl) (sr rfl rfl rfl ((q_assign rfl rfl)) (sr rfl rfl rfl ((q_assign rfl rfl)) (sw_nil (post_then (cw_seq (cw_region (sr rfl rfl rfl ((q_move rfl rfl)) (sr rfl rfl rfl ((q_move rfl rfl)) ?_))))))))
  refine sr rfl rfl rfl ((q_loadA rfl rfl (by exact .tail _ (.tail _ (.tail _ (.tail _ (.head _))))) rfl)) ?_
  refine sw_x rfl rfl rfl (e_call (CanCall.mk Tryz.call26) rfl (.cons rfl inferInstance (.cons rfl inferInstance (.cons rfl inferInstance (.cons rfl inferInstance (.nil))))) (fun w1 hw => best_yes y.su y.st y.U exT exW 5 w1 (ex_un y hw (fun A hA => .tail _ (.tail _ (.tail _ (.tail _ (.tail _ hA)))))).1 (ex_un y hw (fun A hA => .tail _ (.tail _ (.tail _ (.tail _ (.tail _ hA)))))).2 ex_wa (ex_begin _ _ _ _ _ _) (by omega) (ex_poss _ _ _ _ _ _) (show (3 + 1) ^ 2 ≤ 500000000 by decide))) (fun z => ?_)
  refine sw_imp fun hz => ?_
  obtain ⟨so2, ⟨outs, il⟩⟩ := z
  obtain ⟨h1, h2, h3⟩ := hz
  dsimp only at h1 h2 h3 ⊢
  obtain ⟨q1, ⟨u2, c2, l2⟩, rfl, hq⟩ := ex_bests _ _ _ _ _ _ h1 h2
  obtain rfl : c2 = 20 := hq
  clear h1 h2 h3
  refine sw_le (C' := Cl w [] [ownL 30 so2.v [q1, ⟨u2, 20, l2⟩], blk b4 [qs.v, .int .i64 0] 30, ownL 28 so.v (rowsTo sc 3 2 2), ownL 3 sc.v [(0 : Int), 0, 20, 0, 0, 0], ownL 3 qs.v [(0 : Int), 1]]) (fun w h => Cl.sel (by exact .take 0 rfl (.take 2 rfl (.take 2 rfl (.take 2 rfl (.take 2 rfl (.nil _)))))) w h) ?_
  refine sr rfl rfl rfl ((q_move rfl rfl)) (sr rfl rfl rfl ((q_extract rfl rfl rfl)) (sr rfl rfl rfl ((q_extract rfl rfl rfl)) (sr rfl rfl rfl ((q_assign rfl rfl)) (sr rfl rfl rfl ((q_assign rfl rfl)) (sw_nil (post_then (cw_seq (cw_region ?_))))))))
  refine sw_x rfl rfl rfl (e_build1 (α := Int) rfl rfl rfl rfl) (fun s41 => ?_)
  refine sw_x rfl rfl rfl (e_build1 (α := Int) rfl rfl rfl rfl) (fun s42 => ?_)
  refine sw_x rfl rfl rfl (e_build1 (α := Int) rfl rfl rfl rfl) (fun s43 => ?_)
  refine sw_x rfl rfl rfl (e_buildL (α := SlV) (l := [s41, s42, s43]) rfl (.cons rfl inferInstance (.cons rfl inferInstance (.cons rfl inferInstance (.nil)))) rfl rfl rfl rfl) (fun s44 => ?_)
  refine sw_x rfl rfl rfl (e_build1 (α := Int) rfl rfl rfl rfl) (fun s45 => ?_)
  refine sw_x rfl rfl rfl (e_build1 (α := Int) rfl rfl rfl rfl) (fun s46 => ?_)
  refine sw_x rfl rfl rfl (e_buildL (α := SlV) (l := [s45, s46]) rfl (.cons rfl inferInstance (.cons rfl inferInstance (.nil))) rfl rfl rfl rfl) (fun s47 => ?_)
  refine sw_x rfl rfl rfl (e_call (CanCall.mk Tryz.call30) rfl (.cons rfl inferInstance (.cons rfl inferInstance (.cons rfl inferInstance (.nil)))) (fun w1 hw => cut_yes s44 s47 [s41, s42, s43] [s45, s46] exP w1 (mt_own hw (e := 28) (by exact .tail _ (.tail _ (.tail _ (.head _)))) rfl (fun i hi => by match i, hi with | 0, _ => exact ⟨3, (by exact .tail _ (.tail _ (.tail _ (.tail _ (.tail _ (.tail _ (.head _)))))))⟩ | 1, _ => exact ⟨3, (by exact .tail _ (.tail _ (.tail _ (.tail _ (.tail _ (.head _))))))⟩ | 2, _ => exact ⟨3, (by exact .tail _ (.tail _ (.tail _ (.tail _ (.head _)))))⟩)) (mt_own hw (e := 28) (by exact .head _) rfl (fun i hi => by match i, hi with | 0, _ => exact ⟨3, (by exact .tail _ (.tail _ (.head _)))⟩ | 1, _ => exact ⟨3, (by exact .tail _ (.head _))⟩)) exP_E exP_ok (by decide) (by decide))) (fun z => ?_)
  refine sw_imp fun hz => ?_
  obtain ⟨sk, lk⟩ := z
  dsimp only at hz ⊢
  rw [exP_pth] at hz
  subst hz
  rw [exP_D]
  refine sw_le (C' := Cl w [] [ownL 3 sk.v [(2 : Int), 1], ownL 30 so2.v [q1, ⟨u2, 20, l2⟩], blk b4 [qs.v, .int .i64 0] 30, ownL 28 so.v (rowsTo sc 3 2 2), ownL 3 sc.v [(0 : Int), 0, 20, 0, 0, 0], ownL 3 qs.v [(0 : Int), 1]]) (fun w h => Cl.sel (by exact .take 0 rfl (.take 7 rfl (.take 7 rfl (.take 7 rfl (.take 7 rfl (.take 7 rfl (.nil _))))))) w h) ?_
  refine sr rfl rfl rfl ((q_move rfl rfl)) (sr rfl rfl rfl ((q_extract rfl rfl rfl)) (sr rfl rfl rfl ((q_extract rfl rfl rfl)) (sr rfl rfl rfl ((q_extract rfl rfl rfl)) (sr rfl rfl rfl ((q_assign rfl rfl)) (sr rfl rfl rfl ((q_assign rfl rfl)) (sr rfl rfl rfl ((q_assign rfl rfl)) (sw_nil (post_then (cw_seq (cw_region ?_))))))))))
  refine sw_x rfl rfl rfl (e_buildL (α := Int) (l := [0, 1, 2]) rfl (.cons rfl inferInstance (.cons rfl inferInstance (.cons rfl inferInstance (.nil)))) rfl rfl rfl rfl) (fun s52 => ?_)
  refine sw_x rfl rfl rfl (e_buildL (α := Int) (l := [0, 3]) rfl (.cons rfl inferInstance (.cons rfl inferInstance (.nil))) rfl rfl rfl rfl) (fun s53 => ?_)
  refine sw_x rfl rfl rfl (e_buildL (α := Int) (l := [1, 2]) rfl (.cons rfl inferInstance (.cons rfl inferInstance (.nil))) rfl rfl rfl rfl) (fun s54 => ?_)
  refine sw_x rfl rfl rfl (e_build1 (α := Int) rfl rfl rfl rfl) (fun s55 => ?_)
  refine sw_x rfl rfl rfl (e_buildL (α := SlV) (l := [s52, s53, s54, s55]) rfl (.cons rfl inferInstance (.cons rfl inferInstance (.cons rfl inferInstance (.cons rfl inferInstance (.nil))))) rfl rfl rfl rfl) (fun s56 => ?_)
  refine sr rfl rfl rfl ((q_assign rfl rfl)) (sw_nil (post_then (cw_seq (cw_region (sr rfl rfl rfl ((q_move rfl rfl)) ?_)))))
  have hsets : ∀ {w1 : World} {H : List Asn}, Cl w [] H w1 → ownL 28 s56.v [s52, s53, s54, s55] ∈ H → ownL 3 s52.v [(0 : Int), 1, 2] ∈ H → ownL 3 s53.v [(0 : Int), 3] ∈ H → ownL 3 s54.v [(1 : Int), 2] ∈ H → ownL 3 s55.v [(3 : Int)] ∈ H → Stb w1 [] (fun w' => Mt w' s56.v [s52, s53, s54, s55] exS) := fun hw m0 m1 m2 m3 m4 => mt_own hw (e := 28) m0 rfl (fun i hi => by
    have hi' : i < 4 := hi
    match i, hi' with
    | 0, _ => exact ⟨3, m1⟩
    | 1, _ => exact ⟨3, m2⟩
    | 2, _ => exact ⟨3, m3⟩
    | 3, _ => exact ⟨3, m4⟩)
  refine sw_x rfl rfl rfl (e_call (CanCall.mk Tryz.call42) rfl (.cons rfl inferInstance (.cons rfl inferInstance (.nil))) (fun w1 hw => greedy_yes 4 (by omega) s56 [s52, s53, s54, s55] exS (by decide) w1 (hsets hw (by exact .head _) (by exact .tail _ (.tail _ (.tail _ (.tail _ (.head _))))) (by exact .tail _ (.tail _ (.tail _ (.head _)))) (by exact .tail _ (.tail _ (.head _))) (by exact .tail _ (.head _))) exS_cov exS_poss)) (fun z => ?_)
  refine sw_imp fun hz => ?_
  obtain ⟨sa, ⟨la, ka⟩⟩ := z
  dsimp only at hz ⊢
  obtain rfl := exS_k hz.ok hz.full
  obtain rfl : la = [0, 1] := srt_two (by rw [← exS_out]; exact hz.perm) hz.srt
  clear hz
  refine sr rfl rfl rfl ((q_move rfl rfl)) (sr rfl rfl rfl ((q_extract rfl rfl rfl)) (sr rfl rfl rfl ((q_extract rfl rfl rfl)) (sr rfl rfl rfl ((q_assign rfl rfl)) (sr rfl rfl rfl ((q_assign rfl rfl)) (sw_nil (post_then (cw_seq (cw_region (sr rfl rfl rfl ((q_move rfl rfl)) ?_)))))))))
  refine sw_x rfl rfl rfl (e_call (CanCall.mk Tryz.call34) rfl (.cons rfl inferInstance (.cons rfl inferInstance (.nil))) (fun w1 hw => price_yes 4 (by omega) s56 [s52, s53, s54, s55] exS w1 (hsets hw (by exact .tail _ (.head _)) (by exact .tail _ (.tail _ (.tail _ (.tail _ (.tail _ (.head _)))))) (by exact .tail _ (.tail _ (.tail _ (.tail _ (.head _))))) (by exact .tail _ (.tail _ (.tail _ (.head _)))) (by exact .tail _ (.tail _ (.head _)))) exS_cov (by decide) (by rw [exS_wid]; decide) exS_poss)) (fun z => ?_)
  refine sw_imp fun hz => ?_
  obtain ⟨sp, ⟨lp, ⟨kp, lq⟩⟩⟩ := z
  dsimp only at hz ⊢
  obtain ⟨hz1, hz2⟩ := hz
  obtain rfl := exS_k hz2.ok hz2.full
  rw [exS_sh] at hz1
  obtain rfl : lp = [9240, 9240, 9240, 27720] := hz1
  clear hz2
  rw [exS_wid, exS_scale]
  refine sr rfl rfl rfl ((q_move rfl rfl)) (sr rfl rfl rfl ((q_extract rfl rfl rfl)) (sr rfl rfl rfl ((q_extract rfl rfl rfl)) (sr rfl rfl rfl ((q_extract rfl rfl rfl)) (sr rfl rfl rfl ((q_assign rfl rfl)) (sr rfl rfl rfl ((q_assign rfl rfl)) (sr rfl rfl rfl ((q_assign rfl rfl)) (sw_nil (post_then (cw_seq (cw_region (sr rfl rfl rfl ((q_move rfl rfl)) (sr rfl rfl rfl ((q_move rfl rfl)) (sr rfl rfl rfl ((q_move rfl rfl)) ?_)))))))))))))
  refine sw_step rfl rfl rfl (q_call (v := .tuple #[.int .i64 2, .bool true]) (CanCall.mk Tryz.call39) rfl (.cons rfl inferInstance (.cons rfl inferInstance (.cons rfl inferInstance (.cons rfl inferInstance (.nil))))) (fun _ w1 hw => callq hw (by have := proves_yes 4 (by omega) s56 [s52, s53, s54, s55] exS sp [9240, 9240, 9240, 27720] 50820 w1 (hsets hw (by exact .tail _ (.tail _ (.head _))) (by exact .tail _ (.tail _ (.tail _ (.tail _ (.tail _ (.tail _ (.head _))))))) (by exact .tail _ (.tail _ (.tail _ (.tail _ (.tail _ (.head _)))))) (by exact .tail _ (.tail _ (.tail _ (.tail _ (.head _))))) (by exact .tail _ (.tail _ (.tail _ (.head _))))) (stb_own (e := 3) hw (by exact .head _)) exS_cov; rw [exS_prov.1, exS_prov.2] at this; exact this))) ?_
  refine sr rfl rfl rfl ((q_move rfl rfl)) (sr rfl rfl rfl ((q_extract rfl rfl rfl)) (sr rfl rfl rfl ((q_extract rfl rfl rfl)) (sr rfl rfl rfl ((q_assign rfl rfl)) (sr rfl rfl rfl ((q_assign rfl rfl)) (sw_nil (post_then (cw_seq (cw_seq (cw_region (sr rfl rfl rfl ((q_move rfl rfl)) (sr rfl rfl rfl ((q_neq rfl rfl rfl)) (sr rfl rfl rfl ((q_move rfl rfl)) (sr rfl rfl rfl ((q_move rfl rfl)) (sr rfl rfl rfl ((q_neq rfl rfl rfl)) (sr rfl rfl rfl ((q_or2 rfl rfl rfl)) (sr rfl rfl rfl ((q_move rfl rfl)) (sr rfl rfl rfl ((q_move rfl rfl)) (sr rfl rfl rfl ((q_neq rfl rfl rfl)) (sr rfl rfl rfl ((q_or2 rfl rfl rfl)) (sr rfl rfl rfl ((q_move rfl rfl)) (sr rfl rfl rfl ((q_move rfl rfl)) (sr rfl rfl rfl ((q_neq rfl rfl rfl)) (sr rfl rfl rfl ((q_or2 rfl rfl rfl)) (sr rfl rfl rfl ((q_move rfl rfl)) (sr rfl rfl rfl ((q_move rfl rfl)) (sr rfl rfl rfl ((q_neq rfl rfl rfl)) (sr rfl rfl rfl ((q_or2 rfl rfl rfl)) (sr rfl rfl rfl ((q_move rfl rfl)) (sr rfl rfl rfl ((q_move rfl rfl)) (sr rfl rfl rfl ((q_not rfl rfl)) (sr rfl rfl rfl ((q_or2 rfl rfl rfl)) (sr rfl rfl rfl ((q_move rfl rfl)) (sr rfl rfl rfl ((q_move rfl rfl)) ?_)))))))))))))))))))))))))))))))))
  refine sr rfl rfl rfl ((q_len rfl (.cons rfl inferInstance (.nil)) (by exact fun w hw => rd_own hw (by exact .tail _ (.tail _ (.tail _ (.tail _ (.tail _ (.tail _ (.tail _ (.tail _ (.head _)))))))))))) ?_
  refine sr rfl rfl rfl ((q_neq rfl rfl rfl)) (sr rfl rfl rfl ((q_or2 rfl rfl rfl)) (sw_nil (post_then ?_)))
  refine cw_cond rfl (fun h => ?_) (fun h => ?_)
  · skip
    simp at h
  · skip
    clear h
    have hn2 : (nth [q1, (⟨u2, 20, l2⟩ : Sq)] 1).cost = 20 := rfl
    refine cw_skip (post_then (cw_seq (cw_region (sr rfl rfl rfl ((q_fieldAddr rfl rfl)) ?_))))
    refine sr rfl rfl rfl ((q_loadC rfl rfl (by exact .tail _ (.tail _ (.tail _ (.tail _ (.tail _ (.tail _ (.tail _ (.tail _ (.tail _ (.head _)))))))))) rfl)) ?_
    refine sw_x rfl rfl rfl (e_buildL (α := Int) (l := [0, 1]) rfl (.cons rfl inferInstance (.cons rfl inferInstance (.nil))) rfl rfl rfl rfl) (fun s104 => ?_)
    refine sw_step rfl rfl rfl (q_call (v := .bool true) (CanCall.mk Tryz.call23) rfl (.cons rfl inferInstance (.cons rfl inferInstance (.nil))) (fun _ w1 hw => callq hw (same_true _ _ [0, 1] [0, 1] rfl w1 (stb_own (e := 3) hw (by exact .tail _ (.tail _ (.tail _ (.tail _ (.tail _ (.tail _ (.tail _ (.tail _ (.tail _ (.tail _ (.tail _ (.tail _ (.tail _ (.head _))))))))))))))) (stb_own (e := 3) hw (by exact .head _))))) ?_
    refine sr rfl rfl rfl ((q_move rfl rfl)) (sr rfl rfl rfl ((q_fieldAddr rfl rfl)) ?_)
    refine sr rfl rfl rfl ((q_loadC rfl rfl (by exact .tail _ (.tail _ (.tail _ (.tail _ (.tail _ (.tail _ (.tail _ (.tail _ (.tail _ (.tail _ (.head _))))))))))) rfl)) ?_
    refine sr rfl rfl rfl ((q_eql rfl rfl rfl)) (sr rfl rfl rfl ((q_and2 rfl rfl rfl)) (sr rfl rfl rfl ((q_move rfl rfl)) (sr rfl rfl rfl ((q_move rfl rfl)) ?_)))
    refine sw_xc rfl (by first | (simp [AllT]; done) | simp [AllT, *]) rfl rfl (e_buildLc (α := Int) (l := [0, 0, 20]) rfl (.cons rfl inferInstance (.cons rfl inferInstance (.cons rfl inferInstance (.nil)))) rfl rfl rfl rfl) (fun s113 => ?_)
    refine sw_xc rfl (by first | (simp [AllT]; done) | simp [AllT, *]) rfl rfl (e_buildLc (α := Int) (l := [0, 0, 0]) rfl (.cons rfl inferInstance (.cons rfl inferInstance (.cons rfl inferInstance (.nil)))) rfl rfl rfl rfl) (fun s114 => ?_)
    refine sw_xc rfl (by first | (simp [AllT]; done) | simp [AllT, *]) rfl rfl (e_buildLc (α := SlV) (l := [s113, s114]) rfl (.cons rfl inferInstance (.cons rfl inferInstance (.nil))) rfl rfl rfl rfl) (fun s115 => ?_)
    refine sw_step rfl rfl rfl (q_call (v := .bool true) (CanCall.mk Tryz.call24) rfl (.cons rfl inferInstance (.cons rfl inferInstance (.nil))) (fun _ w1 hw => callq hw (sameL_true _ _ (rowsTo sc 3 2 2) [s113, s114] [[0, 0, 20], [0, 0, 0]] [[0, 0, 20], [0, 0, 0]] rfl w1 (ex_rows (stb_own (e := 28) hw (by exact .tail _ (.tail _ (.tail _ (.tail _ (.tail _ (.tail _ (.tail _ (.tail _ (.tail _ (.tail _ (.tail _ (.tail _ (.tail _ (.tail _ (.head _)))))))))))))))) (stb_own (e := 3) hw (by exact .tail _ (.tail _ (.tail _ (.tail _ (.tail _ (.tail _ (.tail _ (.tail _ (.tail _ (.tail _ (.tail _ (.tail _ (.tail _ (.tail _ (.tail _ (.head _)))))))))))))))))) (mt_own hw (e := 28) (by exact .head _) rfl (fun i hi => by match i, hi with | 0, _ => exact ⟨3, (by exact .tail _ (.tail _ (.head _)))⟩ | 1, _ => exact ⟨3, (by exact .tail _ (.head _))⟩))))) ?_
    refine sr rfl rfl rfl ((q_and2 rfl rfl rfl)) (sr rfl rfl rfl ((q_move rfl rfl)) (sr rfl rfl rfl ((q_move rfl rfl)) ?_))
    refine sr rfl rfl rfl ((q_indexN rfl rfl rfl (by exact fun w hw => rd_own hw (by exact .tail _ (.tail _ (.tail _ (.tail _ (.tail _ (.tail _ (.tail _ (.tail _ (.tail _ (.tail _ (.tail _ (.tail _ (.head _)))))))))))))) (by intro hc; (simp only [List.length_set, List.length_append, List.length_cons, List.length_nil, List.length_replicate, List.length_take, List.length_drop, List.length_map]; omega)))) ?_
    refine sr rfl rfl rfl ((q_fieldEl rfl rfl (by exact fun w hw => rd_own hw (by exact .tail _ (.tail _ (.tail _ (.tail _ (.tail _ (.tail _ (.tail _ (.tail _ (.tail _ (.tail _ (.tail _ (.tail _ (.head _)))))))))))))) (by intro hc; (simp only [List.length_set, List.length_append, List.length_cons, List.length_nil, List.length_replicate, List.length_take, List.length_drop, List.length_map]; omega)))) ?_
    refine sr rfl rfl rfl ((q_loadF rfl rfl rfl (by exact fun w hw => rd_own hw (by exact .tail _ (.tail _ (.tail _ (.tail _ (.tail _ (.tail _ (.tail _ (.tail _ (.tail _ (.tail _ (.tail _ (.tail _ (.head _)))))))))))))) (by intro hc; (simp only [List.length_set, List.length_append, List.length_cons, List.length_nil, List.length_replicate, List.length_take, List.length_drop, List.length_map]; omega)) rfl)) ?_
    refine sr rfl rfl rfl ((q_eql rfl rfl rfl)) (sr rfl rfl rfl ((q_and2 rfl rfl rfl)) (sr rfl rfl rfl ((q_move rfl rfl)) (sr rfl rfl rfl ((q_move rfl rfl)) ?_)))
    refine sw_xc rfl (by first | (simp [AllT]; done) | simp [AllT, *]) rfl rfl (e_buildLc (α := Int) (l := [2, 1]) rfl (.cons rfl inferInstance (.cons rfl inferInstance (.nil))) rfl rfl rfl rfl) (fun s127 => ?_)
    refine sw_step rfl rfl rfl (q_call (v := .bool true) (CanCall.mk Tryz.call23) rfl (.cons rfl inferInstance (.cons rfl inferInstance (.nil))) (fun _ w1 hw => callq hw (same_true _ _ [2, 1] [2, 1] rfl w1 (stb_own (e := 3) hw (by exact .tail _ (.tail _ (.tail _ (.tail _ (.tail _ (.tail _ (.tail _ (.tail _ (.tail _ (.tail _ (.tail _ (.tail _ (.head _)))))))))))))) (stb_own (e := 3) hw (by exact .head _))))) ?_
    refine sr rfl rfl rfl ((q_and2 rfl rfl rfl)) (sr rfl rfl rfl ((q_move rfl rfl)) (sr rfl rfl rfl ((q_move rfl rfl)) (sr rfl rfl rfl ((q_eql rfl rfl rfl)) (sr rfl rfl rfl ((q_and2 rfl rfl rfl)) (sr rfl rfl rfl ((q_move rfl rfl)) (sr rfl rfl rfl ((q_move rfl rfl)) ?_))))))
    refine sw_xc rfl (by first | (simp [AllT]; done) | simp [AllT, *]) rfl rfl (e_buildLc (α := Int) (l := [0, 1]) rfl (.cons rfl inferInstance (.cons rfl inferInstance (.nil))) rfl rfl rfl rfl) (fun s136 => ?_)
    refine sw_step rfl rfl rfl (q_call (v := .bool true) (CanCall.mk Tryz.call23) rfl (.cons rfl inferInstance (.cons rfl inferInstance (.nil))) (fun _ w1 hw => callq hw (same_true _ _ [0, 1] [0, 1] rfl w1 (stb_own (e := 3) hw (by exact .tail _ (.tail _ (.tail _ (.tail _ (.tail _ (.tail _ (.tail _ (.head _))))))))) (stb_own (e := 3) hw (by exact .head _))))) ?_
    refine sr rfl rfl rfl ((q_and2 rfl rfl rfl)) (sr rfl rfl rfl ((q_move rfl rfl)) (sr rfl rfl rfl ((q_move rfl rfl)) (sr rfl rfl rfl ((q_eql rfl rfl rfl)) (sr rfl rfl rfl ((q_and2 rfl rfl rfl)) (sr rfl rfl rfl ((q_move rfl rfl)) (sr rfl rfl rfl ((q_move rfl rfl)) (sr rfl rfl rfl ((q_eql rfl rfl rfl)) (sr rfl rfl rfl ((q_and2 rfl rfl rfl)) (sr rfl rfl rfl ((q_assign rfl rfl)) (sw_nil (post_then (cw_ret (post_ret1 rfl (resOk_tmp rfl) ?_)))))))))))))
    exact fun w' hw => ⟨rfl, (fun w h => Cl.sel (by exact .nil _) w h) _ hw⟩
end Go.Proofs.YtomjbfeafodfbaaGreat

set_option autoImplicit false
set_option maxRecDepth 100000
namespace Go.Proofs.YtomjbfeafodfbaaGreat
open Go.Sx
open Enc (enc val)
def shortB (s : ByteArray) : Bool := decide ((s.size : Int) ≤ 12)
theorem short_spec (s : ByteArray) (w : World) : Calls Tryz.prog 62 #[.string s] w fun e w' => e = .returned (.bool (shortB s)) ∧ Cl w [] [] w' := by
  refine calls_cw (vs := [_]) Tryz.func62 rfl Tryz.ntmps62 rfl (Cl.start0 w) (cw_seq (cw_region (sr rfl rfl rfl ((q_assign rfl rfl)) (sw_nil (post_then (cw_seq (cw_region (sr rfl rfl rfl ((q_move rfl rfl)) (sr rfl rfl rfl ((q_lenS rfl (.cons rfl inferInstance (.nil)) Tryz.underlying9)) (sr rfl rfl rfl ((q_leq rfl rfl rfl)) (sr rfl rfl rfl ((q_assign rfl rfl)) (sw_nil (post_then (cw_ret (post_ret1 rfl (resOk_tmp rfl) ?_)))))))))))))))
  exact fun w' hw => ⟨rfl, hw⟩
def smallU (u : Un) : Bool := shortB u.phone && shortB u.before && shortB u.after && decide (u.bl.length ≤ 50) && decide (u.el.length ≤ 50)
def smallT (t : Wan) : Bool := shortB t.phone && shortB t.before && shortB t.after
def sizesB (p : List Un) (tgt : List Wan) (mu mt : Int) : Bool := decide (((p.length : Int) ≤ mu ∨ 2000 < p.length) ∧ p.length ≤ 2100 ∧ ((tgt.length : Int) ≤ mt ∨ 500 < tgt.length) ∧ tgt.length ≤ 600)
def smallB (p : List Un) (tgt : List Wan) (mu mt : Int) : Bool := sizesB p tgt mu mt && p.all smallU && tgt.all smallT
structure VoIn (w : World) (sp : SlV) (p : List Un) : Prop where
  l : RdL sp.v p w
  u : ∀ u ∈ p, UnIn u w
theorem VoIn.stb {w : World} {sp : SlV} {p : List Un} (h : VoIn w sp p) : Stb w [] (fun w' => VoIn w' sp p) := ⟨fun w' k => ⟨(rd_stb h.l).stb w' k, fun u hu => ⟨(h.u u hu).s1, (h.u u hu).s2, (h.u u hu).s3, (rd_stb (h.u u hu).b).stb w' k, (rd_stb (h.u u hu).e).stb w' k⟩⟩⟩
theorem small_vo {w : World} {sp : SlV} {p : List Un} {tgt : List Wan} {mu mt : Int} (h : VoIn w sp p) (hs : smallB p tgt mu mt = true) : VoRd w sp p := by
  simp only [smallB, Bool.and_eq_true] at hs
  refine ⟨rd_stb h.l, fun u hu => ?_⟩
  have h1 := List.all_eq_true.1 hs.1.2 u hu
  simp only [smallU, shortB, Bool.and_eq_true, decide_eq_true_eq] at h1
  have h2 := h.u u hu
  exact ⟨by omega, by omega, by omega, rd_stb h2.b, rd_stb h2.e⟩
theorem small_ta {p : List Un} {tgt : List Wan} {mu mt : Int} (hs : smallB p tgt mu mt = true) : ∀ t ∈ tgt, WaRd t := by
  simp only [smallB, Bool.and_eq_true] at hs
  intro t ht
  have h1 := List.all_eq_true.1 hs.2 t ht
  simp only [smallT, shortB, Bool.and_eq_true, decide_eq_true_eq] at h1
  exact ⟨by omega, by omega, by omega⟩
theorem small_n {p : List Un} {tgt : List Wan} {mu mt : Int} (hs : smallB p tgt mu mt = true) : ((p.length : Int) ≤ mu ∨ 2000 < p.length) ∧ ((tgt.length : Int) ≤ mt ∨ 500 < tgt.length) ∧ p.length ≤ 2100 ∧ tgt.length ≤ 600 := by
  simp only [smallB, sizesB, Bool.and_eq_true, decide_eq_true_eq] at hs
  exact ⟨hs.1.1.1, hs.1.1.2.2.1, hs.1.1.2.1, hs.1.1.2.2.2⟩
theorem small_spec (sp tp : SlV) (p : List Un) (tgt : List Wan) (mu mt : Int) (w : World) (hvo : VoIn w sp p) (htp : Stb w [] (RdL tp.v tgt)) : Calls Tryz.prog 17 #[sp.v, tp.v, .int .i64 mu, .int .i64 mt] w fun e w' => e = .returned (.bool (smallB p tgt mu mt)) ∧ Cl w [] [] w' := by
  have h1 : Stb w [] (RdL sp.v p) := rd_stb hvo.l
  have hL := rd_len hvo.l
  have hL2 := rd_len htp.here
  refine calls_cw (vs := [_, _, _, _]) Tryz.func17 rfl Tryz.ntmps17 rfl (Cl.start0 w) (cw_seq (cw_region (sr rfl rfl rfl ((q_assign rfl rfl)) (sw_nil (post_then (cw_seq (cw_seq (cw_region (sr rfl rfl rfl ((q_move rfl rfl)) ?_)))))))))
  refine sr rfl rfl rfl ((q_len rfl (.cons rfl inferInstance (.nil)) (by exact fun w hw => Stb.cl (by assumption) hw))) ?_
  refine sr rfl rfl rfl ((q_move rfl rfl)) (sr rfl rfl rfl ((q_gtr rfl rfl rfl)) (sr rfl rfl rfl ((q_move rfl rfl)) (sr rfl rfl rfl ((q_move rfl rfl)) ?_)))
  refine sr rfl rfl rfl ((q_len rfl (.cons rfl inferInstance (.nil)) (by exact fun w hw => Stb.cl (by assumption) hw))) ?_
  refine sr rfl rfl rfl ((q_leq rfl rfl rfl)) (sr rfl rfl rfl ((q_and2 rfl rfl rfl)) (sr rfl rfl rfl ((q_move rfl rfl)) (sr rfl rfl rfl ((q_move rfl rfl)) ?_)))
  refine sr rfl rfl rfl ((q_len rfl (.cons rfl inferInstance (.nil)) (by exact fun w hw => Stb.cl (by assumption) hw))) ?_
  refine sr rfl rfl rfl ((q_gtr rfl rfl rfl)) (sr rfl rfl rfl ((q_or2 rfl rfl rfl)) (sr rfl rfl rfl ((q_move rfl rfl)) (sr rfl rfl rfl ((q_move rfl rfl)) ?_)))
  refine sr rfl rfl rfl ((q_len rfl (.cons rfl inferInstance (.nil)) (by exact fun w hw => Stb.cl (by assumption) hw))) ?_
  refine sr rfl rfl rfl ((q_move rfl rfl)) (sr rfl rfl rfl ((q_gtr rfl rfl rfl)) (sr rfl rfl rfl ((q_move rfl rfl)) (sr rfl rfl rfl ((q_move rfl rfl)) ?_)))
  refine sr rfl rfl rfl ((q_len rfl (.cons rfl inferInstance (.nil)) (by exact fun w hw => Stb.cl (by assumption) hw))) ?_
  refine sr rfl rfl rfl ((q_leq rfl rfl rfl)) (sr rfl rfl rfl ((q_and2 rfl rfl rfl)) (sr rfl rfl rfl ((q_or2 rfl rfl rfl)) (sr rfl rfl rfl ((q_move rfl rfl)) (sr rfl rfl rfl ((q_move rfl rfl)) ?_))))
  refine sr rfl rfl rfl ((q_len rfl (.cons rfl inferInstance (.nil)) (by exact fun w hw => Stb.cl (by assumption) hw))) ?_
  refine sr rfl rfl rfl ((q_gtr rfl rfl rfl)) (sr rfl rfl rfl ((q_or2 rfl rfl rfl)) (sw_nil (post_then ?_)))
  refine cw_cond rfl (fun h => ?_) (fun h => ?_)
  · skip
    have h2 : sizesB p tgt mu mt = false := by
      simp only [sizesB, decide_eq_false_iff_not]
      simp only [Bool.or_eq_true, Bool.and_eq_true, decide_eq_true_eq] at h
      omega
    refine cw_seq (cw_region (sr rfl rfl rfl ((q_assign rfl rfl)) (sw_nil (post_then (cw_ret (post_then_r (post_ret1 rfl (resOk_tmp rfl) ?_)))))))
    exact fun w' hw => ⟨by rw [smallB, h2]; rfl, hw⟩
  · skip
    have h2 : sizesB p tgt mu mt = true := by
      simp only [sizesB, decide_eq_true_eq]
      simp only [Bool.or_eq_false_iff, Bool.and_eq_false_iff, decide_eq_false_iff_not] at h
      omega
    have hno : ∀ {b : Bool}, b = false → (sizesB p tgt mu mt && p.all smallU && b) = false := fun h => by rw [h, Bool.and_false]
    refine cw_skip (post_then (cw_seq (cw_seq (cw_region (sr rfl rfl rfl ((q_assign rfl rfl)) (sw_nil (post_then (cw_block ?_))))))))
    refine cw_loop (S := Nat) (fun k => [(0, [], sp.v), (1, [], tp.v), (9, [], .int .i64 k)]) (fun _ => Cl w [] []) (fun k => k ≤ p.length ∧ ∀ j, j < k → smallU (nth p j) = true) (fun k => p.length - k) 0 ⟨Nat.zero_le _, fun j hj => by omega⟩ (by exact .cons rfl (.cons rfl (.cons rfl .nil))) (fun _ h => h) ?_
    rintro k ⟨hk, he⟩
    refine cw_seq (cw_seq (cw_region (sr rfl rfl rfl ((q_move rfl rfl)) (sr rfl rfl rfl ((q_move rfl rfl)) ?_))))
    refine sr rfl rfl rfl ((q_len rfl (.cons rfl inferInstance (.nil)) (by exact fun w hw => Stb.cl (by assumption) hw))) ?_
    refine sr rfl rfl rfl ((q_lss rfl rfl rfl)) (sw_nil (post_then ?_))
    refine cw_cond rfl (fun h3 => ?_) (fun h3 => ?_)
    · skip
      have hk' : k < p.length := by simp only [decide_eq_true_eq] at h3; omega
      have hin := hvo.u _ (nth_mem hk')
      have l1 : (nth p k).bs.len = (nth p k).bl.length := (rd_lens hin.b).1
      have l2 : (nth p k).es.len = (nth p k).el.length := (rd_lens hin.e).1
      refine cw_skip (post_then (cw_seq (cw_block (cw_seq (cw_region (sr rfl rfl rfl ((q_move rfl rfl)) (sr rfl rfl rfl ((q_move rfl rfl)) ?_)))))))
      refine sr rfl rfl rfl ((q_indexN rfl rfl rfl (by exact fun w hw => Stb.cl (by assumption) hw) (by intro hc; omega))) ?_
      refine sr rfl rfl rfl ((q_loadEl rfl rfl rfl (by exact fun w hw => Stb.cl (by assumption) hw) (by intro hc; omega))) ?_
      refine sw_x rfl rfl rfl (e_alloc rfl) (fun b10 => ?_)
      refine sw_eff0 rfl rfl (e_store (i := 0) rfl rfl rfl rfl rfl rfl rfl rfl) (sw_nil (post_then (cw_seq (cw_region (sr rfl rfl rfl ((q_fieldAddr rfl rfl)) ?_)))))
      refine sr rfl rfl rfl ((q_loadC rfl rfl (by exact .head _) rfl)) ?_
      refine sw_step rfl rfl rfl (q_call (CanCall.mk Tryz.call62) rfl (.cons rfl inferInstance (.nil)) (fun _ w hw => callq hw (short_spec _ w))) (sr rfl rfl rfl ((q_not rfl rfl)) (sr rfl rfl rfl ((q_move rfl rfl)) (sr rfl rfl rfl ((q_fieldAddr rfl rfl)) ?_)))
      refine sr rfl rfl rfl ((q_loadC rfl rfl (by exact .head _) rfl)) ?_
      refine sw_step rfl rfl rfl (q_call (CanCall.mk Tryz.call62) rfl (.cons rfl inferInstance (.nil)) (fun _ w hw => callq hw (short_spec _ w))) (sr rfl rfl rfl ((q_not rfl rfl)) (sr rfl rfl rfl ((q_or2 rfl rfl rfl)) (sr rfl rfl rfl ((q_move rfl rfl)) (sr rfl rfl rfl ((q_fieldAddr rfl rfl)) ?_))))
      refine sr rfl rfl rfl ((q_loadC rfl rfl (by exact .head _) rfl)) ?_
      refine sw_step rfl rfl rfl (q_call (CanCall.mk Tryz.call62) rfl (.cons rfl inferInstance (.nil)) (fun _ w hw => callq hw (short_spec _ w))) (sr rfl rfl rfl ((q_not rfl rfl)) (sr rfl rfl rfl ((q_or2 rfl rfl rfl)) (sr rfl rfl rfl ((q_move rfl rfl)) (sr rfl rfl rfl ((q_fieldAddr rfl rfl)) ?_))))
      refine sr rfl rfl rfl ((q_loadC rfl rfl (by exact .head _) rfl)) ?_
      refine sr rfl rfl rfl ((q_lenV rfl (.cons rfl inferInstance (.nil)))) (sr rfl rfl rfl ((q_gtr rfl rfl rfl)) (sr rfl rfl rfl ((q_or2 rfl rfl rfl)) (sr rfl rfl rfl ((q_move rfl rfl)) (sr rfl rfl rfl ((q_fieldAddr rfl rfl)) ?_))))
      refine sr rfl rfl rfl ((q_loadC rfl rfl (by exact .head _) rfl)) ?_
      refine sr rfl rfl rfl ((q_lenV rfl (.cons rfl inferInstance (.nil)))) (sr rfl rfl rfl ((q_gtr rfl rfl rfl)) (sr rfl rfl rfl ((q_or2 rfl rfl rfl)) (sw_nil (post_then ?_))))
      rw [l1, l2]
      refine cw_cond rfl (fun h4 => ?_) (fun h4 => ?_)
      · skip
        have h5 : smallU (nth p k) = false := by
          simp only [Bool.or_eq_true, Bool.not_eq_true', decide_eq_true_eq] at h4
          simp only [smallU, Bool.and_eq_false_iff, decide_eq_false_iff_not]
          rcases h4 with (((h4 | h4) | h4) | h4) | h4
          · exact .inl (.inl (.inl (.inl h4)))
          · exact .inl (.inl (.inl (.inr h4)))
          · exact .inl (.inl (.inr h4))
          · exact .inl (.inr (by omega))
          · exact .inr (by omega)
        have h6 : p.all smallU = false := List.all_eq_false.2 ⟨nth p k, nth_mem hk', by rw [h5]; decide⟩
        refine cw_seq (cw_region (sr rfl rfl rfl ((q_assign rfl rfl)) (sw_nil (post_then (cw_ret (post_blk_r (post_then_r (post_then_r (post_blk_r (post_then_r (post_ret1 rfl (resOk_tmp rfl) ?_)))))))))))
        exact fun w' hw => ⟨by rw [smallB, h6, Bool.and_false]; rfl, (fun w h => Cl.sel (by exact .nil _) w h) _ hw⟩
      · skip
        have h5 : smallU (nth p k) = true := by
          simp only [Bool.or_eq_false_iff, Bool.not_eq_false', decide_eq_false_iff_not] at h4
          obtain ⟨⟨⟨⟨a1, a2⟩, a3⟩, a4⟩, a5⟩ := h4
          simp only [smallU, a1, a2, a3, Bool.and_eq_true, decide_eq_true_eq, true_and]
          omega
        refine cw_skip (post_blk (post_then (cw_region (sr rfl rfl rfl ((q_move rfl rfl)) ?_))))
        refine sr rfl rfl rfl ((q_add rfl rfl rfl (by intro hc; omega))) ?_
        refine sr rfl rfl rfl ((q_assign rfl rfl)) (sw_nil ?_)
        refine post_next (k + 1) (by exact .cons rfl (.cons rfl (.cons rfl .nil))) (fun w h => Cl.sel (by exact .nil _) w h) ⟨by omega, fun j hj => ?_⟩ (by omega)
        by_cases e : j = k
        · subst e; exact h5
        · exact he j (by omega)
    · skip
      have hk' : k = p.length := by simp only [decide_eq_false_iff_not] at h3; omega
      subst hk'
      have h6 : p.all smallU = true := List.all_eq_true.2 fun u hu => by
        obtain ⟨j, hj, rfl⟩ := List.getElem_of_mem hu
        have := he j hj
        rwa [nth_get hj] at this
      refine cw_exit (post_then_x (post_then_x (post_blk_eq (post_then (cw_seq (cw_seq (cw_region (sr rfl rfl rfl ((q_assign rfl rfl)) (sw_nil (post_then (cw_block ?_)))))))))))
      refine cw_loop (S := Nat) (fun k => [(1, [], tp.v), (11, [], .int .i64 k)]) (fun _ => Cl w [] []) (fun k => k ≤ tgt.length ∧ ∀ j, j < k → smallT (nth tgt j) = true) (fun k => tgt.length - k) 0 ⟨Nat.zero_le _, fun j hj => by omega⟩ (by exact .cons rfl (.cons rfl .nil)) (fun _ h => h) ?_
      rintro k ⟨hk, he2⟩
      refine cw_seq (cw_seq (cw_region (sr rfl rfl rfl ((q_move rfl rfl)) (sr rfl rfl rfl ((q_move rfl rfl)) ?_))))
      refine sr rfl rfl rfl ((q_len rfl (.cons rfl inferInstance (.nil)) (by exact fun w hw => Stb.cl (by assumption) hw))) ?_
      refine sr rfl rfl rfl ((q_lss rfl rfl rfl)) (sw_nil (post_then ?_))
      refine cw_cond rfl (fun h4 => ?_) (fun h4 => ?_)
      · skip
        have hk' : k < tgt.length := by simp only [decide_eq_true_eq] at h4; omega
        refine cw_skip (post_then (cw_seq (cw_block (cw_seq (cw_region (sr rfl rfl rfl ((q_move rfl rfl)) (sr rfl rfl rfl ((q_move rfl rfl)) ?_)))))))
        refine sr rfl rfl rfl ((q_indexN rfl rfl rfl (by exact fun w hw => Stb.cl (by assumption) hw) (by intro hc; omega))) ?_
        refine sr rfl rfl rfl ((q_fieldEl rfl rfl (by exact fun w hw => Stb.cl (by assumption) hw) (by intro hc; omega))) ?_
        refine sr rfl rfl rfl ((q_loadF rfl rfl rfl (by exact fun w hw => Stb.cl (by assumption) hw) (by intro hc; omega) rfl)) ?_
        refine sw_step rfl rfl rfl (q_call (CanCall.mk Tryz.call62) rfl (.cons rfl inferInstance (.nil)) (fun _ w hw => callq hw (short_spec _ w))) (sr rfl rfl rfl ((q_not rfl rfl)) (sr rfl rfl rfl ((q_move rfl rfl)) (sr rfl rfl rfl ((q_move rfl rfl)) (sr rfl rfl rfl ((q_move rfl rfl)) ?_))))
        refine sr rfl rfl rfl ((q_indexN rfl rfl rfl (by exact fun w hw => Stb.cl (by assumption) hw) (by intro hc; omega))) ?_
        refine sr rfl rfl rfl ((q_fieldEl rfl rfl (by exact fun w hw => Stb.cl (by assumption) hw) (by intro hc; omega))) ?_
        refine sr rfl rfl rfl ((q_loadF rfl rfl rfl (by exact fun w hw => Stb.cl (by assumption) hw) (by intro hc; omega) rfl)) ?_
        refine sw_step rfl rfl rfl (q_call (CanCall.mk Tryz.call62) rfl (.cons rfl inferInstance (.nil)) (fun _ w hw => callq hw (short_spec _ w))) (sr rfl rfl rfl ((q_not rfl rfl)) (sr rfl rfl rfl ((q_or2 rfl rfl rfl)) (sr rfl rfl rfl ((q_move rfl rfl)) (sr rfl rfl rfl ((q_move rfl rfl)) (sr rfl rfl rfl ((q_move rfl rfl)) ?_)))))
        refine sr rfl rfl rfl ((q_indexN rfl rfl rfl (by exact fun w hw => Stb.cl (by assumption) hw) (by intro hc; omega))) ?_
        refine sr rfl rfl rfl ((q_fieldEl rfl rfl (by exact fun w hw => Stb.cl (by assumption) hw) (by intro hc; omega))) ?_
        refine sr rfl rfl rfl ((q_loadF rfl rfl rfl (by exact fun w hw => Stb.cl (by assumption) hw) (by intro hc; omega) rfl)) ?_
        refine sw_step rfl rfl rfl (q_call (CanCall.mk Tryz.call62) rfl (.cons rfl inferInstance (.nil)) (fun _ w hw => callq hw (short_spec _ w))) (sr rfl rfl rfl ((q_not rfl rfl)) (sr rfl rfl rfl ((q_or2 rfl rfl rfl)) (sw_nil (post_then ?_))))
        refine cw_cond rfl (fun h5 => ?_) (fun h5 => ?_)
        · skip
          have h7 : smallT (nth tgt k) = false := by
            simp only [Bool.or_eq_true, Bool.not_eq_true'] at h5
            simp only [smallT, Bool.and_eq_false_iff]
            exact h5
          have h8 : tgt.all smallT = false := List.all_eq_false.2 ⟨nth tgt k, nth_mem hk', by rw [h7]; decide⟩
          refine cw_seq (cw_region (sr rfl rfl rfl ((q_assign rfl rfl)) (sw_nil (post_then (cw_ret (post_blk_r (post_then_r (post_then_r (post_blk_r (post_then_r (post_ret1 rfl (resOk_tmp rfl) ?_)))))))))))
          exact fun w' hw => ⟨by rw [smallB, h8, Bool.and_false], (fun w h => Cl.sel (by exact .nil _) w h) _ hw⟩
        · skip
          have h7 : smallT (nth tgt k) = true := by
            simp only [Bool.or_eq_false_iff, Bool.not_eq_false'] at h5
            simp only [smallT, Bool.and_eq_true]
            exact h5
          refine cw_skip (post_blk (post_then (cw_region (sr rfl rfl rfl ((q_move rfl rfl)) ?_))))
          refine sr rfl rfl rfl ((q_add rfl rfl rfl (by intro hc; omega))) ?_
          refine sr rfl rfl rfl ((q_assign rfl rfl)) (sw_nil ?_)
          refine post_next (k + 1) (by exact .cons rfl (.cons rfl .nil)) (fun w h => Cl.sel (by exact .nil _) w h) ⟨by omega, fun j hj => ?_⟩ (by omega)
          by_cases e : j = k
          · subst e; exact h7
          · exact he2 j (by omega)
      · skip
        have hk' : k = tgt.length := by simp only [decide_eq_false_iff_not] at h4; omega
        subst hk'
        have h8 : tgt.all smallT = true := List.all_eq_true.2 fun u hu => by
          obtain ⟨j, hj, rfl⟩ := List.getElem_of_mem hu
          have := he2 j hj
          rwa [nth_get hj] at this
        refine cw_exit (post_then_x (post_then_x (post_blk_eq (post_then (cw_seq (cw_region (sr rfl rfl rfl ((q_assign rfl rfl)) (sw_nil (post_then (cw_ret (post_ret1 rfl (resOk_tmp rfl) ?_)))))))))))
        exact fun w' hw => ⟨by rw [smallB, h2, h6, h8]; rfl, hw⟩
theorem refAll_spec (tp : SlV) (tgt : List Wan) (w : World) (htp : Stb w [] (RdL tp.v tgt)) (hwa : ∀ t ∈ tgt, WaRd t) : Calls Tryz.prog 68 #[tp.v] w fun e w' => e = .returned (.bool (tgt.all waB)) ∧ Cl w [] [] w' := by
  have hL2 := rd_len htp.here
  refine calls_cw (vs := [_]) Tryz.func68 rfl Tryz.ntmps68 rfl (Cl.start0 w) (cw_seq (cw_region (sr rfl rfl rfl ((q_assign rfl rfl)) (sw_nil (post_then (cw_seq (cw_seq (cw_region (sr rfl rfl rfl ((q_assign rfl rfl)) (sw_nil (post_then (cw_block ?_))))))))))))
  refine cw_loop (S := Nat) (fun k => [(0, [], tp.v), (3, [], .int .i64 k)]) (fun _ => Cl w [] []) (fun k => k ≤ tgt.length ∧ ∀ j, j < k → waB (nth tgt j) = true) (fun k => tgt.length - k) 0 ⟨Nat.zero_le _, fun j hj => by omega⟩ (by exact .cons rfl (.cons rfl .nil)) (fun _ h => h) ?_
  rintro k ⟨hk, he⟩
  refine cw_seq (cw_seq (cw_region (sr rfl rfl rfl ((q_move rfl rfl)) (sr rfl rfl rfl ((q_move rfl rfl)) ?_))))
  refine sr rfl rfl rfl ((q_len rfl (.cons rfl inferInstance (.nil)) (by exact fun w hw => Stb.cl (by assumption) hw))) ?_
  refine sr rfl rfl rfl ((q_lss rfl rfl rfl)) (sw_nil (post_then ?_))
  refine cw_cond rfl (fun h => ?_) (fun h => ?_)
  · skip
    have hk' : k < tgt.length := by simp only [decide_eq_true_eq] at h; omega
    have hwk := hwa _ (nth_mem hk')
    refine cw_skip (post_then (cw_seq (cw_block (cw_seq (cw_region (sr rfl rfl rfl ((q_move rfl rfl)) (sr rfl rfl rfl ((q_move rfl rfl)) ?_)))))))
    refine sr rfl rfl rfl ((q_indexN rfl rfl rfl (by exact fun w hw => Stb.cl (by assumption) hw) (by intro hc; omega))) ?_
    refine sr rfl rfl rfl ((q_loadEl rfl rfl rfl (by exact fun w hw => Stb.cl (by assumption) hw) (by intro hc; omega))) ?_
    refine sw_step rfl rfl rfl (q_call (CanCall.mk Tryz.call47) rfl (.cons rfl inferInstance (.nil)) (fun _ w hw => callq hw (refWanted_spec (nth tgt k) w hwk))) (sr rfl rfl rfl ((q_not rfl rfl)) (sw_nil (post_then ?_)))
    refine cw_cond rfl (fun h2 => ?_) (fun h2 => ?_)
    · skip
      have h3 : tgt.all waB = false := List.all_eq_false.2 ⟨nth tgt k, nth_mem hk', by simpa using h2⟩
      refine cw_seq (cw_region (sr rfl rfl rfl ((q_assign rfl rfl)) (sw_nil (post_then (cw_ret (post_blk_r (post_then_r (post_then_r (post_blk_r (post_then_r (post_ret1 rfl (resOk_tmp rfl) ?_)))))))))))
      exact fun w' hw => ⟨by rw [h3], hw⟩
    · skip
      refine cw_skip (post_blk (post_then (cw_region (sr rfl rfl rfl ((q_move rfl rfl)) ?_))))
      refine sr rfl rfl rfl ((q_add rfl rfl rfl (by intro hc; omega))) ?_
      refine sr rfl rfl rfl ((q_assign rfl rfl)) (sw_nil ?_)
      refine post_next (k + 1) (by exact .cons rfl (.cons rfl .nil)) (fun _ h => h) ⟨by omega, fun j hj => ?_⟩ (by omega)
      by_cases e : j = k
      · subst e; simpa using h2
      · exact he j (by omega)
  · skip
    have hk' : k = tgt.length := by simp only [decide_eq_false_iff_not] at h; omega
    subst hk'
    have h3 : tgt.all waB = true := List.all_eq_true.2 fun u hu => by
      obtain ⟨j, hj, rfl⟩ := List.getElem_of_mem hu
      have := he j hj
      rwa [nth_get hj] at this
    refine cw_exit (post_then_x (post_then_x (post_blk_eq (post_then (cw_seq (cw_region (sr rfl rfl rfl ((q_assign rfl rfl)) (sw_nil (post_then (cw_ret (post_ret1 rfl (resOk_tmp rfl) ?_)))))))))))
    exact fun w' hw => ⟨by rw [h3], hw⟩
theorem wrong_spec (sp tp : SlV) (p : List Un) (tgt : List Wan) (x : Wts) (w : World) (hvo : VoRd w sp p) (htp : Stb w [] (RdL tp.v tgt)) (hwa : ∀ t ∈ tgt, WaRd t) : Calls Tryz.prog 20 #[sp.v, tp.v, val x] w fun e w' => e = .returned (.int .i64 (beginE p tgt x)) ∧ Cl w [] [] w' := by
  have h1 := hvo.l
  refine calls_cw (vs := [_, _, _]) Tryz.func20 rfl Tryz.ntmps20 rfl (Cl.start0 w) (cw_seq (cw_region ?_))
  refine sw_x rfl rfl rfl (e_box rfl rfl rfl) (fun b5 => ?_)
  refine sr rfl rfl rfl ((q_assign rfl rfl)) (sw_nil (post_then (cw_seq (cw_seq (cw_region (sr rfl rfl rfl ((q_move rfl rfl)) ?_))))))
  refine sr rfl rfl rfl ((q_len rfl (.cons rfl inferInstance (.nil)) (by exact fun w hw => Stb.cl (by assumption) hw))) ?_
  refine sr rfl rfl rfl ((q_gtr rfl rfl rfl)) (sr rfl rfl rfl ((q_move rfl rfl)) (sr rfl rfl rfl ((q_move rfl rfl)) ?_))
  refine sr rfl rfl rfl ((q_len rfl (.cons rfl inferInstance (.nil)) (by exact fun w hw => Stb.cl (by assumption) hw))) ?_
  refine sr rfl rfl rfl ((q_gtr rfl rfl rfl)) (sr rfl rfl rfl ((q_or2 rfl rfl rfl)) (sw_nil (post_then ?_)))
  refine cw_cond rfl (fun h => ?_) (fun h => ?_)
  · skip
    have h2 : 2000 < p.length ∨ 500 < tgt.length := by
      simp only [Bool.or_eq_true, decide_eq_true_eq] at h; omega
    refine cw_seq (cw_region (sr rfl rfl rfl ((q_assign rfl rfl)) (sw_nil (post_then (cw_ret (post_then_r (post_ret1 rfl (resOk_tmp rfl) ?_)))))))
    exact fun w' hw => ⟨by rw [beginE, if_pos h2], (fun w h => Cl.sel (by exact .nil _) w h) _ hw⟩
  · skip
    have h2 : ¬ (2000 < p.length ∨ 500 < tgt.length) := by
      simp only [Bool.or_eq_false_iff, decide_eq_false_iff_not] at h; omega
    refine cw_skip (post_then (cw_seq (cw_seq (cw_region (sr rfl rfl rfl ((q_move rfl rfl)) (sw_step rfl rfl rfl (q_call (CanCall.mk Tryz.call28) rfl (.cons rfl inferInstance (.nil)) (fun _ w hw => callq hw (refVoice_spec sp p w (hvo.arg hw)))) (sr rfl rfl rfl ((q_not rfl rfl)) (sr rfl rfl rfl ((q_move rfl rfl)) (sr rfl rfl rfl ((q_move rfl rfl)) (sw_step rfl rfl rfl (q_call (CanCall.mk Tryz.call68) rfl (.cons rfl inferInstance (.nil)) (fun _ w hw => callq hw (refAll_spec tp tgt w (stb_arg hw htp) hwa))) (sr rfl rfl rfl ((q_not rfl rfl)) (sr rfl rfl rfl ((q_or2 rfl rfl rfl)) (sr rfl rfl rfl ((q_move rfl rfl)) ?_)))))))))))))
    refine sr rfl rfl rfl ((q_loadA rfl rfl (by exact .head _) rfl)) ?_
    refine sw_step rfl rfl rfl (q_call (CanCall.mk Tryz.call48) rfl (.cons rfl inferInstance (.nil)) (fun _ w hw => callq hw (refWeights_spec x w))) (sr rfl rfl rfl ((q_not rfl rfl)) (sr rfl rfl rfl ((q_or2 rfl rfl rfl)) (sw_nil (post_then ?_))))
    refine cw_cond rfl (fun h3 => ?_) (fun h3 => ?_)
    · skip
      have h4 : (voiceB p && tgt.all waB && wtB x) = false := by
        simp only [Bool.or_eq_true, Bool.not_eq_true'] at h3
        simp only [Bool.and_eq_false_iff]; exact h3
      refine cw_seq (cw_region (sr rfl rfl rfl ((q_assign rfl rfl)) (sw_nil (post_then (cw_ret (post_then_r (post_ret1 rfl (resOk_tmp rfl) ?_)))))))
      exact fun w' hw => ⟨by rw [beginE, if_neg h2, h4]; rfl, (fun w h => Cl.sel (by exact .nil _) w h) _ hw⟩
    · skip
      have h4 : (voiceB p && tgt.all waB && wtB x) = true := by
        simp only [Bool.or_eq_false_iff, Bool.not_eq_false'] at h3
        simp only [Bool.and_eq_true]; exact h3
      refine cw_skip (post_then (cw_seq (cw_region (sr rfl rfl rfl ((q_assign rfl rfl)) (sw_nil (post_then (cw_ret (post_ret1 rfl (resOk_tmp rfl) ?_))))))))
      exact fun w' hw => ⟨by rw [beginE, if_neg h2, h4]; rfl, (fun w h => Cl.sel (by exact .nil _) w h) _ hw⟩
end Go.Proofs.YtomjbfeafodfbaaGreat

set_option autoImplicit false
namespace Go.Proofs.YtomjbfeafodfbaaGreat
open Go.Sx
theorem vo_in {W : World} {s : SlV} {l : List Un} (h : Stb W [] (rdSl dUn.rd s l)) : VoIn W s l := by
  obtain ⟨ls, h1, h2, h3⟩ := h.here
  have e : ls = l := List.ext_getElem h2 fun i hi hj => (h3 i _ _ (List.getElem?_eq_getElem hi) (List.getElem?_eq_getElem hj)).1
  subst e
  refine ⟨h1, fun u hu => ?_⟩
  obtain ⟨i, hi, rfl⟩ := List.getElem_of_mem hu
  exact (h3 i _ _ (List.getElem?_eq_getElem hi) (List.getElem?_eq_getElem hi)).2
theorem unIn_arg {w0 w : World} {H : List Asn} {u : Un} (hw : Cl w0 [] H w) (h : UnIn u w0) : UnIn u w := ⟨h.s1, h.s2, h.s3, (stb_arg hw (rd_stb h.b)).here, (stb_arg hw (rd_stb h.e)).here⟩
theorem voIn_arg {w0 w : World} {H : List Asn} {sp : SlV} {p : List Un} (hw : Cl w0 [] H w) (h : VoIn w0 sp p) : VoIn w sp p := h.stb.cl hw |> fun x => x
end Go.Proofs.YtomjbfeafodfbaaGreat

/- The best sequence, chosen step by step out of the certificate. Plain lemmas, no program text. -/
set_option autoImplicit false
namespace Go.Sx
/-- The least of a list, -1 of none. -/
def mn : List Int → Int
  | [] => -1
  | x :: r => r.foldl min x
theorem mn_snoc (l : List Int) (x : Int) : mn (l ++ [x]) = if l = [] then x else min (mn l) x := by
  cases l with
  | nil => rfl
  | cons y r => simp [mn]
theorem minL_mn {l : List Int} (hl : l ≠ []) (hb : ∀ x ∈ l, x ≤ 9223372036854775807) : minL l = mn l := by
  cases l with
  | nil => exact absurd rfl hl
  | cons x r =>
    have h := hb x (by simp)
    simp only [minL, mn, List.foldl_cons]
    rw [show min 9223372036854775807 x = x by omega]
namespace Tsk
variable (t : Tsk)
def jn (last : Option Int) (v : Int) : Int := match last with
  | some u => t.J u v
  | none => 0
def mi (k : Nat) (last : Option Int) : Int := minL ((t.us (t.T - k)).map fun v => t.jn last v + t.R k v)
def gr : Nat → Option Int → List Int
  | 0, _ => []
  | k + 1, last => match (t.us (t.T - (k + 1))).find? fun v => decide (t.jn last v + t.R (k + 1) v = t.mi (k + 1) last) with
    | some v => v :: gr k (some v)
    | none => []
/-- The units for a target rise. -/
def Rise : Prop := ∀ i, (t.us i).Pairwise (· < ·)
/-- No sum is as great as the greatest int. -/
def Low : Prop := ∀ k last v, k ≤ t.T → 1 ≤ k → v ∈ t.us (t.T - k) → (∀ u, last = some u → u ∈ t.us (t.T - (k + 1))) → t.jn last v + t.R k v ≤ 9223372036854775807
variable {t}
theorem mi_mem {k : Nat} {last : Option Int} (hne : t.us (t.T - k) ≠ []) (hb : ∀ v ∈ t.us (t.T - k), t.jn last v + t.R k v ≤ 9223372036854775807) : ∃ v ∈ t.us (t.T - k), t.jn last v + t.R k v = t.mi k last := by
  have := minL_mem (l := (t.us (t.T - k)).map fun v => t.jn last v + t.R k v) (by simpa using hne) (fun x hx => by
    obtain ⟨v, hv, rfl⟩ := List.mem_map.1 hx
    exact hb v hv)
  obtain ⟨v, hv, he⟩ := List.mem_map.1 this
  exact ⟨v, hv, he⟩
theorem mi_le {k : Nat} {last : Option Int} {v : Int} (hv : v ∈ t.us (t.T - k)) : t.mi k last ≤ t.jn last v + t.R k v := minL_le (List.mem_map_of_mem hv)
theorem find_first {l : List Int} (hl : l.Pairwise (· < ·)) {p : Int → Bool} {v : Int} (h : l.find? p = some v) : v ∈ l ∧ p v = true ∧ ∀ u ∈ l, p u = true → v ≤ u := by
  induction l with
  | nil => simp at h
  | cons x r ih =>
    rw [List.find?_cons] at h
    have hp := List.pairwise_cons.1 hl
    cases hx : p x with
    | true =>
      rw [hx] at h
      cases h
      refine ⟨by simp, hx, fun u hu _ => ?_⟩
      rcases List.mem_cons.1 hu with rfl | hu
      · exact Int.le_refl _
      · exact Int.le_of_lt (hp.1 u hu)
    | false =>
      rw [hx] at h
      obtain ⟨h1, h2, h3⟩ := ih hp.2 h
      refine ⟨by simp [h1], h2, fun u hu hpu => ?_⟩
      rcases List.mem_cons.1 hu with rfl | hu
      · rw [hx] at hpu; cases hpu
      · exact h3 u hu hpu
theorem gr_best (hr : t.Rise) (hp : ∀ i, i < t.T → t.us i ≠ []) (hb : ∀ k last v, k ≤ t.T → 1 ≤ k → v ∈ t.us (t.T - k) → (∀ u, last = some u → u ∈ t.us (t.T - (k + 1))) → t.jn last v + t.R k v ≤ 9223372036854775807) :
    ∀ (k : Nat) (last : Option Int), k ≤ t.T → 1 ≤ k → (∀ u, last = some u → u ∈ t.us (t.T - (k + 1))) → ∃ v r, t.gr k last = v :: r ∧ v :: r ∈ t.tl k ∧ t.jn last v + t.tc (t.T - k) (v :: r) = t.mi k last ∧
      ∀ v' r', v' :: r' ∈ t.tl k → v' :: r' = v :: r ∨ t.mi k last < t.jn last v' + t.tc (t.T - k) (v' :: r') ∨ (t.mi k last = t.jn last v' + t.tc (t.T - k) (v' :: r') ∧ lexLt (v :: r) (v' :: r') = true)
  | 0, _, _, h, _ => by omega
  | k + 1, last, hk, _, hlast => by
    obtain ⟨w, hw1, hw2⟩ := mi_mem (k := k + 1) (last := last) (hp _ (by omega)) (fun v hv => hb (k + 1) last v hk (by omega) hv hlast)
    cases hf : (t.us (t.T - (k + 1))).find? fun v => decide (t.jn last v + t.R (k + 1) v = t.mi (k + 1) last) with
    | none =>
      have := List.find?_eq_none.1 hf w hw1
      simp [hw2] at this
    | some v =>
      obtain ⟨h1, h2, h3⟩ := find_first (hr _) hf
      simp only [decide_eq_true_eq] at h2
      have hg : t.gr (k + 1) last = v :: t.gr k (some v) := by rw [gr, hf]
      by_cases h0 : k = 0
      · subst h0
        refine ⟨v, [], by rw [hg]; rfl, ?_, ?_, fun v' r' hv' => ?_⟩
        · simp only [tl, List.mem_flatMap, List.map_cons, List.map_nil]
          exact ⟨v, h1, by simp⟩
        · rw [← h2]; simp [tc, R]
        · simp only [tl, List.mem_flatMap, List.map_cons, List.map_nil, List.mem_singleton, List.cons.injEq] at hv'
          obtain ⟨u, hu, rfl, rfl⟩ := hv'
          have hle := mi_le (last := last) hu
          have e : t.tc (t.T - (0 + 1)) [v'] = t.R (0 + 1) v' := by simp [tc, R]
          rw [e]
          by_cases e1 : v' = v
          · left; rw [e1]
          · by_cases e2 : t.jn last v' + t.R (0 + 1) v' = t.mi (0 + 1) last
            · right; right
              refine ⟨e2.symm, ?_⟩
              have := h3 v' hu (by simpa using e2)
              simp only [lexLt]
              simp; omega
            · right; left; omega
      · have hmem : v ∈ t.us (t.T - (k + 1)) := h1
        obtain ⟨v2, r2, g1, g2, g3, g4⟩ := gr_best hr hp hb k (some v) (by omega) (by omega) (fun u hu => by cases hu; exact hmem)
        have eT : t.T - (k + 1) + 1 = t.T - k := by omega
        have hR : ∀ u, t.R (k + 1) u = t.F (t.T - (k + 1)) u + t.mi k (some u) := fun u => by rw [R, if_neg h0]; rfl
        have htc : ∀ u a s, t.tc (t.T - (k + 1)) (u :: a :: s) = t.F (t.T - (k + 1)) u + (t.jn (some u) a + t.tc (t.T - k) (a :: s)) := fun u a s => by rw [tc, eT]; simp only [jn]; omega
        refine ⟨v, v2 :: r2, by rw [hg, g1], ?_, ?_, fun v' r' hv' => ?_⟩
        · rw [tl]
          exact List.mem_flatMap.2 ⟨v, h1, List.mem_map_of_mem g2⟩
        · rw [htc, g3, ← hR]; exact h2
        · rw [tl] at hv'
          obtain ⟨u, hu, hm⟩ := List.mem_flatMap.1 hv'
          obtain ⟨s, hs, he⟩ := List.mem_map.1 hm
          simp only [List.cons.injEq] at he
          obtain ⟨rfl, rfl⟩ := he
          have hsl := t.tl_len k s hs
          match s, hsl with
          | [], hsl => simp only [List.length_nil] at hsl; omega
          | a :: s, _ =>
            have hle := mi_le (last := last) hu
            have hle2 : t.mi k (some u) ≤ t.jn (some u) a + t.tc (t.T - k) (a :: s) := by
              obtain ⟨v3, r3, _, _, _, q4⟩ := gr_best hr hp hb k (some u) (by omega) (by omega) (fun x hx => by cases hx; exact hu)
              rename_i q3
              rcases q4 a s hs with h5 | h5 | h5
              · simp only [List.cons.injEq] at h5
                obtain ⟨rfl, rfl⟩ := h5
                omega
              · omega
              · omega
            rw [htc]
            by_cases e1 : u = v
            · subst e1
              rcases g4 a s hs with h5 | h5 | ⟨h5, h6⟩
              · left; rw [h5]
              · right; left; have := hR u; omega
              · right; right
                have := hR u
                refine ⟨by omega, ?_⟩
                show (decide (u < u) || (decide (u = u) && lexLt (v2 :: r2) (a :: s))) = true
                rw [h6]; simp
            · by_cases e2 : t.jn last u + t.R (k + 1) u = t.mi (k + 1) last
              · have h7 := h3 u hu (by simpa using e2)
                have := hR u
                by_cases e3 : t.mi (k + 1) last < t.jn last u + (t.F (t.T - (k + 1)) u + (t.jn (some u) a + t.tc (t.T - k) (a :: s)))
                · exact .inr (.inl e3)
                · right; right
                  refine ⟨by omega, ?_⟩
                  simp only [lexLt]
                  simp; omega
              · right; left; have := hR u; omega
end Tsk
end Go.Sx

/- All sequences, built target by target; put in order by their costs. Plain lemmas, no program text. -/
set_option autoImplicit false
namespace Go.Sx
theorem seqLt_as {x y : List Int × Int} (h : seqLt x y) : ¬ seqLt y x := by
  intro k
  rcases h with h | ⟨h, h'⟩ <;> rcases k with k | ⟨k, k'⟩
  · omega
  · omega
  · omega
  · rw [lex_as _ _ h'] at k'; cases k'
/-- A sorted list that begins with the sorted smaller ones. -/
theorem take_sorted {α : Type} {r : α → α → Prop} (asy : ∀ a b, r a b → ¬ r b a) : ∀ {a b l : List α}, l.Pairwise r → l.Perm (a ++ b) → a.Pairwise r → (∀ x ∈ a, ∀ y ∈ b, r x y) → l.take a.length = a
  | [], _, _, _, _, _, _ => by simp
  | x :: a, b, l, hl, hp, ha, hab => by
    cases l with
    | nil => exact absurd hp.length_eq (by simp)
    | cons y l =>
      have h1 := List.pairwise_cons.1 ha
      have h2 := List.pairwise_cons.1 hl
      have hxl : x ∈ y :: l := hp.mem_iff.2 (by simp)
      have hy : y ∈ x :: a ++ b := hp.mem_iff.1 (by simp)
      have hyx : y = x := by
        rcases List.mem_cons.1 hxl with e | e
        · exact e.symm
        · exfalso
          have k1 := h2.1 x e
          rcases List.mem_append.1 hy with f | f
          · rcases List.mem_cons.1 f with g | g
            · subst g; exact asy _ _ k1 k1
            · exact asy _ _ k1 (h1.1 y g)
          · exact asy _ _ k1 (hab x (by simp) y f)
      subst hyx
      have := take_sorted asy (a := a) (b := b) h2.2 hp.cons_inv h1.2 (fun z hz => hab z (by simp [hz]))
      rw [List.length_cons, List.take_succ_cons, this]
/-- Where a sequence goes: behind those that do not cost more. -/
theorem ins_sorted {out : List (List Int × Int)} (hs : out.Pairwise seqLt) {x : List Int × Int} (hlex : ∀ o ∈ out, lexLt o.1 x.1 = true) {k : Nat} (hk : k ≤ out.length) (hhi : ∀ j, k ≤ j → j < out.length → x.2 < (nth out j).2) (hlo : k = 0 ∨ (nth out (k - 1)).2 ≤ x.2) : (out.take k ++ [x] ++ out.drop k).Pairwise seqLt := by
  have e : out = out.take k ++ out.drop k := (List.take_append_drop k out).symm
  rw [e] at hs
  obtain ⟨p1, p2, p3⟩ := List.pairwise_append.1 hs
  have hd : ∀ o ∈ out.drop k, x.2 < o.2 := fun o ho => by
    obtain ⟨i, hi, rfl⟩ := List.getElem_of_mem ho
    rw [List.length_drop] at hi
    have := hhi (k + i) (by omega) (by omega)
    rw [nth_get (by omega)] at this
    simpa using this
  have ht : ∀ o ∈ out.take k, o.2 ≤ x.2 := fun o ho => by
    rcases hlo with h | h
    · subst h; simp at ho
    · by_cases h0 : k = 0
      · subst h0; simp at ho
      · have e2 : out.take k = out.take (k - 1) ++ [nth out (k - 1)] := by
          have : k - 1 < out.length := by omega
          rw [nth_get this, ← List.take_succ_eq_append_getElem this, show k - 1 + 1 = k by omega]
        rw [e2] at ho p1
        rcases List.mem_append.1 ho with ho | ho
        · have := (List.pairwise_append.1 p1).2.2 o ho _ (List.mem_singleton.2 rfl)
          rcases this with f | ⟨f, _⟩ <;> omega
        · rw [List.mem_singleton.1 ho]; exact h
  refine List.pairwise_append.2 ⟨List.pairwise_append.2 ⟨p1, by simp, fun a ha b hb => ?_⟩, p2, fun a ha b hb => ?_⟩
  · simp only [List.mem_singleton] at hb
    subst hb
    have h1 := ht a ha
    by_cases e1 : a.2 = b.2
    · exact .inr ⟨e1, hlex a (List.mem_of_mem_take ha)⟩
    · exact .inl (by omega)
  · rcases List.mem_append.1 ha with ha | ha
    · exact p3 a ha b hb
    · simp only [List.mem_singleton] at ha
      subst ha
      exact .inl (hd b hb)
namespace Tsk
variable (t : Tsk)
/-- The beginnings with so many targets. -/
def pre : Nat → List (List Int)
  | 0 => [[]]
  | i + 1 => (pre i).flatMap fun s => (t.us i).map fun u => s ++ [u]
theorem pre_len : ∀ i, ∀ s ∈ t.pre i, s.length = i
  | 0, s, h => by simp [pre] at h; simp [h]
  | i + 1, s, h => by
    simp only [pre, List.mem_flatMap, List.mem_map] at h
    obtain ⟨s', hs, u, _, rfl⟩ := h
    simp [pre_len i s' hs]
theorem pre_mem : ∀ i, ∀ s ∈ t.pre i, ∀ k, k < i → nth s k ∈ t.us k
  | 0, _, _, k, hk => by omega
  | i + 1, s, h, k, hk => by
    simp only [pre, List.mem_flatMap, List.mem_map] at h
    obtain ⟨s', hs, u, hu, rfl⟩ := h
    have hl := pre_len t i s' hs
    by_cases e : k = i
    · subst e
      have : nth (s' ++ [u]) k = u := by simp only [nth, List.getD]; rw [List.getElem?_append_right (by omega)]; simp [hl]
      rw [this]; exact hu
    · have : nth (s' ++ [u]) k = nth s' k := by simp only [nth, List.getD]; rw [List.getElem?_append_left (by omega)]
      rw [this]; exact pre_mem i s' hs k (by omega)
theorem pre_tl : ∀ i k, i + k = t.T → t.tl t.T = (t.pre i).flatMap fun s => (t.tl k).map (s ++ ·)
  | 0, k, h => by simp only [pre, List.flatMap_cons, List.flatMap_nil, List.append_nil, List.nil_append]; rw [show t.T = k by omega]; simp
  | i + 1, k, h => by
    rw [pre_tl i (k + 1) (by omega), pre, List.flatMap_assoc]
    congr 1
    funext s
    rw [tl, show t.T - (k + 1) = i by omega, List.map_flatMap, List.flatMap_map]
    congr 1
    funext u
    simp [List.map_map, Function.comp_def]
theorem pre_all : t.tl t.T = t.pre t.T := by
  rw [t.pre_tl t.T 0 (by omega)]
  simp [tl]
theorem lex_cons (u : Int) (a b : List Int) (h : lexLt a b = true) : lexLt (u :: a) (u :: b) = true := by
  show (decide (u < u) || (decide (u = u) && lexLt a b)) = true
  rw [h]; simp
theorem tl_lex (hr : t.Rise) : ∀ k, (t.tl k).Pairwise (fun a b => lexLt a b = true)
  | 0 => by simp [tl]
  | k + 1 => by
    rw [tl, List.pairwise_flatMap]
    refine ⟨fun u _ => List.pairwise_map.2 ((tl_lex hr k).imp fun h => lex_cons u _ _ h), ?_⟩
    refine (hr _).imp fun {u v} huv x hx y hy => ?_
    obtain ⟨a, _, rfl⟩ := List.mem_map.1 hx
    obtain ⟨b, _, rfl⟩ := List.mem_map.1 hy
    show (decide (u < v) || (decide (u = v) && lexLt a b)) = true
    simp [huv]
/-- All sequences in their order. -/
def allS : List (List Int × Int) → Prop := fun l => l.Pairwise seqLt ∧ l.Perm ((t.tl t.T).map fun s => (s, t.tc 0 s))
theorem allS_bf {t : Tsk} {l : List Itm} {out all : List (List Int × Int)} (ha : t.allS all) (h : t.BF l out) : all.take out.length = out := by
  refine take_sorted (r := seqLt) (fun a b h => seqLt_as h) (b := (l.flatMap t.comp).map fun s => (s, t.tc 0 s)) ha.1 (ha.2.trans ?_) h.srt (fun x hx y hy => ?_)
  · have e : out = (out.map (·.1)).map fun s => (s, t.tc 0 s) := by
      rw [List.map_map]
      refine (List.map_id out).symm.trans (List.map_congr_left fun o ho => ?_)
      have := h.cst o ho
      simp only [id, Function.comp]
      rw [← this]
    conv => rhs; lhs; rw [e]
    rw [← List.map_append]
    exact (h.cov.symm.trans List.perm_append_comm).map _
  · obtain ⟨s, hs, rfl⟩ := List.mem_map.1 hy
    exact h.bel x hx s hs
theorem allS_len {t : Tsk} {l : List Itm} {out all : List (List Int × Int)} (ha : t.allS all) (h : t.BF l out) {n : Nat} (h1 : l = [] ∨ out.length = n) (h2 : out.length ≤ n) : out.length = min n all.length := by
  have e1 : all.length = (l.flatMap t.comp).length + out.length := by
    rw [ha.2.length_eq, List.length_map, ← h.cov.length_eq, List.length_append, List.length_map]
  rcases h1 with h1 | h1
  · subst h1
    simp only [List.flatMap_nil, List.length_nil] at e1
    omega
  · omega
/-- The best one is the first one. -/
theorem allS_first {t : Tsk} {all : List (List Int × Int)} (ha : t.allS all) {s : List Int} {c : Int} (h1 : s ∈ t.tl t.T) (h2 : c = t.tc 0 s) (h3 : ∀ s' ∈ t.tl t.T, s' = s ∨ seqLt (s, c) (s', t.tc 0 s')) : ∃ r, all = (s, c) :: r := by
  have hm : (s, c) ∈ all := ha.2.mem_iff.2 (List.mem_map.2 ⟨s, h1, by rw [h2]⟩)
  cases all with
  | nil => cases hm
  | cons y r =>
    refine ⟨r, ?_⟩
    rcases List.mem_cons.1 hm with e | e
    · rw [e]
    · exfalso
      have k1 := (List.pairwise_cons.1 ha.1).1 _ e
      have hy : y ∈ (t.tl t.T).map fun s => (s, t.tc 0 s) := ha.2.mem_iff.1 (by simp)
      obtain ⟨s', hs', rfl⟩ := List.mem_map.1 hy
      rcases h3 s' hs' with f | f
      · subst f; rw [← h2] at k1; exact seqLt_as k1 k1
      · exact seqLt_as k1 f
end Tsk
end Go.Sx

/- Sequences for nothing, more units, no join costs. Plain lemmas, no program text. -/
set_option autoImplicit false
namespace Go.Sx
theorem nth_cons_zero (u : Int) (s : List Int) : nth (u :: s) 0 = u := rfl
theorem nth_cons_succ (u : Int) (s : List Int) (j : Nat) : nth (u :: s) (j + 1) = nth s j := by simp [nth]
namespace Tsk
variable {t : Tsk}
theorem mem_tl : ∀ (k : Nat) (s : List Int), k ≤ t.T → (s ∈ t.tl k ↔ s.length = k ∧ ∀ j, j < k → nth s j ∈ t.us (t.T - k + j))
  | 0, s, _ => by simp [tl]
  | k + 1, s, hk => by
    simp only [tl, List.mem_flatMap, List.mem_map]
    constructor
    · rintro ⟨u, hu, s', hs', rfl⟩
      obtain ⟨h1, h2⟩ := (mem_tl k s' (by omega)).1 hs'
      refine ⟨by simp [h1], fun j hj => ?_⟩
      cases j with
      | zero => exact hu
      | succ j =>
        have := h2 j (by omega)
        rw [show t.T - (k + 1) + (j + 1) = t.T - k + j by omega, nth_cons_succ]
        exact this
    · rintro ⟨h1, h2⟩
      match s, h1 with
      | u :: s', h1 =>
        refine ⟨u, h2 0 (by omega), s', (mem_tl k s' (by omega)).2 ⟨by simpa using h1, fun j hj => ?_⟩, rfl⟩
        have := h2 (j + 1) (by omega)
        rw [show t.T - (k + 1) + (j + 1) = t.T - k + j by omega, nth_cons_succ] at this
        exact this
theorem mem_all {s : List Int} : s ∈ t.tl t.T ↔ s.length = t.T ∧ ∀ j, j < t.T → nth s j ∈ t.us j := by
  rw [mem_tl t.T s (Nat.le_refl _)]
  simp
/-- What a sequence costs depends on its units alone. -/
theorem tc_eq {t t' : Tsk} : ∀ (s : List Int) (i : Nat), (∀ j, j < s.length → t.F (i + j) (nth s j) = t'.F (i + j) (nth s j)) → (∀ j, j + 1 < s.length → t.J (nth s j) (nth s (j + 1)) = t'.J (nth s j) (nth s (j + 1))) → t.tc i s = t'.tc i s
  | [], i, _, _ => rfl
  | [u], i, h, _ => by
    have := h 0 (by simp)
    simpa [tc, nth_cons_zero] using this
  | u :: v :: s, i, h, g => by
    have h0 := h 0 (by simp)
    have g0 := g 0 (by simp)
    have := tc_eq (t := t) (t' := t') (v :: s) (i + 1) (fun j hj => by
      have := h (j + 1) (by simpa using hj)
      rw [nth_cons_succ, show i + (j + 1) = i + 1 + j by omega] at this
      exact this) (fun j hj => by
      have := g (j + 1) (by simpa using hj)
      rw [nth_cons_succ, nth_cons_succ] at this
      exact this)
    simp only [nth_cons_zero, nth_cons_succ, Nat.add_zero] at h0 g0
    simp only [tc, h0, g0, this]
theorem tc_zero (s : List Int) (i : Nat) (h : ∀ j, j < s.length → t.F (i + j) (nth s j) = 0) (g : ∀ j, j + 1 < s.length → t.J (nth s j) (nth s (j + 1)) = 0) : t.tc i s = 0 := by
  have e := tc_eq (t := t) (t' := ⟨0, fun _ => [], fun _ _ => 0, fun _ _ => 0⟩) s i h g
  rw [e]
  have : ∀ (s : List Int) (i : Nat), (⟨0, fun _ => [], fun _ _ => 0, fun _ _ => 0⟩ : Tsk).tc i s = 0 := fun s => by
    induction s with
    | nil => intro i; rfl
    | cons u s ih =>
      intro i
      cases s with
      | nil => rfl
      | cons v s => simp [tc, ih]
  exact this s i
theorem tc_nonneg : ∀ (s : List Int) (i : Nat), (∀ j, j < s.length → 0 ≤ t.F (i + j) (nth s j)) → (∀ j, j + 1 < s.length → 0 ≤ t.J (nth s j) (nth s (j + 1))) → 0 ≤ t.tc i s
  | [], i, _, _ => by simp [tc]
  | [u], i, h, _ => by
    have := h 0 (by simp)
    simpa [tc, nth_cons_zero] using this
  | u :: v :: s, i, h, g => by
    have h0 := h 0 (by simp)
    have g0 := g 0 (by simp)
    have := tc_nonneg (v :: s) (i + 1) (fun j hj => by
      have := h (j + 1) (by simpa using hj)
      rw [nth_cons_succ, show i + (j + 1) = i + 1 + j by omega] at this
      exact this) (fun j hj => by
      have := g (j + 1) (by simpa using hj)
      rw [nth_cons_succ, nth_cons_succ] at this
      exact this)
    simp only [nth_cons_zero, nth_cons_succ, Nat.add_zero] at h0 g0
    simp only [tc]
    omega
theorem tc_cons (hJ : ∀ u v, t.J u v = 0) (i : Nat) (u : Int) (s : List Int) : t.tc i (u :: s) = t.F i u + t.tc (i + 1) s := by
  cases s with
  | nil => simp [tc]
  | cons v s => simp [tc, hJ]
theorem tc_set (hJ : ∀ u v, t.J u v = 0) : ∀ (s : List Int) (i j : Nat) (v : Int), j < s.length → t.tc i (s.set j v) = t.tc i s - t.F (i + j) (nth s j) + t.F (i + j) v
  | [], _, _, _, h => by simp at h
  | u :: s, i, 0, v, _ => by
    rw [List.set_cons_zero, tc_cons hJ, tc_cons hJ, nth_cons_zero]; simp only [Nat.add_zero]; omega
  | u :: s, i, j + 1, v, h => by
    rw [List.set_cons_succ, tc_cons hJ, tc_cons hJ, nth_cons_succ, tc_set hJ s (i + 1) j v (by simpa using h), show i + 1 + j = i + (j + 1) by omega]; omega
theorem lex_set : ∀ (s : List Int) (j : Nat) (v : Int), j < s.length → v < nth s j → lexLt s (s.set j v) = false
  | [], _, _, h, _ => by simp at h
  | u :: s, 0, v, _, h => by
    rw [nth_cons_zero] at h
    rw [List.set_cons_zero, lexLt]
    simp; omega
  | u :: s, j + 1, v, h, g => by
    rw [nth_cons_succ] at g
    have := lex_set s j v (by simpa using h) g
    rw [List.set_cons_succ, lexLt]
    simp [this]
/-- Without join costs, each target has its own best unit. -/
theorem own_best (hJ : ∀ u v, t.J u v = 0) {s : List Int} {c : Int} (h1 : s ∈ t.tl t.T) (h2 : c = t.tc 0 s) (h3 : ∀ s' ∈ t.tl t.T, s' = s ∨ seqLt (s, c) (s', t.tc 0 s')) {i : Nat} (hi : i < t.T) {v : Int} (hv : v ∈ t.us i)
    (ho : v = nth s i ∨ t.F i v < t.F i (nth s i) ∨ (t.F i v = t.F i (nth s i) ∧ v < nth s i)) : v = nth s i := by
  obtain ⟨hl, hm⟩ := mem_all.1 h1
  have hin : s.set i v ∈ t.tl t.T := mem_all.2 ⟨by simp [hl], fun j hj => by
    by_cases e : j = i
    · subst e
      have : nth (s.set j v) j = v := by simp [nth, hl, hj]
      rw [this]; exact hv
    · have : nth (s.set i v) j = nth s j := by simp [nth, List.getElem?_set, Ne.symm e]
      rw [this]; exact hm j hj⟩
  have hc := tc_set hJ s 0 i v (by omega)
  rw [Nat.zero_add] at hc
  rcases h3 _ hin with e | e
  · have : nth (s.set i v) i = v := by simp [nth, hl, hi]
    rw [← this, e]
  · rcases ho with ho | ho | ⟨ho, hv2⟩
    · exact ho
    · exfalso
      rcases e with e | ⟨e, _⟩
      · simp only at e; omega
      · simp only at e; omega
    · exfalso
      rcases e with e | ⟨_, e⟩
      · simp only at e; omega
      · simp only at e
        rw [lex_set s i v (by omega) hv2] at e; cases e
/-- More units make nothing more expensive. -/
theorem more_le {t t' : Tsk} (hT : t'.T = t.T) (hu : ∀ i, i < t.T → ∀ u ∈ t.us i, u ∈ t'.us i) (hF : ∀ i, i < t.T → ∀ u ∈ t.us i, t'.F i u = t.F i u) (hJ : ∀ i k, i < t.T → k < t.T → ∀ u ∈ t.us i, ∀ v ∈ t.us k, t'.J u v = t.J u v)
    {s : List Int} (h1 : s ∈ t.tl t.T) {c' : Int} (h : ∀ s' ∈ t'.tl t'.T, c' ≤ t'.tc 0 s') : c' ≤ t.tc 0 s := by
  obtain ⟨hl, hm⟩ := mem_all.1 h1
  have h2 : s ∈ t'.tl t'.T := mem_all.2 ⟨by rw [hl, hT], fun j hj => hu j (by omega) _ (hm j (by omega))⟩
  have e : t'.tc 0 s = t.tc 0 s := tc_eq s 0 (fun j hj => by
    rw [Nat.zero_add]
    exact hF j (by omega) _ (hm j (by omega))) (fun j hj => hJ j (j + 1) (by omega) (by omega) _ (hm j (by omega)) _ (hm (j + 1) (by omega)))
  rw [← e]; exact h s h2
/-- The best one costs no more than any other. -/
theorem best_le {s : List Int} {c : Int} (h2 : c = t.tc 0 s) (h3 : ∀ s' ∈ t.tl t.T, s' = s ∨ seqLt (s, c) (s', t.tc 0 s')) : ∀ s' ∈ t.tl t.T, c ≤ t.tc 0 s' := fun s' hs => by
  rcases h3 s' hs with e | e | e
  · rw [e, h2]; exact Int.le_refl _
  · simp only at e; omega
  · have := e.1; simp only at this; omega
end Tsk
end Go.Sx

set_option autoImplicit false
set_option maxRecDepth 100000
namespace Go.Proofs.YtomjbfeafodfbaaGreat
open Go.Sx
open Enc (enc val)
def toWan (u : Un) : Wan := ⟨u.phone, u.before, u.after, u.pitch, u.length⟩
def folB (p : List Un) (i : Nat) : Bool := (List.range i).all fun k => decide (k = 0) || (decide ((nth p (k - 1)).take = (nth p k).take) && decide ((nth p (k - 1)).to = (nth p k).fr))
theorem folB_succ (p : List Un) (i : Nat) : folB p (i + 1) = (folB p i && (decide (i = 0) || (decide ((nth p (i - 1)).take = (nth p i).take) && decide ((nth p (i - 1)).to = (nth p i).fr)))) := by
  simp [folB, List.range_succ]
theorem folB_at {p : List Un} {i : Nat} (h : folB p i = true) {k : Nat} (hk : k + 1 < i) : (nth p k).take = (nth p (k + 1)).take ∧ (nth p k).to = (nth p (k + 1)).fr := by
  have := List.all_eq_true.1 h (k + 1) (by simpa using hk)
  simpa using this
theorem nth_map {α β : Type} [Inhabited α] [Inhabited β] {l : List α} {f : α → β} {i : Nat} (h : i < l.length) : nth (l.map f) i = f (nth l i) := by
  rw [nth_get (by simpa using h), nth_get h]; simp
theorem begin_of {p : List Un} {tgt : List Wan} {x : Wts} (h1 : p.length ≤ 2000) (h2 : tgt.length ≤ 500) (h3 : voiceB p = true) (h4 : tgt.all waB = true) (h5 : wtB x = true) : beginE p tgt x = 0 := by
  rw [beginE, if_neg (by omega), h3, h4, h5]; rfl
theorem toWan_ok {u : Un} (h : unB u = true) : waB (toWan u) = true := by
  simp only [unB, Bool.and_eq_true] at h
  simp only [waB, toWan, Bool.and_eq_true]
  obtain ⟨⟨⟨⟨⟨⟨⟨⟨⟨⟨⟨a, b⟩, c⟩, d⟩, e⟩, _⟩, _⟩, _⟩, _⟩, _⟩, _⟩, _⟩ := h
  exact ⟨⟨⟨⟨a, b⟩, c⟩, d⟩, e⟩
theorem voice_un {p : List Un} (h : voiceB p = true) {u : Un} (hu : u ∈ p) : unB u = true := by
  simp only [voiceB, Bool.and_eq_true] at h
  exact List.all_eq_true.1 h.1.1 _ hu
theorem voice_ok {p : List Un} (h : voiceB p = true) {u : Un} (hu : u ∈ p) : UnOk u := un_ok (voice_un h hu)
theorem poss_iff {p : List Un} {tgt : List Wan} : possP p tgt = true ↔ ∀ i, i < tgt.length → idxs p p.length (nth tgt i).phone ≠ [] := by
  simp [possP]
theorem said_begin {p : List Un} {tgt : List Wan} {x : Wts} (hE : beginE p tgt x = 0) (h5 : p.length ≤ 5) : beginE p (p.map toWan) x = 0 := by
  obtain ⟨h1, h2, h3, h4, h6⟩ := beginE_ok hE
  refine begin_of h1 (by simp; omega) h3 (List.all_eq_true.2 fun t ht => ?_) h6
  obtain ⟨u, hu, rfl⟩ := List.mem_map.1 ht
  exact toWan_ok (voice_un h3 hu)
theorem said_poss (p : List Un) : possP p (p.map toWan) = true := poss_iff.2 fun i hi => by
  simp only [List.length_map] at hi
  refine List.ne_nil_of_mem (a := (i : Int)) (TK.idx_mem.2 ⟨by omega, by omega, ?_⟩)
  rw [nth_map hi]; rfl
theorem fit_self (x : Wts) (u : Un) : fitC x u (toWan u) = 0 := by
  have h : ∀ a : Int, max (a - a) (a - a) = 0 := fun a => by omega
  show x.length * max (u.length - u.length) (u.length - u.length) + (if u.before = u.before then 0 else x.beside) + (if u.after = u.after then 0 else x.beside) + (if 0 < u.pitch ∧ 0 < u.pitch then x.pitch * max (u.pitch - u.pitch) (u.pitch - u.pitch) else if 0 < u.pitch ∨ 0 < u.pitch then 2000 * x.pitch else 0) = 0
  rw [h, h, if_pos rfl, if_pos rfl]
  by_cases hp : 0 < u.pitch
  · rw [if_pos ⟨hp, hp⟩]; omega
  · rw [if_neg (by omega), if_neg (by omega)]; omega
theorem task_bd {p : List Un} {tgt : List Wan} {x : Wts} (hE : beginE p tgt x = 0) {s : List Int} (hs : s ∈ (tsk p tgt x).tl (tsk p tgt x).T) : 0 ≤ (tsk p tgt x).tc 0 s := by
  obtain ⟨h1, h2, hv1, hv2, hv3⟩ := beginE_ok hE
  obtain ⟨hl, hm⟩ := Tsk.mem_all.1 hs
  have hT : (tsk p tgt x).T = tgt.length := rfl
  have hn : ∀ j, j < tgt.length → (nth s j).toNat < p.length := fun j hj => by
    have := TK.idx_mem.1 (hm j hj)
    omega
  refine Tsk.tc_nonneg s 0 (fun j hj => ?_) (fun j hj => ?_)
  · have hj' : j < tgt.length := by omega
    rw [Nat.zero_add]
    exact (fitC_bd (wt_ok hv3) (voice_ok hv1 (nth_mem (hn j hj'))) (wa_ok (List.all_eq_true.1 hv2 _ (nth_mem hj')))).1
  · exact (joinC_bd (wt_ok hv3) (voice_ok hv1 (nth_mem (hn j (by omega)))) (voice_ok hv1 (nth_mem (hn (j + 1) (by omega))))).1
theorem said_zero {p : List Un} {x : Wts} (hE : beginE p (p.map toWan) x = 0) (hf : folB p p.length = true) {s : List Int} {c : Int} (h : BestSeq (tsk p (p.map toWan) x) s c) : c = 0 := by
  obtain ⟨h1, h2, h3⟩ := h
  have hT : (tsk p (p.map toWan) x).T = p.length := by simp [tsk]
  have hnn := task_bd hE h1
  have hm : (List.range p.length).map (fun i : Nat => (i : Int)) ∈ (tsk p (p.map toWan) x).tl (tsk p (p.map toWan) x).T := Tsk.mem_all.2 ⟨by simp [hT], fun j hj => by
    rw [hT] at hj
    rw [nth_map (by simpa using hj), nth_get (by simpa using hj), List.getElem_range]
    refine TK.idx_mem.2 ⟨by omega, by omega, ?_⟩
    rw [nth_map hj]; rfl⟩
  have hz : (tsk p (p.map toWan) x).tc 0 ((List.range p.length).map (fun i : Nat => (i : Int))) = 0 := Tsk.tc_zero _ 0 (fun j hj => by
    simp only [List.length_map, List.length_range] at hj
    rw [nth_map (by simpa using hj), nth_get (by simpa using hj), List.getElem_range, Nat.zero_add]
    show fitC x (nth p ((j : Int)).toNat) (nth (p.map toWan) j) = 0
    rw [nth_map hj, Int.toNat_natCast, fit_self]) (fun j hj => by
    simp only [List.length_map, List.length_range] at hj
    rw [nth_map (by simp; omega), nth_get (by simp; omega), List.getElem_range, nth_map (by simpa using hj), nth_get (by simpa using hj), List.getElem_range]
    show joinC x (nth p ((j : Int)).toNat) (nth p (((j + 1 : Nat) : Int)).toNat) = 0
    rw [Int.toNat_natCast, Int.toNat_natCast, joinC, if_pos (folB_at hf hj)])
  have := Tsk.best_le h2 h3 _ hm
  omega
theorem nth_app {α : Type} [Inhabited α] {l r : List α} {i : Nat} (h : i < l.length) : nth (l ++ r) i = nth l i := by
  simp only [nth, List.getD]; rw [List.getElem?_append_left h]
theorem more_mem {p more : List Un} {c : ByteArray} {v : Int} (h : v ∈ idxs p p.length c) : v ∈ idxs (p ++ more) (p ++ more).length c := by
  obtain ⟨h1, h2, h3⟩ := TK.idx_mem.1 h
  refine TK.idx_mem.2 ⟨h1, by simp; omega, ?_⟩
  rw [nth_app (by omega)]; exact h3
theorem more_poss {p more : List Un} {tgt : List Wan} (h : possP p tgt = true) : possP (p ++ more) tgt = true := poss_iff.2 fun i hi => by
  obtain ⟨v, hv⟩ := List.exists_mem_of_ne_nil _ (poss_iff.1 h i hi)
  exact List.ne_nil_of_mem (more_mem hv)
theorem more_cost {p more : List Un} {tgt : List Wan} {x : Wts} {s s' : List Int} {c c' : Int} (h : BestSeq (tsk p tgt x) s c) (h' : BestSeq (tsk (p ++ more) tgt x) s' c') : c' ≤ c := by
  have hlt : ∀ {i : Nat} {u : Int}, u ∈ (tsk p tgt x).us i → u.toNat < p.length := fun hu => by
    have := TK.idx_mem.1 hu
    omega
  rw [h.2.1]
  refine Tsk.more_le (t := tsk p tgt x) (t' := tsk (p ++ more) tgt x) rfl (fun i hi u hu => more_mem hu) (fun i hi u hu => ?_) (fun i k hi hk u hu v hv => ?_) h.1 (Tsk.best_le h'.2.1 h'.2.2)
  · show fitC x (nth (p ++ more) u.toNat) (nth tgt i) = fitC x (nth p u.toNat) (nth tgt i)
    rw [nth_app (hlt hu)]
  · show joinC x (nth (p ++ more) u.toNat) (nth (p ++ more) v.toNat) = joinC x (nth p u.toNat) (nth p v.toNat)
    rw [nth_app (hlt hu), nth_app (hlt hv)]
def noJoin (x : Wts) : Wts := ⟨x.beside, x.pitch, x.length, 0⟩
theorem noJoin_ok {x : Wts} (h : wtB x = true) : wtB (noJoin x) = true := by
  simp only [wtB, Bool.and_eq_true] at h
  simp only [wtB, noJoin, Bool.and_eq_true]
  exact ⟨h.1, by decide⟩
theorem noJoin_begin {p : List Un} {tgt : List Wan} {x : Wts} (h : beginE p tgt x = 0) : beginE p tgt (noJoin x) = 0 := by
  obtain ⟨h1, h2, h3, h4, h5⟩ := beginE_ok h
  exact begin_of h1 h2 h3 h4 (noJoin_ok h5)
theorem one_begin {p : List Un} {tgt : List Wan} {x : Wts} (h : beginE p tgt x = 0) {i : Nat} (hi : i < tgt.length) : beginE p [nth tgt i] x = 0 := by
  obtain ⟨h1, h2, h3, h4, h5⟩ := beginE_ok h
  exact begin_of h1 (by simp) h3 (by simpa using List.all_eq_true.1 h4 _ (nth_mem hi)) h5
theorem one_poss {p : List Un} {tgt : List Wan} (h : possP p tgt = true) {i : Nat} (hi : i < tgt.length) : possP p [nth tgt i] = true := poss_iff.2 fun j hj => by
  simp only [List.length_singleton] at hj
  obtain rfl : j = 0 := by omega
  exact poss_iff.1 h i hi
theorem own_one {p : List Un} {tgt : List Wan} {x : Wts} {s s1 : List Int} {c c1 : Int} (h : BestSeq (tsk p tgt (noJoin x)) s c) {i : Nat} (hi : i < tgt.length) (h1 : BestSeq (tsk p [nth tgt i] (noJoin x)) s1 c1) : s1 = [nth s i] := by
  have hJ : ∀ u v, (tsk p tgt (noJoin x)).J u v = 0 := fun u v => by
    show joinC (noJoin x) _ _ = 0
    simp [joinC, noJoin]
  obtain ⟨a1, a2, a3⟩ := h
  obtain ⟨b1, b2, b3⟩ := h1
  obtain ⟨hl, hm⟩ := Tsk.mem_all.1 b1
  have hl : s1.length = 1 := hl
  match s1, hl with
  | [v], _ =>
    have hv : v ∈ (tsk p tgt (noJoin x)).us i := hm 0 (Nat.zero_lt_one)
    have hsm := (Tsk.mem_all.1 a1).2 i hi
    have hin : [nth s i] ∈ (tsk p [nth tgt i] (noJoin x)).tl (tsk p [nth tgt i] (noJoin x)).T := Tsk.mem_all.2 ⟨rfl, fun j hj => by
      have hj : j < 1 := hj
      obtain rfl : j = 0 := by omega
      exact hsm⟩
    have e1 : c1 = (tsk p tgt (noJoin x)).F i v := b2
    have e2 : (tsk p [nth tgt i] (noJoin x)).tc 0 [nth s i] = (tsk p tgt (noJoin x)).F i (nth s i) := rfl
    have key := Tsk.own_best hJ a1 a2 a3 (i := i) hi hv (by
      rcases b3 _ hin with e | e | ⟨e, e'⟩
      · left; simp only [List.cons.injEq, and_true] at e; exact e.symm
      · right; left; simp only at e; omega
      · right; right
        simp only at e e'
        refine ⟨by omega, ?_⟩
        simpa [lexLt] using e')
    rw [key]
end Go.Proofs.YtomjbfeafodfbaaGreat

set_option autoImplicit false
set_option maxRecDepth 100000
namespace Go.Proofs.YtomjbfeafodfbaaGreat
open Go.Sx
open Enc (enc val)
theorem choose_any (sp tp : SlV) (p : List Un) (tgt : List Wan) (x : Wts) (w : World) (hvo : VoRd w sp p) (htp : Stb w [] (RdL tp.v tgt)) (htg : ∀ t ∈ tgt, WaRd t) (hE : beginE p tgt x = 0) (hbig : (p.length + 1) ^ tgt.length ≤ 500000000) :
    Calls Tryz.prog 19 #[sp.v, tp.v, val x] w fun e w' => ∃ y : SlV × Sq, e = .returned (.tuple #[val y.2, y.1.v, .int .i64 (if possP p tgt = true then 0 else 5)]) ∧ (possP p tgt = true → BestSeq (tsk p tgt x) y.2.ul y.2.cost) ∧ Cl w [] [ownL 3 y.2.us.v y.2.ul] w' := by
  cases hP : possP p tgt
  · refine (choose_none sp tp p tgt x w hvo htp htg hE hP).mono ?_
    rintro e w' ⟨u, he, _, hw⟩
    exact ⟨(⟨none, 0, 0⟩, ⟨⟨none, 0, 0⟩, 0, []⟩), he, fun h => by simp at h, hw.addNil (α := Int) 3⟩
  · refine (choose_yes sp tp p tgt x w hvo htp htg hE hP hbig).mono ?_
    rintro e w' ⟨y, he, ⟨_, hb⟩, hw⟩
    exact ⟨(y.1.1, y.2.2), he, fun _ => hb, hw.tail.tail⟩
theorem more_vo {w0 w : World} {H : List Asn} {sp mp s : SlV} {p more : List Un} (hw : Cl w0 [] H w) (hm : ownL 49 s.v (p ++ more) ∈ H) (h1 : VoRd w0 sp p) (h2 : VoRd w0 mp more) : VoRd w s (p ++ more) :=
  ⟨stb_own (e := 49) hw hm, fun u hu => by
    rcases List.mem_append.1 hu with hu | hu
    · exact (h1.arg hw).u u hu
    · exact (h2.arg hw).u u hu⟩
theorem said_wa {p : List Un} {w : World} {sp : SlV} (h : VoRd w sp p) : ∀ t ∈ p.map toWan, WaRd t := fun t ht => by
  obtain ⟨u, hu, rfl⟩ := List.mem_map.1 ht
  have := h.u u hu
  exact ⟨this.s1, this.s2, this.s3⟩
theorem nil_rd {α : Type} [Enc α] [Inhabited α] (w : World) : Stb w [] (RdL (SlV.v ⟨none, 0, 0⟩) ([] : List α)) := rd_stb ⟨none, 0, 0, rfl, rfl, Nat.le_refl _, by simp [maxLen], fun i x j v hx => by simp at hx⟩
theorem again_pow {a b : Nat} (ha : a ≤ 10) (hb : b ≤ 6) : (a + 1) ^ b ≤ 500000000 :=
  Nat.le_trans (Nat.pow_le_pow_left (show a + 1 ≤ 11 by omega) _) (Nat.le_trans (Nat.pow_le_pow_right (by omega) hb) (by decide))
set_option maxHeartbeats 4000000 in
theorem lawAgain (sp mp tp : SlV) (p more : List Un) (tgt : List Wan) (x : Wts) (w : World) (hvo : VoIn w sp p) (hmo : VoIn w mp more) (htp : Stb w [] (RdL tp.v tgt)) :
    Calls Tryz.prog 5 #[sp.v, mp.v, tp.v, val x] w fun e w' => e = .returned (.bool true) ∧ Cl w [] [] w' := by
  refine calls_cw (vs := [_, _, _, _]) Tryz.func5 rfl Tryz.ntmps5 rfl (Cl.start0 w) ?_
  have hl0 : Stb w [] (RdL sp.v p) := rd_stb hvo.l
  have hl1 : Stb w [] (RdL mp.v more) := rd_stb hmo.l
  have hL0 := rd_len hvo.l
  have hL1 := rd_len hmo.l
  have hL2 := rd_len htp.here
  refine cw_seq (cw_region ?_)
  refine sw_x rfl rfl rfl (e_box rfl rfl rfl) (fun b7 => ?_)
  refine sr rfl rfl rfl ((q_assign rfl rfl)) (sw_nil (post_then (cw_seq (cw_seq (cw_region (sr rfl rfl rfl ((q_move rfl rfl)) (sr rfl rfl rfl ((q_move rfl rfl)) (sw_step rfl rfl rfl (q_call (CanCall.mk Tryz.call17) rfl (.cons rfl inferInstance (.cons rfl inferInstance (.cons rfl inferInstance (.cons rfl inferInstance (.nil))))) (fun _ w hw => callq hw (small_spec sp tp p tgt 5 6 w (voIn_arg hw hvo) (stb_arg hw htp)))) (sr rfl rfl rfl ((q_not rfl rfl)) (sr rfl rfl rfl ((q_move rfl rfl)) (sr rfl rfl rfl ((q_move rfl rfl)) (sw_step rfl rfl rfl (q_call (CanCall.mk Tryz.call17) rfl (.cons rfl inferInstance (.cons rfl inferInstance (.cons rfl inferInstance (.cons rfl inferInstance (.nil))))) (fun _ w hw => callq hw (small_spec mp ⟨none, 0, 0⟩ more [] 5 0 w (voIn_arg hw hmo) (nil_rd w)))) (sr rfl rfl rfl ((q_not rfl rfl)) (sr rfl rfl rfl ((q_or2 rfl rfl rfl)) (sr rfl rfl rfl ((q_move rfl rfl)) (sr rfl rfl rfl ((q_move rfl rfl)) (sr rfl rfl rfl ((q_move rfl rfl)) ?_)))))))))))))))))
  refine sr rfl rfl rfl ((q_loadA rfl rfl (by exact .head _) rfl)) ?_
  refine sw_step rfl rfl rfl (q_call (CanCall.mk Tryz.call20) rfl (.cons rfl inferInstance (.cons rfl inferInstance (.cons rfl inferInstance (.nil)))) (fun hc w hw => callq hw (wrong_spec sp tp p tgt x w ((small_vo hvo (by simp [AllT] at hc; exact hc.1)).arg hw) (stb_arg hw htp) (small_ta (p := p) (mu := 5) (mt := 6) (by simp [AllT] at hc; exact hc.1))))) ?_
  refine sr rfl rfl rfl ((q_neq rfl rfl rfl)) (sr rfl rfl rfl ((q_or2 rfl rfl rfl)) (sr rfl rfl rfl ((q_move rfl rfl)) (sr rfl rfl rfl ((q_move rfl rfl)) ?_)))
  refine sr rfl rfl rfl ((q_len rfl (.cons rfl inferInstance (.nil)) (by exact fun w hw => Stb.cl (by assumption) hw))) ?_
  refine sr rfl rfl rfl ((q_gtr rfl rfl rfl)) (sr rfl rfl rfl ((q_or2 rfl rfl rfl)) (sr rfl rfl rfl ((q_move rfl rfl)) (sr rfl rfl rfl ((q_move rfl rfl)) ?_)))
  refine sr rfl rfl rfl ((q_len rfl (.cons rfl inferInstance (.nil)) (by exact fun w hw => Stb.cl (by assumption) hw))) ?_
  refine sr rfl rfl rfl ((q_gtr rfl rfl rfl)) (sr rfl rfl rfl ((q_or2 rfl rfl rfl)) (sr rfl rfl rfl ((q_move rfl rfl)) (sr rfl rfl rfl ((q_move rfl rfl)) ?_)))
  refine sr rfl rfl rfl ((q_len rfl (.cons rfl inferInstance (.nil)) (by exact fun w hw => Stb.cl (by assumption) hw))) ?_
  refine sr rfl rfl rfl ((q_gtr rfl rfl rfl)) (sr rfl rfl rfl ((q_or2 rfl rfl rfl)) (sw_nil (post_then ?_)))
  refine cw_cond rfl (fun h => ?_) (fun h => ?_)
  · skip
    refine cw_seq (cw_region (sw_step rfl rfl rfl (q_call (CanCall.mk Tryz.call18) rfl (.nil) (fun _ w hw => callq hw (known_spec w))) (sr rfl rfl rfl ((q_assign rfl rfl)) (sw_nil (post_then (cw_ret (post_then_r (post_ret1 rfl (resOk_tmp rfl) ?_))))))))
    exact fun w' hw => ⟨rfl, (fun w h => Cl.sel (by exact .nil _) w h) _ hw⟩
  · skip
    simp only [Bool.or_eq_false_iff, Bool.not_eq_false', decide_eq_true_eq, decide_eq_false_iff_not] at h
    obtain ⟨⟨⟨⟨⟨hs, hsm⟩, hE⟩, hp5⟩, hm5⟩, ht6⟩ := h
    have hvr : VoRd w sp p := small_vo hvo hs
    have hmr : VoRd w mp more := small_vo hmo hsm
    have hta := small_ta hs
    have hp5 : p.length ≤ 5 := by omega
    have hm5 : more.length ≤ 5 := by omega
    have ht6 : tgt.length ≤ 6 := by omega
    have hEs := said_begin hE hp5
    have hPs := said_poss p
    refine cw_skip (post_then (cw_seq (cw_region (sr rfl rfl rfl ((q_assign rfl rfl)) (sw_nil (post_then (cw_seq (cw_region (sr rfl rfl rfl ((q_assign rfl rfl)) (sw_nil (post_then (cw_seq (cw_seq (cw_region (sr rfl rfl rfl ((q_assign rfl rfl)) (sw_nil (post_then (cw_block ?_))))))))))))))))))
    refine cw_loop (S := Nat × SlV) (fun y => [(0, [], sp.v), (1, [], mp.v), (2, [], tp.v), (7, [], .pointer (some ⟨b7, 0, none⟩)), (9, [], y.2.v), (10, [], .bool (folB p y.1)), (11, [], .int .i64 y.1)]) (fun y => Cl w [] [ownL 51 y.2.v ((p.take y.1).map toWan), blk b7 (enc x) 25]) (fun y => y.1 ≤ p.length) (fun y => p.length - y.1) (0, ⟨none, 0, 0⟩) (Nat.zero_le _) (by exact .cons rfl (.cons rfl (.cons rfl (.cons rfl (.cons rfl (.cons rfl (.cons rfl .nil))))))) (fun _ h => h.addNil (α := Wan) 51) ?_
    rintro ⟨i, s9⟩ hi
    dsimp only at hi
    refine cw_seq (cw_seq (cw_region (sr rfl rfl rfl ((q_move rfl rfl)) (sr rfl rfl rfl ((q_move rfl rfl)) ?_))))
    refine sr rfl rfl rfl ((q_len rfl (.cons rfl inferInstance (.nil)) (by exact fun w hw => Stb.cl (by assumption) hw))) ?_
    refine sr rfl rfl rfl ((q_lss rfl rfl rfl)) (sw_nil (post_then ?_))
    refine cw_cond rfl (fun h2 => ?_) (fun h2 => ?_)
    · skip
      have hi' : i < p.length := by simp only [decide_eq_true_eq] at h2; omega
      have e1 : ((i : Int) - 1).toNat = i - 1 := by omega
      refine cw_skip (post_then (cw_seq (cw_block (cw_seq ?_))))
      refine cw_region_q mixed_Tryz (by kernel_rfl) ?_
      refine qr rfl rfl rfl ((q_move rfl rfl)) (qr rfl rfl rfl ((q_move rfl rfl)) (qr rfl rfl rfl ((q_move rfl rfl)) (qr rfl rfl rfl ((q_eql rfl rfl rfl)) (qr rfl rfl rfl ((q_move rfl rfl)) (qr rfl rfl rfl ((q_move rfl rfl)) (qr rfl rfl rfl ((q_move rfl rfl)) ?_))))))
      refine qr rfl rfl rfl ((q_sub rfl rfl rfl (by intro hc; omega))) ?_
      refine qr rfl rfl rfl ((q_index rfl rfl rfl (by exact fun w hw => Stb.cl (by assumption) hw) (by intro hc; (simp only [AllT.iff, List.all_cons, List.all_nil, id, Bool.and_eq_true, Bool.not_eq_true', decide_eq_true_eq, decide_eq_false_iff_not, and_true] at hc; omega)))) ?_
      refine qr rfl rfl rfl ((q_fieldEl rfl rfl (by exact fun w hw => Stb.cl (by assumption) hw) (by intro hc; omega))) ?_
      refine qr rfl rfl rfl ((q_loadF rfl rfl rfl (by exact fun w hw => Stb.cl (by assumption) hw) (by intro hc; omega) rfl)) ?_
      refine qr rfl rfl rfl ((q_move rfl rfl)) (qr rfl rfl rfl ((q_move rfl rfl)) ?_)
      refine qr rfl rfl rfl ((q_indexN rfl rfl rfl (by exact fun w hw => Stb.cl (by assumption) hw) (by intro hc; omega))) ?_
      refine qr rfl rfl rfl ((q_fieldEl rfl rfl (by exact fun w hw => Stb.cl (by assumption) hw) (by intro hc; omega))) ?_
      refine qr rfl rfl rfl ((q_loadF rfl rfl rfl (by exact fun w hw => Stb.cl (by assumption) hw) (by intro hc; omega) rfl)) ?_
      refine qr rfl rfl rfl ((q_eql rfl rfl rfl)) (qr rfl rfl rfl ((q_move rfl rfl)) (qr rfl rfl rfl ((q_move rfl rfl)) (qr rfl rfl rfl ((q_move rfl rfl)) ?_)))
      refine qr rfl rfl rfl ((q_sub rfl rfl rfl (by intro hc; omega))) ?_
      refine qr rfl rfl rfl ((q_index rfl rfl rfl (by exact fun w hw => Stb.cl (by assumption) hw) (by intro hc; (simp only [AllT.iff, List.all_cons, List.all_nil, id, Bool.and_eq_true, Bool.not_eq_true', decide_eq_true_eq, decide_eq_false_iff_not, and_true] at hc; omega)))) ?_
      refine qr rfl rfl rfl ((q_fieldEl rfl rfl (by exact fun w hw => Stb.cl (by assumption) hw) (by intro hc; omega))) ?_
      refine qr rfl rfl rfl ((q_loadF rfl rfl rfl (by exact fun w hw => Stb.cl (by assumption) hw) (by intro hc; omega) rfl)) ?_
      refine qr rfl rfl rfl ((q_move rfl rfl)) (qr rfl rfl rfl ((q_move rfl rfl)) ?_)
      refine qr rfl rfl rfl ((q_indexN rfl rfl rfl (by exact fun w hw => Stb.cl (by assumption) hw) (by intro hc; omega))) ?_
      refine qr rfl rfl rfl ((q_fieldEl rfl rfl (by exact fun w hw => Stb.cl (by assumption) hw) (by intro hc; omega))) ?_
      refine qr rfl rfl rfl ((q_loadF rfl rfl rfl (by exact fun w hw => Stb.cl (by assumption) hw) (by intro hc; omega) rfl)) ?_
      refine qr rfl rfl rfl ((q_eql rfl rfl rfl)) (qr rfl rfl rfl ((q_and2 rfl rfl rfl)) (qr rfl rfl rfl ((q_or2 rfl rfl rfl)) (qr rfl rfl rfl ((q_and2 rfl rfl rfl)) (qr rfl rfl rfl ((q_assign rfl rfl)) (qw_end (post_then (cw_region_a (Cl w [] []) [] mixed_Tryz ?_)))))))
      refine aw_pure 0 rfl (by kernel_rfl) (by kernel_rfl) (by kernel_rfl) (by kernel_rfl) (by kernel_rfl) rfl rfl rfl (q_move rfl rfl) ?_
      refine aw_pure 1 rfl (by kernel_rfl) (by kernel_rfl) (by kernel_rfl) (by kernel_rfl) (by kernel_rfl) rfl rfl rfl (q_move rfl rfl) ?_
      refine aw_pure 2 rfl (by kernel_rfl) (by kernel_rfl) (by kernel_rfl) (by kernel_rfl) (by kernel_rfl) rfl rfl rfl (q_move rfl rfl) ?_
      refine aw_take 3 (fun w h => Cl.sel (by exact .nil _) w h) rfl (by kernel_rfl) (by kernel_rfl) (by kernel_rfl) (by kernel_rfl) (by kernel_rfl) (by kernel_rfl) rfl rfl rfl (q_indexN rfl rfl rfl (by exact fun w hw => Stb.cl (by assumption) hw) (by intro hc; omega)) ?_
      refine aw_take 4 (fun w h => Cl.sel (by exact .nil _) w h) rfl (by kernel_rfl) (by kernel_rfl) (by kernel_rfl) (by kernel_rfl) (by kernel_rfl) (by kernel_rfl) rfl rfl rfl (q_fieldEl rfl rfl (by exact fun w hw => Stb.cl (by assumption) hw) (by intro hc; omega)) ?_
      refine aw_take 5 (fun w h => Cl.sel (by exact .nil _) w h) rfl (by kernel_rfl) (by kernel_rfl) (by kernel_rfl) (by kernel_rfl) (by kernel_rfl) (by kernel_rfl) rfl rfl rfl (q_loadF rfl rfl rfl (by exact fun w hw => Stb.cl (by assumption) hw) (by intro hc; omega) rfl) ?_
      refine aw_pure 6 rfl (by kernel_rfl) (by kernel_rfl) (by kernel_rfl) (by kernel_rfl) (by kernel_rfl) rfl rfl rfl (q_move rfl rfl) ?_
      refine aw_pure 7 rfl (by kernel_rfl) (by kernel_rfl) (by kernel_rfl) (by kernel_rfl) (by kernel_rfl) rfl rfl rfl (q_move rfl rfl) ?_
      refine aw_take 8 (fun w h => Cl.sel (by exact .nil _) w h) rfl (by kernel_rfl) (by kernel_rfl) (by kernel_rfl) (by kernel_rfl) (by kernel_rfl) (by kernel_rfl) rfl rfl rfl (q_indexN rfl rfl rfl (by exact fun w hw => Stb.cl (by assumption) hw) (by intro hc; omega)) ?_
      refine aw_take 9 (fun w h => Cl.sel (by exact .nil _) w h) rfl (by kernel_rfl) (by kernel_rfl) (by kernel_rfl) (by kernel_rfl) (by kernel_rfl) (by kernel_rfl) rfl rfl rfl (q_fieldEl rfl rfl (by exact fun w hw => Stb.cl (by assumption) hw) (by intro hc; omega)) ?_
      refine aw_take 10 (fun w h => Cl.sel (by exact .nil _) w h) rfl (by kernel_rfl) (by kernel_rfl) (by kernel_rfl) (by kernel_rfl) (by kernel_rfl) (by kernel_rfl) rfl rfl rfl (q_loadF rfl rfl rfl (by exact fun w hw => Stb.cl (by assumption) hw) (by intro hc; omega) rfl) ?_
      refine aw_pure 11 rfl (by kernel_rfl) (by kernel_rfl) (by kernel_rfl) (by kernel_rfl) (by kernel_rfl) rfl rfl rfl (q_move rfl rfl) ?_
      refine aw_pure 12 rfl (by kernel_rfl) (by kernel_rfl) (by kernel_rfl) (by kernel_rfl) (by kernel_rfl) rfl rfl rfl (q_move rfl rfl) ?_
      refine aw_take 13 (fun w h => Cl.sel (by exact .nil _) w h) rfl (by kernel_rfl) (by kernel_rfl) (by kernel_rfl) (by kernel_rfl) (by kernel_rfl) (by kernel_rfl) rfl rfl rfl (q_indexN rfl rfl rfl (by exact fun w hw => Stb.cl (by assumption) hw) (by intro hc; omega)) ?_
      refine aw_take 14 (fun w h => Cl.sel (by exact .nil _) w h) rfl (by kernel_rfl) (by kernel_rfl) (by kernel_rfl) (by kernel_rfl) (by kernel_rfl) (by kernel_rfl) rfl rfl rfl (q_fieldEl rfl rfl (by exact fun w hw => Stb.cl (by assumption) hw) (by intro hc; omega)) ?_
      refine aw_take 15 (fun w h => Cl.sel (by exact .nil _) w h) rfl (by kernel_rfl) (by kernel_rfl) (by kernel_rfl) (by kernel_rfl) (by kernel_rfl) (by kernel_rfl) rfl rfl rfl (q_loadF rfl rfl rfl (by exact fun w hw => Stb.cl (by assumption) hw) (by intro hc; omega) rfl) ?_
      refine aw_pure 16 rfl (by kernel_rfl) (by kernel_rfl) (by kernel_rfl) (by kernel_rfl) (by kernel_rfl) rfl rfl rfl (q_move rfl rfl) ?_
      refine aw_pure 17 rfl (by kernel_rfl) (by kernel_rfl) (by kernel_rfl) (by kernel_rfl) (by kernel_rfl) rfl rfl rfl (q_move rfl rfl) ?_
      refine aw_take 18 (fun w h => Cl.sel (by exact .nil _) w h) rfl (by kernel_rfl) (by kernel_rfl) (by kernel_rfl) (by kernel_rfl) (by kernel_rfl) (by kernel_rfl) rfl rfl rfl (q_indexN rfl rfl rfl (by exact fun w hw => Stb.cl (by assumption) hw) (by intro hc; omega)) ?_
      refine aw_take 19 (fun w h => Cl.sel (by exact .nil _) w h) rfl (by kernel_rfl) (by kernel_rfl) (by kernel_rfl) (by kernel_rfl) (by kernel_rfl) (by kernel_rfl) rfl rfl rfl (q_fieldEl rfl rfl (by exact fun w hw => Stb.cl (by assumption) hw) (by intro hc; omega)) ?_
      refine aw_take 20 (fun w h => Cl.sel (by exact .nil _) w h) rfl (by kernel_rfl) (by kernel_rfl) (by kernel_rfl) (by kernel_rfl) (by kernel_rfl) (by kernel_rfl) rfl rfl rfl (q_loadF rfl rfl rfl (by exact fun w hw => Stb.cl (by assumption) hw) (by intro hc; omega) rfl) ?_
      refine aw_pure 21 rfl (by kernel_rfl) (by kernel_rfl) (by kernel_rfl) (by kernel_rfl) (by kernel_rfl) rfl rfl rfl (q_move rfl rfl) ?_
      refine aw_pure 22 rfl (by kernel_rfl) (by kernel_rfl) (by kernel_rfl) (by kernel_rfl) (by kernel_rfl) rfl rfl rfl (q_move rfl rfl) ?_
      refine aw_take 23 (fun w h => Cl.sel (by exact .nil _) w h) rfl (by kernel_rfl) (by kernel_rfl) (by kernel_rfl) (by kernel_rfl) (by kernel_rfl) (by kernel_rfl) rfl rfl rfl (q_indexN rfl rfl rfl (by exact fun w hw => Stb.cl (by assumption) hw) (by intro hc; omega)) ?_
      refine aw_take 24 (fun w h => Cl.sel (by exact .nil _) w h) rfl (by kernel_rfl) (by kernel_rfl) (by kernel_rfl) (by kernel_rfl) (by kernel_rfl) (by kernel_rfl) rfl rfl rfl (q_fieldEl rfl rfl (by exact fun w hw => Stb.cl (by assumption) hw) (by intro hc; omega)) ?_
      refine aw_take 25 (fun w h => Cl.sel (by exact .nil _) w h) rfl (by kernel_rfl) (by kernel_rfl) (by kernel_rfl) (by kernel_rfl) (by kernel_rfl) (by kernel_rfl) rfl rfl rfl (q_loadF rfl rfl rfl (by exact fun w hw => Stb.cl (by assumption) hw) (by intro hc; omega) rfl) ?_
      refine aw_pure 26 rfl (by kernel_rfl) (by kernel_rfl) (by kernel_rfl) (by kernel_rfl) (by kernel_rfl) rfl rfl rfl (q_build rfl (.cons rfl inferInstance (.cons rfl inferInstance (.cons rfl inferInstance (.cons rfl inferInstance (.cons rfl inferInstance (.nil)))))) rfl) ?_
      refine aw_x 27 (by kernel_rfl) rfl rfl rfl rfl (e_build1 (α := Wan) (x := toWan (nth p i)) rfl rfl rfl rfl) (by intro hb; exact fun _ => (fun w h => Cl.sel (by exact .nil _) w h)) (fun sb => ?_)
      refine aw_x 28 (by kernel_rfl) rfl rfl rfl rfl (e_append (i := 1) rfl (.cons rfl inferInstance (.cons rfl inferInstance (.nil))) rfl rfl (by exact fun w hw => rd_own hw (by exact .head _)) (by simp only [List.length_set, List.length_append, List.length_cons, List.length_nil, List.length_replicate, List.length_take, List.length_drop, List.length_map]; omega) rfl) (by intro hb; exact fun _ => (fun w h => Cl.sel (by exact .nil _) w h)) (fun s128 => ?_)
      refine aw_pure 29 rfl (by kernel_rfl) (by kernel_rfl) (by kernel_rfl) (by kernel_rfl) (by kernel_rfl) rfl rfl rfl (q_assign rfl rfl) ?_
      refine aw_end (by kernel_rfl) ?_
      refine post_blk (post_then (cw_region (sr rfl rfl rfl ((q_move rfl rfl)) ?_)))
      refine sr rfl rfl rfl ((q_add rfl rfl rfl (by intro hc; omega))) ?_
      refine sr rfl rfl rfl ((q_assign rfl rfl)) (sw_nil ?_)
      have hsl : (p.take (i + 1)).map toWan = (p.take i).map toWan ++ [toWan (nth p i)] := by
        rw [List.take_succ_eq_append_getElem hi', List.map_append, nth_get hi']; rfl
      have hfol : folB p (i + 1) = (folB p i && (decide ((i : Int) = 0) || decide ((nth p ((i : Int) - 1).toNat).take = (nth p i).take) && decide ((nth p ((i : Int) - 1).toNat).to = (nth p i).fr))) := by
        rw [folB_succ, e1]
        congr 2
        simp
      refine post_next (i + 1, s128) (Le.cons rfl (Le.cons rfl (Le.cons rfl (Le.cons rfl (Le.cons rfl (Le.cons' rfl (congrArg Value.bool hfol.symm) (Le.cons' rfl (by congr 1) Le.nil))))))) (fun w' h => by rw [hsl]; exact (fun w h => Cl.sel (by exact .take 1 rfl (.take 1 rfl (.nil _))) w h) w' h) (by simp only; omega) (by simp only; omega)
    · skip
      have hi' : i = p.length := by simp only [decide_eq_false_iff_not] at h2; omega
      have hsaid : (p.take i).map toWan = p.map toWan := by rw [hi', List.take_length]
      rw [hi', List.take_length]
      refine cw_exit (post_then_x (post_then_x (post_blk_eq (post_then (cw_seq (cw_seq (cw_region (sr rfl rfl rfl ((q_move rfl rfl)) (sr rfl rfl rfl ((q_move rfl rfl)) ?_)))))))))
      refine sr rfl rfl rfl ((q_loadA rfl rfl (by exact .tail _ (.head _)) rfl)) ?_
      refine sw_x rfl rfl rfl (e_call (CanCall.mk Tryz.call19) rfl (.cons rfl inferInstance (.cons rfl inferInstance (.cons rfl inferInstance (.nil)))) (fun w hw => choose_yes sp s9 p (p.map toWan) x w (hvr.arg hw) (stb_own (e := 51) hw (by exact .head _)) (said_wa hvr) hEs hPs (by rw [List.length_map]; exact again_pow (by omega) (by omega)))) (fun y => ?_)
      refine sw_imp fun hy => ?_
      obtain ⟨⟨s1, s2⟩, ⟨cells, q1⟩⟩ := y
      dsimp only at hy ⊢
      obtain ⟨-, hb1⟩ := hy
      refine sr rfl rfl rfl ((q_move rfl rfl)) (sr rfl rfl rfl ((q_extract rfl rfl rfl)) (sr rfl rfl rfl ((q_extract rfl rfl rfl)) (sr rfl rfl rfl ((q_extract rfl rfl rfl)) ?_)))
      refine sw_x rfl rfl rfl (e_alloc rfl) (fun b12 => ?_)
      refine sw_eff0 rfl rfl (e_store (i := 0) rfl rfl rfl rfl rfl rfl rfl rfl) (sr rfl rfl rfl ((q_assign rfl rfl)) (sr rfl rfl rfl ((q_assign rfl rfl)) (sw_nil (post_then (cw_seq (cw_region (sr rfl rfl rfl ((q_move rfl rfl)) (sr rfl rfl rfl ((q_neq rfl rfl rfl)) (sr rfl rfl rfl ((q_move rfl rfl)) (sr rfl rfl rfl ((q_move rfl rfl)) (sr rfl rfl rfl ((q_move rfl rfl)) (sr rfl rfl rfl ((q_fieldAddr rfl rfl)) ?_))))))))))))
      refine sr rfl rfl rfl ((q_loadC rfl rfl (by exact .head _) rfl)) ?_
      refine sr rfl rfl rfl ((q_neq rfl rfl rfl)) (sr rfl rfl rfl ((q_and2 rfl rfl rfl)) (sr rfl rfl rfl ((q_or2 rfl rfl rfl)) (sw_nil (post_then ?_))))
      refine cw_cond rfl (fun h3 => ?_) (fun h3 => ?_)
      · skip
        exfalso
        simp at h3
        exact h3.2 (said_zero hEs h3.1 hb1)
      · skip
        clear h3
        refine cw_skip (post_then (cw_seq (cw_region (sr rfl rfl rfl ((q_move rfl rfl)) (sr rfl rfl rfl ((q_move rfl rfl)) ?_)))))
        refine sr rfl rfl rfl ((q_loadA rfl rfl (by exact .tail _ (.tail _ (.tail _ (.tail _ (.tail _ (.head _)))))) rfl)) ?_
        refine sw_x rfl rfl rfl (e_call (CanCall.mk Tryz.call19) rfl (.cons rfl inferInstance (.cons rfl inferInstance (.cons rfl inferInstance (.nil)))) (fun w hw => choose_any sp tp p tgt x w (hvr.arg hw) (stb_arg hw htp) hta hE (again_pow (by omega) ht6))) (fun y => ?_)
        refine sw_imp fun hy2 => ?_
        obtain ⟨s16, q2⟩ := y
        dsimp only at hy2 ⊢
        refine sr rfl rfl rfl ((q_move rfl rfl)) (sr rfl rfl rfl ((q_extract rfl rfl rfl)) (sr rfl rfl rfl ((q_extract rfl rfl rfl)) (sr rfl rfl rfl ((q_extract rfl rfl rfl)) ?_)))
        refine sw_x rfl rfl rfl (e_alloc rfl) (fun b15 => ?_)
        refine sw_eff0 rfl rfl (e_store (i := 0) rfl rfl rfl rfl rfl rfl rfl rfl) (sr rfl rfl rfl ((q_assign rfl rfl)) (sr rfl rfl rfl ((q_assign rfl rfl)) (sw_nil (post_then (cw_seq (cw_region (sr rfl rfl rfl ((q_move rfl rfl)) (sw_le (fun w' h => Cl.addNil (α := Un) 49 h) ?_))))))))
        refine sw_x rfl rfl rfl (e_append (i := 0) rfl (.cons rfl inferInstance (.cons rfl inferInstance (.nil))) rfl rfl (by exact fun w hw => Stb.cl (by assumption) hw) (by simp only [List.length_set, List.length_append, List.length_cons, List.length_nil, List.length_replicate, List.length_take, List.length_drop, List.length_map]; omega) rfl) (fun s156 => ?_)
        refine sr rfl rfl rfl ((q_move rfl rfl)) ?_
        refine sw_x rfl rfl rfl (e_append (i := 0) rfl (.cons rfl inferInstance (.cons rfl inferInstance (.nil))) rfl rfl (by exact fun w hw => Stb.cl (by assumption) hw) (by simp only [List.length_set, List.length_append, List.length_cons, List.length_nil, List.length_replicate, List.length_take, List.length_drop, List.length_map]; omega) rfl) (fun s158 => ?_)
        refine sr rfl rfl rfl ((q_assign rfl rfl)) (sw_nil (post_then (cw_seq (cw_seq (cw_region (sr rfl rfl rfl ((q_move rfl rfl)) (sr rfl rfl rfl ((q_eql rfl rfl rfl)) (sr rfl rfl rfl ((q_move rfl rfl)) (sr rfl rfl rfl ((q_move rfl rfl)) (sw_step rfl rfl rfl (q_call (CanCall.mk Tryz.call28) rfl (.cons rfl inferInstance (.nil)) (fun _ w hw => callq hw (refVoice_spec s158 (p ++ more) w (more_vo hw (.head _) hvr hmr)))) (sr rfl rfl rfl ((q_and2 rfl rfl rfl)) (sw_nil (post_then ?_)))))))))))))
        refine cw_cut (S := Unit) (fun _ => [(0, [], sp.v), (2, [], tp.v), (7, [], .pointer (some ⟨b7, 0, none⟩))]) (fun _ => Cl w [] [blk b7 (enc x) 25]) (fun _ => True) ?_ ?_
        · refine cw_cond rfl (fun h4 => ?_) (fun h4 => ?_)
          · skip
            have hP : possP p tgt = true := by
              cases hP : possP p tgt
              · rw [hP] at h4; simp at h4
              · rfl
            have hv : voiceB (p ++ more) = true := by
              simp only [Bool.and_eq_true] at h4; exact h4.2
            have hb2 := hy2 hP
            obtain ⟨g1, g2, g3, g4, g5⟩ := beginE_ok hE
            have hE3 : beginE (p ++ more) tgt x = 0 := begin_of (by rw [List.length_append]; omega) g2 hv g4 g5
            clear h4
            refine cw_seq (cw_region (sr rfl rfl rfl ((q_move rfl rfl)) (sr rfl rfl rfl ((q_move rfl rfl)) ?_)))
            refine sr rfl rfl rfl ((q_loadA rfl rfl (by exact .tail _ (.tail _ (.tail _ (.tail _ (.tail _ (.tail _ (.tail _ (.tail _ (.head _))))))))) rfl)) ?_
            refine sw_x rfl rfl rfl (e_call (CanCall.mk Tryz.call19) rfl (.cons rfl inferInstance (.cons rfl inferInstance (.cons rfl inferInstance (.nil)))) (fun w hw => choose_yes s158 tp (p ++ more) tgt x w (more_vo hw (.head _) hvr hmr) (stb_arg hw htp) hta hE3 (more_poss hP) (again_pow (by rw [List.length_append]; omega) ht6))) (fun y => ?_)
            refine sw_imp fun hy3 => ?_
            obtain ⟨⟨s3, s4⟩, ⟨cells3, q3⟩⟩ := y
            dsimp only at hy3 ⊢
            have hle := more_cost hb2 hy3.2
            refine sr rfl rfl rfl ((q_move rfl rfl)) (sr rfl rfl rfl ((q_extract rfl rfl rfl)) (sr rfl rfl rfl ((q_extract rfl rfl rfl)) (sr rfl rfl rfl ((q_extract rfl rfl rfl)) ?_)))
            refine sw_x rfl rfl rfl (e_alloc rfl) (fun b19 => ?_)
            refine sw_eff0 rfl rfl (e_store (i := 0) rfl rfl rfl rfl rfl rfl rfl rfl) (sr rfl rfl rfl ((q_assign rfl rfl)) (sr rfl rfl rfl ((q_assign rfl rfl)) (sw_nil (post_then (cw_seq (cw_region (sr rfl rfl rfl ((q_move rfl rfl)) (sr rfl rfl rfl ((q_neq rfl rfl rfl)) (sr rfl rfl rfl ((q_move rfl rfl)) (sr rfl rfl rfl ((q_fieldAddr rfl rfl)) ?_))))))))))
            refine sr rfl rfl rfl ((q_loadC rfl rfl (by exact .head _) rfl)) ?_
            refine sr rfl rfl rfl ((q_fieldAddr rfl rfl)) ?_
            refine sr rfl rfl rfl ((q_loadC rfl rfl (by exact .tail _ (.tail _ (.tail _ (.tail _ (.tail _ (.head _)))))) rfl)) ?_
            refine sr rfl rfl rfl ((q_gtr rfl rfl rfl)) (sr rfl rfl rfl ((q_or2 rfl rfl rfl)) (sw_nil (post_then ?_)))
            refine cw_cond rfl (fun h5 => ?_) (fun h5 => ?_)
            · skip
              exfalso
              simp [hP] at h5
              omega
            · skip
              refine cw_skip ?_
              exact post_meet () (by exact .cons rfl (.cons rfl (.cons rfl .nil))) (fun w' hw => Cl.sel (.take 12 rfl (.nil _)) w' hw) trivial
          · skip
            refine cw_skip ?_
            exact post_meet () (by exact .cons rfl (.cons rfl (.cons rfl .nil))) (fun w' hw => (fun w h => Cl.sel (by exact .take 8 rfl (.nil _)) w h) _ hw) trivial
        · intro _ _
          refine post_then (cw_seq (cw_region (sr rfl rfl rfl ((q_fieldAddr rfl rfl)) (sw_eff0 rfl rfl (e_store (i := 0) rfl rfl rfl rfl rfl rfl rfl rfl) (sw_nil (post_then (cw_seq (cw_region (sr rfl rfl rfl ((q_move rfl rfl)) (sr rfl rfl rfl ((q_move rfl rfl)) ?_))))))))))
          refine sr rfl rfl rfl ((q_loadA rfl rfl (by exact .head _) rfl)) ?_
          refine sw_le (C' := Cl w [] [blk b7 (enc (noJoin x)) 25]) (fun w' h => h) ?_
          refine sw_x rfl rfl rfl (e_call (CanCall.mk Tryz.call19) rfl (.cons rfl inferInstance (.cons rfl inferInstance (.cons rfl inferInstance (.nil)))) (fun w hw => choose_any sp tp p tgt (noJoin x) w (hvr.arg hw) (stb_arg hw htp) hta (noJoin_begin hE) (again_pow (by omega) ht6))) (fun y => ?_)
          refine sw_imp fun hy4 => ?_
          obtain ⟨s22, q4⟩ := y
          dsimp only at hy4 ⊢
          refine sr rfl rfl rfl ((q_move rfl rfl)) (sr rfl rfl rfl ((q_extract rfl rfl rfl)) (sr rfl rfl rfl ((q_extract rfl rfl rfl)) (sr rfl rfl rfl ((q_extract rfl rfl rfl)) ?_)))
          refine sw_x rfl rfl rfl (e_alloc rfl) (fun b22 => ?_)
          refine sw_eff0 rfl rfl (e_store (i := 0) rfl rfl rfl rfl rfl rfl rfl rfl) (sr rfl rfl rfl ((q_assign rfl rfl)) (sr rfl rfl rfl ((q_assign rfl rfl)) (sw_nil (post_then (cw_seq (cw_seq (cw_region (sr rfl rfl rfl ((q_assign rfl rfl)) (sw_nil (post_then (cw_block ?_)))))))))))
          refine cw_loop (S := Nat) (fun i => [(0, [], sp.v), (2, [], tp.v), (7, [], .pointer (some ⟨b7, 0, none⟩)), (22, [], .pointer (some ⟨b22, 0, none⟩)), (24, [], .int .i64 (if possP p tgt = true then 0 else 5)), (25, [], .int .i64 i)]) (fun _ => Cl w [] [ownL 3 q4.us.v q4.ul, blk b7 (enc (noJoin x)) 25, blk b22 (enc q4) 30]) (fun i => i ≤ q4.ul.length) (fun i => q4.ul.length - i) 0 (Nat.zero_le _) (by exact .cons rfl (.cons rfl (.cons rfl (.cons rfl (.cons rfl (.cons rfl .nil)))))) (fun w' hw => (fun w h => Cl.sel (by exact .take 1 rfl (.take 1 rfl (.take 0 rfl (.nil _)))) w h) _ hw) ?_
          intro i hi
          refine cw_seq (cw_seq (cw_region (sr rfl rfl rfl ((q_move rfl rfl)) (sr rfl rfl rfl ((q_fieldAddr rfl rfl)) ?_))))
          refine sr rfl rfl rfl ((q_loadC rfl rfl (by exact .tail _ (.tail _ (.head _))) rfl)) ?_
          refine sr rfl rfl rfl ((q_len rfl (.cons rfl inferInstance (.nil)) (by exact fun w hw => rd_own hw (by exact .head _)))) ?_
          refine sr rfl rfl rfl ((q_lss rfl rfl rfl)) (sr rfl rfl rfl ((q_move rfl rfl)) (sr rfl rfl rfl ((q_move rfl rfl)) (sr rfl rfl rfl ((q_eql rfl rfl rfl)) (sr rfl rfl rfl ((q_and2 rfl rfl rfl)) (sw_nil (post_then ?_))))))
          refine cw_cond rfl (fun h6 => ?_) (fun h6 => ?_)
          · skip
            simp only [Bool.and_eq_true, decide_eq_true_eq] at h6
            obtain ⟨h7, h8⟩ := h6
            have hP : possP p tgt = true := by
              cases hP : possP p tgt
              · rw [hP] at h8; simp at h8
              · rfl
            have hb4 := hy4 hP
            have hi' : i < q4.ul.length := by omega
            have hlen : q4.ul.length = tgt.length := (Tsk.mem_all.1 hb4.1).1
            have hit : i < tgt.length := by omega
            have hsub : (tgt.take (i + 1)).drop i = [nth tgt i] := by
              rw [List.take_succ_eq_append_getElem hit, List.drop_left' (by rw [List.length_take]; omega), nth_get hit]
            have hst : Stb w [] (RdL (tp.sub (Enc.sz Wan) i (i + 1)).v [nth tgt i]) := by
              rw [← hsub]; exact stb_sub htp (Nat.le_succ i) hit
            have hE5 := one_begin (noJoin_begin hE) hit
            have hP5 := one_poss hP hit
            have hta5 : ∀ t ∈ [nth tgt i], WaRd t := fun t ht => hta t (by rw [List.mem_singleton.1 ht]; exact nth_mem hit)
            refine cw_skip (post_then (cw_seq (cw_block (cw_seq ?_))))
            refine cw_cut (S := Nat × Sq) (fun y => [(0, [], sp.v), (2, [], tp.v), (7, [], .pointer (some ⟨b7, 0, none⟩)), (22, [], .pointer (some ⟨b22, 0, none⟩)), (24, [], .int .i64 (if possP p tgt = true then 0 else 5)), (25, [], .int .i64 i), (26, [], .pointer (some ⟨y.1, 0, none⟩)), (28, [], .int .i64 0)]) (fun y => Cl w [] [ownL 3 y.2.us.v y.2.ul, blk y.1 (enc y.2) 30, ownL 3 q4.us.v q4.ul, blk b7 (enc (noJoin x)) 25, blk b22 (enc q4) 30]) (fun y => y.2.ul = [nth q4.ul i]) ?_ ?_
            · refine cw_region_a (Cl w [] [ownL 3 q4.us.v q4.ul, blk b7 (enc (noJoin x)) 25, blk b22 (enc q4) 30]) [] mixed_Tryz ?_
              refine aw_pure 0 rfl (by kernel_rfl) (by kernel_rfl) (by kernel_rfl) (by kernel_rfl) (by kernel_rfl) rfl rfl rfl (q_move rfl rfl) ?_
              refine aw_pure 1 rfl (by kernel_rfl) (by kernel_rfl) (by kernel_rfl) (by kernel_rfl) (by kernel_rfl) rfl rfl rfl (q_move rfl rfl) ?_
              refine aw_pure 2 rfl (by kernel_rfl) (by kernel_rfl) (by kernel_rfl) (by kernel_rfl) (by kernel_rfl) rfl rfl rfl (q_move rfl rfl) ?_
              refine aw_pure 3 rfl (by kernel_rfl) (by kernel_rfl) (by kernel_rfl) (by kernel_rfl) (by kernel_rfl) rfl rfl rfl (q_move rfl rfl) ?_
              refine aw_pure 4 rfl (by kernel_rfl) (by kernel_rfl) (by kernel_rfl) (by kernel_rfl) (by kernel_rfl) rfl rfl rfl (q_add rfl rfl rfl (by intro hc; omega)) ?_
              refine aw_take 5 (fun w h => Cl.sel (by exact .take 0 rfl (.take 0 rfl (.take 0 rfl (.nil _)))) w h) rfl (by kernel_rfl) (by kernel_rfl) (by kernel_rfl) (by kernel_rfl) (by kernel_rfl) (by kernel_rfl) rfl rfl rfl (q_slice2 rfl rfl rfl rfl (by exact fun w hw => Stb.cl (by assumption) hw) (by intro hc; omega)) ?_
              refine aw_take 6 (fun w h => Cl.sel (by exact .take 0 rfl (.take 0 rfl (.take 0 rfl (.nil _)))) w h) rfl (by kernel_rfl) (by kernel_rfl) (by kernel_rfl) (by kernel_rfl) (by kernel_rfl) (by kernel_rfl) rfl rfl rfl (q_loadA rfl rfl (by exact .tail _ (.head _)) rfl) ?_
              refine aw_two 7 12 (by kernel_rfl) ?_ ?_
              · skip
                refine at_x 7 rfl rfl rfl rfl (e_call (CanCall.mk Tryz.call19) rfl (.cons rfl inferInstance (.cons rfl inferInstance (.cons rfl inferInstance (.nil)))) (fun w hw => choose_yes sp (tp.sub (Enc.sz Wan) i (i + 1)) p [nth tgt i] (noJoin x) w (hvr.arg hw) (stb_arg hw hst) hta5 hE5 hP5 (again_pow (by omega) (by simp)))) (by intro hb; exact fun _ w h => (fun w h => Cl.sel (by exact .take 3 rfl (.take 3 rfl (.take 3 rfl (.nil _)))) w h) w h.2) (fun y => ?_)
                refine aw_imp fun hy5 => ?_
                obtain ⟨⟨s5, s6⟩, ⟨cells5, q5⟩⟩ := y
                dsimp only at hy5 ⊢
                refine aw_pure 8 rfl (by kernel_rfl) (by kernel_rfl) (by kernel_rfl) (by kernel_rfl) (by kernel_rfl) rfl rfl rfl (q_move rfl rfl) ?_
                refine aw_take 9 (fun w h => Cl.sel (by exact .take 3 rfl (.take 3 rfl (.take 3 rfl (.nil _)))) w h) rfl (by kernel_rfl) (by kernel_rfl) (by kernel_rfl) (by kernel_rfl) (by kernel_rfl) (by kernel_rfl) rfl rfl rfl (q_extract rfl rfl rfl) ?_
                refine aw_take 10 (fun w h => Cl.sel (by exact .take 3 rfl (.take 3 rfl (.take 3 rfl (.nil _)))) w h) rfl (by kernel_rfl) (by kernel_rfl) (by kernel_rfl) (by kernel_rfl) (by kernel_rfl) (by kernel_rfl) rfl rfl rfl (q_extract rfl rfl rfl) ?_
                refine aw_take 11 (fun w h => Cl.sel (by exact .take 3 rfl (.take 3 rfl (.take 3 rfl (.nil _)))) w h) rfl (by kernel_rfl) (by kernel_rfl) (by kernel_rfl) (by kernel_rfl) (by kernel_rfl) (by kernel_rfl) rfl rfl rfl (q_extract rfl rfl rfl) ?_
                refine aw_x 12 (by kernel_rfl) rfl rfl rfl rfl (e_alloc rfl) (by intro hb; exact fun _ => (fun w h => Cl.sel (by exact .take 4 rfl (.take 4 rfl (.take 4 rfl (.nil _)))) w h)) (fun b26 => ?_)
                refine aw_one0 13 (by kernel_rfl) rfl rfl rfl (e_store (i := 0) rfl rfl rfl rfl rfl rfl rfl rfl) (by intro hb; exact (fun w h => Cl.sel (by exact .take 4 rfl (.take 4 rfl (.take 4 rfl (.nil _)))) w h)) ?_
                refine aw_pure 14 rfl (by kernel_rfl) (by kernel_rfl) (by kernel_rfl) (by kernel_rfl) (by kernel_rfl) rfl rfl rfl (q_assign rfl rfl) ?_
                refine aw_pure 15 rfl (by kernel_rfl) (by kernel_rfl) (by kernel_rfl) (by kernel_rfl) (by kernel_rfl) rfl rfl rfl (q_assign rfl rfl) ?_
                refine aw_end (by kernel_rfl) ?_
                exact post_meet (b26, q5) (by exact .cons rfl (.cons rfl (.cons rfl (.cons rfl (.cons rfl (.cons rfl (.cons rfl (.cons rfl .nil)))))))) (fun w' hw => (fun w h => Cl.sel (by exact .take 3 rfl (.take 0 rfl (.take 2 rfl (.take 2 rfl (.take 2 rfl (.nil _)))))) w h) w' hw) (own_one hb4 hit hy5.2)
              · skip
                refine at_x 12 rfl rfl rfl rfl (e_alloc rfl) (by intro hb; exact fun _ => (fun w h => Cl.sel (by exact .take 1 rfl (.take 1 rfl (.take 1 rfl (.nil _)))) w h)) (fun b26 => ?_)
                refine aw_x 7 (by kernel_rfl) rfl rfl rfl rfl (e_call (CanCall.mk Tryz.call19) rfl (.cons rfl inferInstance (.cons rfl inferInstance (.cons rfl inferInstance (.nil)))) (fun w hw => choose_yes sp (tp.sub (Enc.sz Wan) i (i + 1)) p [nth tgt i] (noJoin x) w (hvr.arg hw) (stb_arg hw hst) hta5 hE5 hP5 (again_pow (by omega) (by simp)))) (by intro hb; exact fun _ w h => (fun w h => Cl.sel (by exact .take 4 rfl (.take 4 rfl (.take 4 rfl (.nil _)))) w h) w h.2) (fun y => ?_)
                refine aw_imp fun hy5 => ?_
                obtain ⟨⟨s5, s6⟩, ⟨cells5, q5⟩⟩ := y
                dsimp only at hy5 ⊢
                refine aw_pure 8 rfl (by kernel_rfl) (by kernel_rfl) (by kernel_rfl) (by kernel_rfl) (by kernel_rfl) rfl rfl rfl (q_move rfl rfl) ?_
                refine aw_take 9 (fun w h => Cl.sel (by exact .take 4 rfl (.take 4 rfl (.take 4 rfl (.nil _)))) w h) rfl (by kernel_rfl) (by kernel_rfl) (by kernel_rfl) (by kernel_rfl) (by kernel_rfl) (by kernel_rfl) rfl rfl rfl (q_extract rfl rfl rfl) ?_
                refine aw_take 10 (fun w h => Cl.sel (by exact .take 4 rfl (.take 4 rfl (.take 4 rfl (.nil _)))) w h) rfl (by kernel_rfl) (by kernel_rfl) (by kernel_rfl) (by kernel_rfl) (by kernel_rfl) (by kernel_rfl) rfl rfl rfl (q_extract rfl rfl rfl) ?_
                refine aw_take 11 (fun w h => Cl.sel (by exact .take 4 rfl (.take 4 rfl (.take 4 rfl (.nil _)))) w h) rfl (by kernel_rfl) (by kernel_rfl) (by kernel_rfl) (by kernel_rfl) (by kernel_rfl) (by kernel_rfl) rfl rfl rfl (q_extract rfl rfl rfl) ?_
                refine aw_one0 13 (by kernel_rfl) rfl rfl rfl (e_store (i := 3) rfl rfl rfl rfl rfl rfl rfl rfl) (by intro hb; exact (fun w h => Cl.sel (by exact .take 4 rfl (.take 4 rfl (.take 4 rfl (.nil _)))) w h)) ?_
                refine aw_pure 14 rfl (by kernel_rfl) (by kernel_rfl) (by kernel_rfl) (by kernel_rfl) (by kernel_rfl) rfl rfl rfl (q_assign rfl rfl) ?_
                refine aw_pure 15 rfl (by kernel_rfl) (by kernel_rfl) (by kernel_rfl) (by kernel_rfl) (by kernel_rfl) rfl rfl rfl (q_assign rfl rfl) ?_
                refine aw_end (by kernel_rfl) ?_
                exact post_meet (b26, q5) (by exact .cons rfl (.cons rfl (.cons rfl (.cons rfl (.cons rfl (.cons rfl (.cons rfl (.cons rfl .nil)))))))) (fun w' hw => (fun w h => Cl.sel (by exact .take 2 rfl (.take 2 rfl (.take 2 rfl (.take 2 rfl (.take 2 rfl (.nil _)))))) w h) w' hw) (own_one hb4 hit hy5.2)
            · rintro ⟨b26, q5⟩ hq5
              dsimp only at hq5 ⊢
              have hlen5 : q5.ul.length = 1 := by rw [hq5]; rfl
              refine post_then (cw_seq ?_)
              refine cw_region_q mixed_Tryz (by kernel_rfl) ?_
              refine qr rfl rfl rfl ((q_move rfl rfl)) (qr rfl rfl rfl ((q_neq rfl rfl rfl)) (qr rfl rfl rfl ((q_move rfl rfl)) (qr rfl rfl rfl ((q_fieldAddr rfl rfl)) ?_)))
              refine qr rfl rfl rfl ((q_loadC rfl rfl (by exact .tail _ (.head _)) rfl)) ?_
              refine qr rfl rfl rfl ((q_len rfl (.cons rfl inferInstance (.nil)) (by exact fun w hw => rd_own hw (by exact .head _)))) ?_
              refine qr rfl rfl rfl ((q_neq rfl rfl rfl)) (qr rfl rfl rfl ((q_or2 rfl rfl rfl)) (qr rfl rfl rfl ((q_move rfl rfl)) (qr rfl rfl rfl ((q_fieldAddr rfl rfl)) ?_)))
              refine qr rfl rfl rfl ((q_loadC rfl rfl (by exact .tail _ (.head _)) rfl)) ?_
              refine qr rfl rfl rfl ((q_indexN rfl rfl rfl (by exact fun w hw => rd_own hw (by exact .head _)) (by intro hc; (simp only [List.length_set, List.length_append, List.length_cons, List.length_nil, List.length_replicate, List.length_take, List.length_drop, List.length_map]; omega)))) ?_
              refine qr rfl rfl rfl ((q_loadEl rfl rfl rfl (by exact fun w hw => rd_own hw (by exact .head _)) (by intro hc; (simp only [List.length_set, List.length_append, List.length_cons, List.length_nil, List.length_replicate, List.length_take, List.length_drop, List.length_map]; omega)))) ?_
              refine qr rfl rfl rfl ((q_fieldAddr rfl rfl)) ?_
              refine qr rfl rfl rfl ((q_loadC rfl rfl (by exact .tail _ (.tail _ (.tail _ (.tail _ (.head _))))) rfl)) ?_
              refine qr rfl rfl rfl ((q_move rfl rfl)) ?_
              refine qr rfl rfl rfl ((q_indexN rfl rfl rfl (by exact fun w hw => rd_own hw (by exact .tail _ (.tail _ (.head _)))) (by intro hc; omega))) ?_
              refine qr rfl rfl rfl ((q_loadEl rfl rfl rfl (by exact fun w hw => rd_own hw (by exact .tail _ (.tail _ (.head _)))) (by intro hc; omega))) ?_
              refine qr rfl rfl rfl ((q_neq rfl rfl rfl)) (qr rfl rfl rfl ((q_or2 rfl rfl rfl)) (qw_end (post_then ?_)))
              refine cw_cond rfl (fun h9 => ?_) (fun h9 => ?_)
              · skip
                exfalso
                simp [hq5, nth] at h9
              · skip
                refine cw_skip (post_blk (post_then (cw_region (sr rfl rfl rfl ((q_move rfl rfl)) ?_))))
                refine sr rfl rfl rfl ((q_add rfl rfl rfl (by intro hc; omega))) ?_
                refine sr rfl rfl rfl ((q_assign rfl rfl)) (sw_nil ?_)
                exact post_next (i + 1) (by exact .cons rfl (.cons rfl (.cons rfl (.cons rfl (.cons rfl (.cons rfl .nil)))))) (fun w' hw => (fun w h => Cl.sel (by exact .take 2 rfl (.take 2 rfl (.take 2 rfl (.nil _)))) w h) w' hw) (by omega) (by omega)
          · skip
            refine cw_exit (post_then_x (post_then_x (post_blk_eq (post_then (cw_seq (cw_region (sw_step rfl rfl rfl (q_call (CanCall.mk Tryz.call18) rfl (.nil) (fun _ w hw => callq hw (known_spec w))) (sr rfl rfl rfl ((q_assign rfl rfl)) (sw_nil (post_then (cw_ret (post_ret1 rfl (resOk_tmp rfl) ?_))))))))))))
            exact fun w' hw => ⟨rfl, (fun w h => Cl.sel (by exact .nil _) w h) _ hw⟩
end Go.Proofs.YtomjbfeafodfbaaGreat
