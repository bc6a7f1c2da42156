import Derived.Test.YtomjbfeafodfbaaGreatWChooses4

set_option autoImplicit false
set_option linter.unusedSimpArgs false
set_option linter.unusedVariables false
set_option maxRecDepth 100000
namespace Go.Proofs.YtomjbfeafodfbaaGreat
open Go.Sx
open Enc (enc val)
structure EX where
  su : SlV
  st : SlV
  a : SlV
  b : SlV
  c : SlV
  d : SlV
  e : SlV
  f : SlV
def EX.U (y : EX) : List Un := exU y.a y.b y.c y.d y.e y.f
def EX.H (y : EX) : List Asn := [ownL 51 y.st.v exT, ownL 49 y.su.v y.U, ownL 3 y.f.v [(5 : Int)], ownL 3 y.e.v [(0 : Int)], ownL 3 y.d.v [(0 : Int)], ownL 3 y.c.v [(5 : Int)], ownL 3 y.b.v [(4 : Int)], ownL 3 y.a.v [(0 : Int)]]
theorem example_spec (w : World) : Calls Tryz.prog 63 #[] w fun e w' => ∃ y : EX, e = .returned (.tuple #[y.su.v, y.st.v, val exW]) ∧ True ∧ Cl w [] y.H w' := by
  refine calls_cw (vs := []) Tryz.func63 rfl Tryz.ntmps63 rfl (Cl.start0 w) (cw_seq (cw_region (sr rfl rfl rfl ((q_assign rfl rfl)) (sr rfl rfl rfl ((q_assign rfl rfl)) ?_))))
  refine sw_x rfl rfl rfl (e_alloc rfl) (fun b2 => ?_)
  refine sw_nil (post_then (cw_seq (cw_region ?_)))
  refine sw_x rfl rfl rfl (e_build1 (α := Int) rfl rfl rfl rfl) (fun s4 => ?_)
  refine sw_x rfl rfl rfl (e_build1 (α := Int) rfl rfl rfl rfl) (fun s5 => ?_)
  refine sr rfl rfl rfl ((q_build rfl (.cons rfl inferInstance (.cons rfl inferInstance (.cons rfl inferInstance (.cons rfl inferInstance (.cons rfl inferInstance (.cons rfl inferInstance (.nil))))))) rfl)) ?_
  refine sw_x rfl rfl rfl (e_build1 (α := Int) rfl rfl rfl rfl) (fun s7 => ?_)
  refine sw_x rfl rfl rfl (e_build1 (α := Int) rfl rfl rfl rfl) (fun s8 => ?_)
  refine sr rfl rfl rfl ((q_build rfl (.cons rfl inferInstance (.cons rfl inferInstance (.cons rfl inferInstance (.cons rfl inferInstance (.cons rfl inferInstance (.cons rfl inferInstance (.cons rfl inferInstance (.nil)))))))) rfl)) ?_
  refine sw_x rfl rfl rfl (e_build1 (α := Int) rfl rfl rfl rfl) (fun s10 => ?_)
  refine sw_x rfl rfl rfl (e_build1 (α := Int) rfl rfl rfl rfl) (fun s11 => ?_)
  refine sr rfl rfl rfl ((q_build rfl (.cons rfl inferInstance (.cons rfl inferInstance (.cons rfl inferInstance (.cons rfl inferInstance (.cons rfl inferInstance (.cons rfl inferInstance (.cons rfl inferInstance (.nil)))))))) rfl)) ?_
  refine sw_x rfl rfl rfl (e_buildL (α := Un) (l := exU s4 s5 s7 s8 s10 s11) rfl (.cons rfl inferInstance (.cons rfl inferInstance (.cons rfl inferInstance (.nil)))) rfl rfl rfl rfl) (fun s13 => ?_)
  refine sr rfl rfl rfl ((q_assign rfl rfl)) (sw_nil (post_then (cw_seq (cw_region (sr rfl rfl rfl ((q_move rfl rfl)) ?_)))))
  refine sr rfl rfl rfl ((q_build (cells := [.string exA, .string ByteArray.empty, .string ByteArray.empty, .int .i64 100, .int .i64 10]) rfl (.cons rfl inferInstance (.cons rfl inferInstance (.cons rfl inferInstance (.nil)))) (by rfl))) ?_
  refine sr rfl rfl rfl ((q_build (cells := [.string exB, .string ByteArray.empty, .string ByteArray.empty, .int .i64 100, .int .i64 10]) rfl (.cons rfl inferInstance (.cons rfl inferInstance (.cons rfl inferInstance (.nil)))) (by rfl))) ?_
  refine sw_x rfl rfl rfl (e_buildL (α := Wan) (l := exT) rfl (.cons rfl inferInstance (.cons rfl inferInstance (.nil))) rfl rfl rfl rfl) (fun s17 => ?_)
  refine sr rfl rfl rfl ((q_build (cells := enc exW) rfl (.cons rfl inferInstance (.cons rfl inferInstance (.cons rfl inferInstance (.cons rfl inferInstance (.nil))))) (by rfl))) ?_
  refine sr rfl rfl rfl ((q_assign rfl rfl)) (sr rfl rfl rfl ((q_assign rfl rfl)) (sw_eff0 rfl rfl (e_store (i := 8) rfl rfl rfl rfl rfl rfl rfl rfl) (sw_nil (post_then (cw_ret ?_)))))
  refine post_ret3 rfl (resOk_tmp rfl) (resOk_tmp rfl) (resOk_blk (x := exW) rfl (by exact .tail _ (.tail _ (.tail _ (.tail _ (.tail _ (.tail _ (.tail _ (.tail _ (.head _))))))))) (by rfl)) ?_
  exact fun w' hw => ⟨⟨s13, s17, s4, s5, s7, s8, s10, s11⟩, rfl, trivial, (fun w h => Cl.sel (by exact .take 0 rfl (.take 0 rfl (.take 0 rfl (.take 0 rfl (.take 0 rfl (.take 0 rfl (.take 0 rfl (.take 0 rfl (.nil _))))))))) w h) _ hw⟩
theorem ex_un {w : World} {H : List Asn} {w0 : World} (y : EX) (hw : Cl w0 [] H w) (hm : ∀ A ∈ y.H, A ∈ H) : VoRd w y.su y.U ∧ Stb w [] (RdL y.st.v exT) := by
  have h1 := stb_own (e := 49) hw (hm _ (.tail _ (.head _)))
  have h2 := stb_own (e := 51) hw (hm _ (.head _))
  have hf := stb_own (e := 3) hw (hm _ (.tail _ (.tail _ (.head _))))
  have he := stb_own (e := 3) hw (hm _ (.tail _ (.tail _ (.tail _ (.head _)))))
  have hd := stb_own (e := 3) hw (hm _ (.tail _ (.tail _ (.tail _ (.tail _ (.head _))))))
  have hc := stb_own (e := 3) hw (hm _ (.tail _ (.tail _ (.tail _ (.tail _ (.tail _ (.head _)))))))
  have hb := stb_own (e := 3) hw (hm _ (.tail _ (.tail _ (.tail _ (.tail _ (.tail _ (.tail _ (.head _))))))))
  have ha := stb_own (e := 3) hw (hm _ (.tail _ (.tail _ (.tail _ (.tail _ (.tail _ (.tail _ (.tail _ (.head _)))))))))
  refine ⟨⟨h1, fun u hu => ?_⟩, h2⟩
  simp only [EX.U, exU, List.mem_cons, List.not_mem_nil, or_false] at hu
  have sA : exA.size ≤ 140737488355328 := by decide
  have sB : exB.size ≤ 140737488355328 := by decide
  have sE : ByteArray.empty.size ≤ 140737488355328 := by decide
  rcases hu with rfl | rfl | rfl
  · exact ⟨sA, sE, sE, ha, hb⟩
  · exact ⟨sB, sE, sE, hc, hd⟩
  · exact ⟨sA, sE, sE, he, hf⟩
theorem ex_wa : ∀ t ∈ exT, WaRd t := by
  intro t ht
  simp only [exT, List.mem_cons, List.not_mem_nil, or_false] at ht
  rcases ht with rfl | rfl <;> exact ⟨by decide, by decide, by decide⟩
theorem mt_own {w0 w : World} {fp : List Nat} {H : List Asn} (hw : Cl w0 fp H w) {s : SlV} {vs : List SlV} {ls : List (List Int)} {e : TypeId} (hl : ownL e s.v vs ∈ H) (hn : vs.length = ls.length) (hr : ∀ i, i < ls.length → ∃ e2, ownL e2 (nth vs i).v (nth ls i) ∈ H) : Stb w [] (fun w' => Mt w' s.v vs ls) := by
  have h1 := stb_own hw hl
  have h2 : ∀ i, i < ls.length → Stb w [] (RdL (nth vs i).v (nth ls i)) := fun i hi => by
    obtain ⟨e2, h⟩ := hr i hi
    exact stb_own hw h
  exact ⟨fun w' k => ⟨h1.stb w' k, hn, fun i hi => (h2 i hi).stb w' k⟩⟩
theorem ex_rows {w : World} {so sc : SlV} (h1 : Stb w [] (RdL so.v (rowsTo sc 3 2 2))) (h2 : Stb w [] (RdL sc.v [(0 : Int), 0, 20, 0, 0, 0])) : Stb w [] (fun w' => Mt w' so.v (rowsTo sc 3 2 2) [[0, 0, 20], [0, 0, 0]]) := by
  have r0 : Stb w [] (RdL (sc.row 1 0 3).v [(0 : Int), 0, 20]) := stb_row (α := Int) h2 (by decide) (by decide)
  have r1 : Stb w [] (RdL (sc.row 1 3 6).v [(0 : Int), 0, 0]) := stb_row (α := Int) h2 (by decide) (by decide)
  refine ⟨fun w' k => ⟨h1.stb w' k, rowsTo_len _ _ _ _, fun i hi => ?_⟩⟩
  match i, hi with
  | 0, _ => rw [rowsTo_nth _ _ _ _ _ (by decide)]; exact r0.stb w' k
  | 1, _ => rw [rowsTo_nth _ _ _ _ _ (by decide)]; exact r1.stb w' k
def exP : CutP := ⟨[[1], [1], [9]], [[1], [8]], 1⟩
theorem exP_D : (exP.D exP.m 0).getD 0 = 1 := by decide +kernel
theorem exP_pth : exP.pth exP.m 0 = [2, 1] := by decide +kernel
theorem exP_E : cutE exP.fl exP.pl exP.L = 0 := by decide +kernel
theorem exP_ok : exP.Ok where
  fv f hf := by
    have hf' : f < 3 := hf
    match f, hf' with
    | 0, _ => decide
    | 1, _ => decide
    | 2, _ => decide
  pv p hp := by
    have hp' : p < 2 := hp
    match p, hp' with
    | 0, _ => decide
    | 1, _ => decide
  eq f p hf hp := by
    have hf' : f < 3 := hf
    have hp' : p < 2 := hp
    match f, hf', p, hp' with
    | 0, _, 0, _ => rfl
    | 1, _, 0, _ => rfl
    | 2, _, 0, _ => rfl
    | 0, _, 1, _ => rfl
    | 1, _, 1, _ => rfl
    | 2, _, 1, _ => rfl
  n2 := by decide
  m2 := by decide
  l1 := by decide
theorem same_true (sa sb : Value) (a b : List Int) (h : a = b) (w : World) (ha : Stb w [] (RdL sa a)) (hb : Stb w [] (RdL sb b)) : Calls Tryz.prog 23 #[sa, sb] w fun e w' => e = .returned (.bool true) ∧ Cl w [] [] w' := by
  have := same_spec sa sb a b w ha hb
  rwa [decide_eq_true h] at this
theorem sameL_true (sa sb : Value) (va vb : List SlV) (a b : List (List Int)) (h : a = b) (w : World) (ha : Stb w [] (fun w' => Mt w' sa va a)) (hb : Stb w [] (fun w' => Mt w' sb vb b)) : Calls Tryz.prog 24 #[sa, sb] w fun e w' => e = .returned (.bool true) ∧ Cl w [] [] w' := by
  have := sameLists_spec sa sb va vb a b w ha hb
  rwa [decide_eq_true h] at this
theorem known_spec (w : World) : Calls Tryz.prog 18 #[] w fun e w' => e = .returned (.bool true) ∧ Cl w [] [] w' := by
  refine calls_cw (vs := []) Tryz.func18 rfl Tryz.ntmps18 rfl (Cl.start0 w) (cw_seq (cw_region (sr rfl rfl rfl ((q_assign rfl rfl)) (sw_nil (post_then (cw_seq (cw_region ?_)))))))
  refine sw_x rfl rfl rfl (e_call (CanCall.mk Tryz.call63) rfl (.nil) (fun w hw => example_spec w)) (fun y => ?_)
  refine sw_imp fun _ => ?_
  rw [List.append_nil]
  refine sr rfl rfl rfl ((q_move rfl rfl)) (sr rfl rfl rfl ((q_extract rfl rfl rfl)) (sr rfl rfl rfl ((q_extract rfl rfl rfl)) (sr rfl rfl rfl ((q_extract rfl rfl rfl)) ?_)))
  refine sw_x rfl rfl rfl (e_alloc rfl) (fun b3 => ?_)
  refine sr rfl rfl rfl ((q_assign rfl rfl)) (sr rfl rfl rfl ((q_assign rfl rfl)) (sw_eff0 rfl rfl (e_store (i := 0) rfl rfl rfl rfl rfl rfl rfl rfl) (sw_nil (post_then (cw_seq (cw_region (sr rfl rfl rfl ((q_move rfl rfl)) (sr rfl rfl rfl ((q_move rfl rfl)) ?_))))))))
  refine sr rfl rfl rfl ((q_loadA rfl rfl (by exact .head _) rfl)) ?_
  refine sw_x rfl rfl rfl (e_call (CanCall.mk Tryz.call19) rfl (.cons rfl inferInstance (.cons rfl inferInstance (.cons rfl inferInstance (.nil)))) (fun w1 hw => choose_yes y.su y.st y.U exT exW w1 (ex_un y hw (fun A hA => .tail _ hA)).1 (ex_un y hw (fun A hA => .tail _ hA)).2 ex_wa (ex_begin _ _ _ _ _ _) (ex_poss _ _ _ _ _ _) (show (3 + 1) ^ 2 ≤ 500000000 by decide))) (fun z => ?_)
  refine sw_imp fun hz => ?_
  obtain ⟨⟨so, sc⟩, ⟨cells, ⟨qs, qc, ql⟩⟩⟩ := z
  obtain ⟨h1, h2⟩ := hz
  dsimp only at h1 h2
  obtain rfl := ex_cells _ _ _ _ _ _ h1
  obtain ⟨rfl, rfl⟩ := ex_best _ _ _ _ _ _ h2
  clear h1 h2
  dsimp only
  refine sr rfl rfl rfl ((q_move rfl rfl)) (sr rfl rfl rfl ((q_extract rfl rfl rfl)) (sr rfl rfl rfl ((q_extract rfl rfl rfl)) (sr rfl rfl rfl ((q_extract rfl rfl rfl)) ?_)))
  refine sw_x rfl rfl rfl (e_alloc rfl) (fun b4 => ?_)
  refine sw_eff0 rfl rfl (e_store (i := 0) rfl rfl rfl rfl rfl rfl rfl rfl) (sr rfl rfl rfl ((q_assign rfl rfl)) (sr rfl rfl rfl ((q_assign rfl rfl)) (sw_nil (post_then (cw_seq (cw_region (sr rfl rfl rfl ((q_move rfl rfl)) (sr rfl rfl rfl ((q_move rfl rfl)) ?_))))))))
  refine sr rfl rfl rfl ((q_loadA rfl rfl (by exact .tail _ (.tail _ (.tail _ (.tail _ (.head _))))) rfl)) ?_
  refine sw_x rfl rfl rfl (e_call (CanCall.mk Tryz.call26) rfl (.cons rfl inferInstance (.cons rfl inferInstance (.cons rfl inferInstance (.cons rfl inferInstance (.nil))))) (fun w1 hw => best_yes y.su y.st y.U exT exW 5 w1 (ex_un y hw (fun A hA => .tail _ (.tail _ (.tail _ (.tail _ (.tail _ hA)))))).1 (ex_un y hw (fun A hA => .tail _ (.tail _ (.tail _ (.tail _ (.tail _ hA)))))).2 ex_wa (ex_begin _ _ _ _ _ _) (by omega) (ex_poss _ _ _ _ _ _) (show (3 + 1) ^ 2 ≤ 500000000 by decide))) (fun z => ?_)
  refine sw_imp fun hz => ?_
  obtain ⟨so2, ⟨outs, il⟩⟩ := z
  obtain ⟨h1, h2, h3⟩ := hz
  dsimp only at h1 h2 h3 ⊢
  obtain ⟨q1, ⟨u2, c2, l2⟩, rfl, hq⟩ := ex_bests _ _ _ _ _ _ h1 h2
  obtain rfl : c2 = 20 := hq
  clear h1 h2 h3
  refine sw_le (C' := Cl w [] [ownL 30 so2.v [q1, ⟨u2, 20, l2⟩], blk b4 [qs.v, .int .i64 0] 30, ownL 28 so.v (rowsTo sc 3 2 2), ownL 3 sc.v [(0 : Int), 0, 20, 0, 0, 0], ownL 3 qs.v [(0 : Int), 1]]) (fun w h => Cl.sel (by exact .take 0 rfl (.take 2 rfl (.take 2 rfl (.take 2 rfl (.take 2 rfl (.nil _)))))) w h) ?_
  refine sr rfl rfl rfl ((q_move rfl rfl)) (sr rfl rfl rfl ((q_extract rfl rfl rfl)) (sr rfl rfl rfl ((q_extract rfl rfl rfl)) (sr rfl rfl rfl ((q_assign rfl rfl)) (sr rfl rfl rfl ((q_assign rfl rfl)) (sw_nil (post_then (cw_seq (cw_region ?_))))))))
  refine sw_x rfl rfl rfl (e_build1 (α := Int) rfl rfl rfl rfl) (fun s41 => ?_)
  refine sw_x rfl rfl rfl (e_build1 (α := Int) rfl rfl rfl rfl) (fun s42 => ?_)
  refine sw_x rfl rfl rfl (e_build1 (α := Int) rfl rfl rfl rfl) (fun s43 => ?_)
  refine sw_x rfl rfl rfl (e_buildL (α := SlV) (l := [s41, s42, s43]) rfl (.cons rfl inferInstance (.cons rfl inferInstance (.cons rfl inferInstance (.nil)))) rfl rfl rfl rfl) (fun s44 => ?_)
  refine sw_x rfl rfl rfl (e_build1 (α := Int) rfl rfl rfl rfl) (fun s45 => ?_)
  refine sw_x rfl rfl rfl (e_build1 (α := Int) rfl rfl rfl rfl) (fun s46 => ?_)
  refine sw_x rfl rfl rfl (e_buildL (α := SlV) (l := [s45, s46]) rfl (.cons rfl inferInstance (.cons rfl inferInstance (.nil))) rfl rfl rfl rfl) (fun s47 => ?_)
  refine sw_x rfl rfl rfl (e_call (CanCall.mk Tryz.call30) rfl (.cons rfl inferInstance (.cons rfl inferInstance (.cons rfl inferInstance (.nil)))) (fun w1 hw => cut_yes s44 s47 [s41, s42, s43] [s45, s46] exP w1 (mt_own hw (e := 28) (by exact .tail _ (.tail _ (.tail _ (.head _)))) rfl (fun i hi => by match i, hi with | 0, _ => exact ⟨3, (by exact .tail _ (.tail _ (.tail _ (.tail _ (.tail _ (.tail _ (.head _)))))))⟩ | 1, _ => exact ⟨3, (by exact .tail _ (.tail _ (.tail _ (.tail _ (.tail _ (.head _))))))⟩ | 2, _ => exact ⟨3, (by exact .tail _ (.tail _ (.tail _ (.tail _ (.head _)))))⟩)) (mt_own hw (e := 28) (by exact .head _) rfl (fun i hi => by match i, hi with | 0, _ => exact ⟨3, (by exact .tail _ (.tail _ (.head _)))⟩ | 1, _ => exact ⟨3, (by exact .tail _ (.head _))⟩)) exP_E exP_ok (by decide) (by decide))) (fun z => ?_)
  refine sw_imp fun hz => ?_
  obtain ⟨sk, lk⟩ := z
  dsimp only at hz ⊢
  rw [exP_pth] at hz
  subst hz
  rw [exP_D]
  refine sw_le (C' := Cl w [] [ownL 3 sk.v [(2 : Int), 1], ownL 30 so2.v [q1, ⟨u2, 20, l2⟩], blk b4 [qs.v, .int .i64 0] 30, ownL 28 so.v (rowsTo sc 3 2 2), ownL 3 sc.v [(0 : Int), 0, 20, 0, 0, 0], ownL 3 qs.v [(0 : Int), 1]]) (fun w h => Cl.sel (by exact .take 0 rfl (.take 7 rfl (.take 7 rfl (.take 7 rfl (.take 7 rfl (.take 7 rfl (.nil _))))))) w h) ?_
  refine sr rfl rfl rfl ((q_move rfl rfl)) (sr rfl rfl rfl ((q_extract rfl rfl rfl)) (sr rfl rfl rfl ((q_extract rfl rfl rfl)) (sr rfl rfl rfl ((q_extract rfl rfl rfl)) (sr rfl rfl rfl ((q_assign rfl rfl)) (sr rfl rfl rfl ((q_assign rfl rfl)) (sr rfl rfl rfl ((q_assign rfl rfl)) (sw_nil (post_then (cw_seq (cw_region ?_))))))))))
  refine sw_x rfl rfl rfl (e_buildL (α := Int) (l := [0, 1, 2]) rfl (.cons rfl inferInstance (.cons rfl inferInstance (.cons rfl inferInstance (.nil)))) rfl rfl rfl rfl) (fun s52 => ?_)
  refine sw_x rfl rfl rfl (e_buildL (α := Int) (l := [0, 3]) rfl (.cons rfl inferInstance (.cons rfl inferInstance (.nil))) rfl rfl rfl rfl) (fun s53 => ?_)
  refine sw_x rfl rfl rfl (e_buildL (α := Int) (l := [1, 2]) rfl (.cons rfl inferInstance (.cons rfl inferInstance (.nil))) rfl rfl rfl rfl) (fun s54 => ?_)
  refine sw_x rfl rfl rfl (e_build1 (α := Int) rfl rfl rfl rfl) (fun s55 => ?_)
  refine sw_x rfl rfl rfl (e_buildL (α := SlV) (l := [s52, s53, s54, s55]) rfl (.cons rfl inferInstance (.cons rfl inferInstance (.cons rfl inferInstance (.cons rfl inferInstance (.nil))))) rfl rfl rfl rfl) (fun s56 => ?_)
  refine sr rfl rfl rfl ((q_assign rfl rfl)) (sw_nil (post_then (cw_seq (cw_region (sr rfl rfl rfl ((q_move rfl rfl)) ?_)))))
  have hsets : ∀ {w1 : World} {H : List Asn}, Cl w [] H w1 → ownL 28 s56.v [s52, s53, s54, s55] ∈ H → ownL 3 s52.v [(0 : Int), 1, 2] ∈ H → ownL 3 s53.v [(0 : Int), 3] ∈ H → ownL 3 s54.v [(1 : Int), 2] ∈ H → ownL 3 s55.v [(3 : Int)] ∈ H → Stb w1 [] (fun w' => Mt w' s56.v [s52, s53, s54, s55] exS) := fun hw m0 m1 m2 m3 m4 => mt_own hw (e := 28) m0 rfl (fun i hi => by
    have hi' : i < 4 := hi
    match i, hi' with
    | 0, _ => exact ⟨3, m1⟩
    | 1, _ => exact ⟨3, m2⟩
    | 2, _ => exact ⟨3, m3⟩
    | 3, _ => exact ⟨3, m4⟩)
  refine sw_x rfl rfl rfl (e_call (CanCall.mk Tryz.call42) rfl (.cons rfl inferInstance (.cons rfl inferInstance (.nil))) (fun w1 hw => greedy_yes 4 (by omega) s56 [s52, s53, s54, s55] exS (by decide) w1 (hsets hw (by exact .head _) (by exact .tail _ (.tail _ (.tail _ (.tail _ (.head _))))) (by exact .tail _ (.tail _ (.tail _ (.head _)))) (by exact .tail _ (.tail _ (.head _))) (by exact .tail _ (.head _))) exS_cov exS_poss)) (fun z => ?_)
  refine sw_imp fun hz => ?_
  obtain ⟨sa, ⟨la, ka⟩⟩ := z
  dsimp only at hz ⊢
  obtain rfl := exS_k hz.ok hz.full
  obtain rfl : la = [0, 1] := srt_two (by rw [← exS_out]; exact hz.perm) hz.srt
  clear hz
  refine sr rfl rfl rfl ((q_move rfl rfl)) (sr rfl rfl rfl ((q_extract rfl rfl rfl)) (sr rfl rfl rfl ((q_extract rfl rfl rfl)) (sr rfl rfl rfl ((q_assign rfl rfl)) (sr rfl rfl rfl ((q_assign rfl rfl)) (sw_nil (post_then (cw_seq (cw_region (sr rfl rfl rfl ((q_move rfl rfl)) ?_)))))))))
  refine sw_x rfl rfl rfl (e_call (CanCall.mk Tryz.call34) rfl (.cons rfl inferInstance (.cons rfl inferInstance (.nil))) (fun w1 hw => price_yes 4 (by omega) s56 [s52, s53, s54, s55] exS w1 (hsets hw (by exact .tail _ (.head _)) (by exact .tail _ (.tail _ (.tail _ (.tail _ (.tail _ (.head _)))))) (by exact .tail _ (.tail _ (.tail _ (.tail _ (.head _))))) (by exact .tail _ (.tail _ (.tail _ (.head _)))) (by exact .tail _ (.tail _ (.head _)))) exS_cov (by decide) (by rw [exS_wid]; decide) exS_poss)) (fun z => ?_)
  refine sw_imp fun hz => ?_
  obtain ⟨sp, ⟨lp, ⟨kp, lq⟩⟩⟩ := z
  dsimp only at hz ⊢
  obtain ⟨hz1, hz2⟩ := hz
  obtain rfl := exS_k hz2.ok hz2.full
  rw [exS_sh] at hz1
  obtain rfl : lp = [9240, 9240, 9240, 27720] := hz1
  clear hz2
  rw [exS_wid, exS_scale]
  refine sr rfl rfl rfl ((q_move rfl rfl)) (sr rfl rfl rfl ((q_extract rfl rfl rfl)) (sr rfl rfl rfl ((q_extract rfl rfl rfl)) (sr rfl rfl rfl ((q_extract rfl rfl rfl)) (sr rfl rfl rfl ((q_assign rfl rfl)) (sr rfl rfl rfl ((q_assign rfl rfl)) (sr rfl rfl rfl ((q_assign rfl rfl)) (sw_nil (post_then (cw_seq (cw_region (sr rfl rfl rfl ((q_move rfl rfl)) (sr rfl rfl rfl ((q_move rfl rfl)) (sr rfl rfl rfl ((q_move rfl rfl)) ?_)))))))))))))
  refine sw_step rfl rfl rfl (q_call (v := .tuple #[.int .i64 2, .bool true]) (CanCall.mk Tryz.call39) rfl (.cons rfl inferInstance (.cons rfl inferInstance (.cons rfl inferInstance (.cons rfl inferInstance (.nil))))) (fun _ w1 hw => callq hw (by have := proves_yes 4 (by omega) s56 [s52, s53, s54, s55] exS sp [9240, 9240, 9240, 27720] 50820 w1 (hsets hw (by exact .tail _ (.tail _ (.head _))) (by exact .tail _ (.tail _ (.tail _ (.tail _ (.tail _ (.tail _ (.head _))))))) (by exact .tail _ (.tail _ (.tail _ (.tail _ (.tail _ (.head _)))))) (by exact .tail _ (.tail _ (.tail _ (.tail _ (.head _))))) (by exact .tail _ (.tail _ (.tail _ (.head _))))) (stb_own (e := 3) hw (by exact .head _)) exS_cov; rw [exS_prov.1, exS_prov.2] at this; exact this))) ?_
  refine sr rfl rfl rfl ((q_move rfl rfl)) (sr rfl rfl rfl ((q_extract rfl rfl rfl)) (sr rfl rfl rfl ((q_extract rfl rfl rfl)) (sr rfl rfl rfl ((q_assign rfl rfl)) (sr rfl rfl rfl ((q_assign rfl rfl)) (sw_nil (post_then (cw_seq (cw_seq (cw_region (sr rfl rfl rfl ((q_move rfl rfl)) (sr rfl rfl rfl ((q_neq rfl rfl rfl)) (sr rfl rfl rfl ((q_move rfl rfl)) (sr rfl rfl rfl ((q_move rfl rfl)) (sr rfl rfl rfl ((q_neq rfl rfl rfl)) (sr rfl rfl rfl ((q_or2 rfl rfl rfl)) (sr rfl rfl rfl ((q_move rfl rfl)) (sr rfl rfl rfl ((q_move rfl rfl)) (sr rfl rfl rfl ((q_neq rfl rfl rfl)) (sr rfl rfl rfl ((q_or2 rfl rfl rfl)) (sr rfl rfl rfl ((q_move rfl rfl)) (sr rfl rfl rfl ((q_move rfl rfl)) (sr rfl rfl rfl ((q_neq rfl rfl rfl)) (sr rfl rfl rfl ((q_or2 rfl rfl rfl)) (sr rfl rfl rfl ((q_move rfl rfl)) (sr rfl rfl rfl ((q_move rfl rfl)) (sr rfl rfl rfl ((q_neq rfl rfl rfl)) (sr rfl rfl rfl ((q_or2 rfl rfl rfl)) (sr rfl rfl rfl ((q_move rfl rfl)) (sr rfl rfl rfl ((q_move rfl rfl)) (sr rfl rfl rfl ((q_not rfl rfl)) (sr rfl rfl rfl ((q_or2 rfl rfl rfl)) (sr rfl rfl rfl ((q_move rfl rfl)) (sr rfl rfl rfl ((q_move rfl rfl)) ?_)))))))))))))))))))))))))))))))))
  refine sr rfl rfl rfl ((q_len rfl (.cons rfl inferInstance (.nil)) (by exact fun w hw => rd_own hw (by exact .tail _ (.tail _ (.tail _ (.tail _ (.tail _ (.tail _ (.tail _ (.tail _ (.head _)))))))))))) ?_
  refine sr rfl rfl rfl ((q_neq rfl rfl rfl)) (sr rfl rfl rfl ((q_or2 rfl rfl rfl)) (sw_nil (post_then ?_)))
  refine cw_cond rfl (fun h => ?_) (fun h => ?_)
  · skip
    simp at h
  · skip
    clear h
    have hn2 : (nth [q1, (⟨u2, 20, l2⟩ : Sq)] 1).cost = 20 := rfl
    refine cw_skip (post_then (cw_seq (cw_region (sr rfl rfl rfl ((q_fieldAddr rfl rfl)) ?_))))
    refine sr rfl rfl rfl ((q_loadC rfl rfl (by exact .tail _ (.tail _ (.tail _ (.tail _ (.tail _ (.tail _ (.tail _ (.tail _ (.tail _ (.head _)))))))))) rfl)) ?_
    refine sw_x rfl rfl rfl (e_buildL (α := Int) (l := [0, 1]) rfl (.cons rfl inferInstance (.cons rfl inferInstance (.nil))) rfl rfl rfl rfl) (fun s104 => ?_)
    refine sw_step rfl rfl rfl (q_call (v := .bool true) (CanCall.mk Tryz.call23) rfl (.cons rfl inferInstance (.cons rfl inferInstance (.nil))) (fun _ w1 hw => callq hw (same_true _ _ [0, 1] [0, 1] rfl w1 (stb_own (e := 3) hw (by exact .tail _ (.tail _ (.tail _ (.tail _ (.tail _ (.tail _ (.tail _ (.tail _ (.tail _ (.tail _ (.tail _ (.tail _ (.tail _ (.head _))))))))))))))) (stb_own (e := 3) hw (by exact .head _))))) ?_
    refine sr rfl rfl rfl ((q_move rfl rfl)) (sr rfl rfl rfl ((q_fieldAddr rfl rfl)) ?_)
    refine sr rfl rfl rfl ((q_loadC rfl rfl (by exact .tail _ (.tail _ (.tail _ (.tail _ (.tail _ (.tail _ (.tail _ (.tail _ (.tail _ (.tail _ (.head _))))))))))) rfl)) ?_
    refine sr rfl rfl rfl ((q_eql rfl rfl rfl)) (sr rfl rfl rfl ((q_and2 rfl rfl rfl)) (sr rfl rfl rfl ((q_move rfl rfl)) (sr rfl rfl rfl ((q_move rfl rfl)) ?_)))
    refine sw_xc rfl (by first | (simp [AllT]; done) | simp [AllT, *]) rfl rfl (e_buildLc (α := Int) (l := [0, 0, 20]) rfl (.cons rfl inferInstance (.cons rfl inferInstance (.cons rfl inferInstance (.nil)))) rfl rfl rfl rfl) (fun s113 => ?_)
    refine sw_xc rfl (by first | (simp [AllT]; done) | simp [AllT, *]) rfl rfl (e_buildLc (α := Int) (l := [0, 0, 0]) rfl (.cons rfl inferInstance (.cons rfl inferInstance (.cons rfl inferInstance (.nil)))) rfl rfl rfl rfl) (fun s114 => ?_)
    refine sw_xc rfl (by first | (simp [AllT]; done) | simp [AllT, *]) rfl rfl (e_buildLc (α := SlV) (l := [s113, s114]) rfl (.cons rfl inferInstance (.cons rfl inferInstance (.nil))) rfl rfl rfl rfl) (fun s115 => ?_)
    refine sw_step rfl rfl rfl (q_call (v := .bool true) (CanCall.mk Tryz.call24) rfl (.cons rfl inferInstance (.cons rfl inferInstance (.nil))) (fun _ w1 hw => callq hw (sameL_true _ _ (rowsTo sc 3 2 2) [s113, s114] [[0, 0, 20], [0, 0, 0]] [[0, 0, 20], [0, 0, 0]] rfl w1 (ex_rows (stb_own (e := 28) hw (by exact .tail _ (.tail _ (.tail _ (.tail _ (.tail _ (.tail _ (.tail _ (.tail _ (.tail _ (.tail _ (.tail _ (.tail _ (.tail _ (.tail _ (.head _)))))))))))))))) (stb_own (e := 3) hw (by exact .tail _ (.tail _ (.tail _ (.tail _ (.tail _ (.tail _ (.tail _ (.tail _ (.tail _ (.tail _ (.tail _ (.tail _ (.tail _ (.tail _ (.tail _ (.head _)))))))))))))))))) (mt_own hw (e := 28) (by exact .head _) rfl (fun i hi => by match i, hi with | 0, _ => exact ⟨3, (by exact .tail _ (.tail _ (.head _)))⟩ | 1, _ => exact ⟨3, (by exact .tail _ (.head _))⟩))))) ?_
    refine sr rfl rfl rfl ((q_and2 rfl rfl rfl)) (sr rfl rfl rfl ((q_move rfl rfl)) (sr rfl rfl rfl ((q_move rfl rfl)) ?_))
    refine sr rfl rfl rfl ((q_indexN rfl rfl rfl (by exact fun w hw => rd_own hw (by exact .tail _ (.tail _ (.tail _ (.tail _ (.tail _ (.tail _ (.tail _ (.tail _ (.tail _ (.tail _ (.tail _ (.tail _ (.head _)))))))))))))) (by intro hc; (simp only [List.length_set, List.length_append, List.length_cons, List.length_nil, List.length_replicate, List.length_take, List.length_drop, List.length_map]; omega)))) ?_
    refine sr rfl rfl rfl ((q_fieldEl rfl rfl (by exact fun w hw => rd_own hw (by exact .tail _ (.tail _ (.tail _ (.tail _ (.tail _ (.tail _ (.tail _ (.tail _ (.tail _ (.tail _ (.tail _ (.tail _ (.head _)))))))))))))) (by intro hc; (simp only [List.length_set, List.length_append, List.length_cons, List.length_nil, List.length_replicate, List.length_take, List.length_drop, List.length_map]; omega)))) ?_
    refine sr rfl rfl rfl ((q_loadF rfl rfl rfl (by exact fun w hw => rd_own hw (by exact .tail _ (.tail _ (.tail _ (.tail _ (.tail _ (.tail _ (.tail _ (.tail _ (.tail _ (.tail _ (.tail _ (.tail _ (.head _)))))))))))))) (by intro hc; (simp only [List.length_set, List.length_append, List.length_cons, List.length_nil, List.length_replicate, List.length_take, List.length_drop, List.length_map]; omega)) rfl)) ?_
    refine sr rfl rfl rfl ((q_eql rfl rfl rfl)) (sr rfl rfl rfl ((q_and2 rfl rfl rfl)) (sr rfl rfl rfl ((q_move rfl rfl)) (sr rfl rfl rfl ((q_move rfl rfl)) ?_)))
    refine sw_xc rfl (by first | (simp [AllT]; done) | simp [AllT, *]) rfl rfl (e_buildLc (α := Int) (l := [2, 1]) rfl (.cons rfl inferInstance (.cons rfl inferInstance (.nil))) rfl rfl rfl rfl) (fun s127 => ?_)
    refine sw_step rfl rfl rfl (q_call (v := .bool true) (CanCall.mk Tryz.call23) rfl (.cons rfl inferInstance (.cons rfl inferInstance (.nil))) (fun _ w1 hw => callq hw (same_true _ _ [2, 1] [2, 1] rfl w1 (stb_own (e := 3) hw (by exact .tail _ (.tail _ (.tail _ (.tail _ (.tail _ (.tail _ (.tail _ (.tail _ (.tail _ (.tail _ (.tail _ (.tail _ (.head _)))))))))))))) (stb_own (e := 3) hw (by exact .head _))))) ?_
    refine sr rfl rfl rfl ((q_and2 rfl rfl rfl)) (sr rfl rfl rfl ((q_move rfl rfl)) (sr rfl rfl rfl ((q_move rfl rfl)) (sr rfl rfl rfl ((q_eql rfl rfl rfl)) (sr rfl rfl rfl ((q_and2 rfl rfl rfl)) (sr rfl rfl rfl ((q_move rfl rfl)) (sr rfl rfl rfl ((q_move rfl rfl)) ?_))))))
    refine sw_xc rfl (by first | (simp [AllT]; done) | simp [AllT, *]) rfl rfl (e_buildLc (α := Int) (l := [0, 1]) rfl (.cons rfl inferInstance (.cons rfl inferInstance (.nil))) rfl rfl rfl rfl) (fun s136 => ?_)
    refine sw_step rfl rfl rfl (q_call (v := .bool true) (CanCall.mk Tryz.call23) rfl (.cons rfl inferInstance (.cons rfl inferInstance (.nil))) (fun _ w1 hw => callq hw (same_true _ _ [0, 1] [0, 1] rfl w1 (stb_own (e := 3) hw (by exact .tail _ (.tail _ (.tail _ (.tail _ (.tail _ (.tail _ (.tail _ (.head _))))))))) (stb_own (e := 3) hw (by exact .head _))))) ?_
    refine sr rfl rfl rfl ((q_and2 rfl rfl rfl)) (sr rfl rfl rfl ((q_move rfl rfl)) (sr rfl rfl rfl ((q_move rfl rfl)) (sr rfl rfl rfl ((q_eql rfl rfl rfl)) (sr rfl rfl rfl ((q_and2 rfl rfl rfl)) (sr rfl rfl rfl ((q_move rfl rfl)) (sr rfl rfl rfl ((q_move rfl rfl)) (sr rfl rfl rfl ((q_eql rfl rfl rfl)) (sr rfl rfl rfl ((q_and2 rfl rfl rfl)) (sr rfl rfl rfl ((q_assign rfl rfl)) (sw_nil (post_then (cw_ret (post_ret1 rfl (resOk_tmp rfl) ?_)))))))))))))
    exact fun w' hw => ⟨rfl, (fun w h => Cl.sel (by exact .nil _) w h) _ hw⟩
end Go.Proofs.YtomjbfeafodfbaaGreat

set_option autoImplicit false
set_option maxRecDepth 100000
namespace Go.Proofs.YtomjbfeafodfbaaGreat
open Go.Sx
open Enc (enc val)
def shortB (s : ByteArray) : Bool := decide ((s.size : Int) ≤ 12)
theorem short_spec (s : ByteArray) (w : World) : Calls Tryz.prog 62 #[.string s] w fun e w' => e = .returned (.bool (shortB s)) ∧ Cl w [] [] w' := by
  refine calls_cw (vs := [_]) Tryz.func62 rfl Tryz.ntmps62 rfl (Cl.start0 w) (cw_seq (cw_region (sr rfl rfl rfl ((q_assign rfl rfl)) (sw_nil (post_then (cw_seq (cw_region (sr rfl rfl rfl ((q_move rfl rfl)) (sr rfl rfl rfl ((q_lenS rfl (.cons rfl inferInstance (.nil)) Tryz.underlying9)) (sr rfl rfl rfl ((q_leq rfl rfl rfl)) (sr rfl rfl rfl ((q_assign rfl rfl)) (sw_nil (post_then (cw_ret (post_ret1 rfl (resOk_tmp rfl) ?_)))))))))))))))
  exact fun w' hw => ⟨rfl, hw⟩
def smallU (u : Un) : Bool := shortB u.phone && shortB u.before && shortB u.after && decide (u.bl.length ≤ 50) && decide (u.el.length ≤ 50)
def smallT (t : Wan) : Bool := shortB t.phone && shortB t.before && shortB t.after
def sizesB (p : List Un) (tgt : List Wan) (mu mt : Int) : Bool := decide (((p.length : Int) ≤ mu ∨ 2000 < p.length) ∧ p.length ≤ 2100 ∧ ((tgt.length : Int) ≤ mt ∨ 500 < tgt.length) ∧ tgt.length ≤ 600)
def smallB (p : List Un) (tgt : List Wan) (mu mt : Int) : Bool := sizesB p tgt mu mt && p.all smallU && tgt.all smallT
structure VoIn (w : World) (sp : SlV) (p : List Un) : Prop where
  l : RdL sp.v p w
  u : ∀ u ∈ p, UnIn u w
theorem VoIn.stb {w : World} {sp : SlV} {p : List Un} (h : VoIn w sp p) : Stb w [] (fun w' => VoIn w' sp p) := ⟨fun w' k => ⟨(rd_stb h.l).stb w' k, fun u hu => ⟨(h.u u hu).s1, (h.u u hu).s2, (h.u u hu).s3, (rd_stb (h.u u hu).b).stb w' k, (rd_stb (h.u u hu).e).stb w' k⟩⟩⟩
theorem small_vo {w : World} {sp : SlV} {p : List Un} {tgt : List Wan} {mu mt : Int} (h : VoIn w sp p) (hs : smallB p tgt mu mt = true) : VoRd w sp p := by
  simp only [smallB, Bool.and_eq_true] at hs
  refine ⟨rd_stb h.l, fun u hu => ?_⟩
  have h1 := List.all_eq_true.1 hs.1.2 u hu
  simp only [smallU, shortB, Bool.and_eq_true, decide_eq_true_eq] at h1
  have h2 := h.u u hu
  exact ⟨by omega, by omega, by omega, rd_stb h2.b, rd_stb h2.e⟩
theorem small_ta {p : List Un} {tgt : List Wan} {mu mt : Int} (hs : smallB p tgt mu mt = true) : ∀ t ∈ tgt, WaRd t := by
  simp only [smallB, Bool.and_eq_true] at hs
  intro t ht
  have h1 := List.all_eq_true.1 hs.2 t ht
  simp only [smallT, shortB, Bool.and_eq_true, decide_eq_true_eq] at h1
  exact ⟨by omega, by omega, by omega⟩
theorem small_n {p : List Un} {tgt : List Wan} {mu mt : Int} (hs : smallB p tgt mu mt = true) : ((p.length : Int) ≤ mu ∨ 2000 < p.length) ∧ ((tgt.length : Int) ≤ mt ∨ 500 < tgt.length) ∧ p.length ≤ 2100 ∧ tgt.length ≤ 600 := by
  simp only [smallB, sizesB, Bool.and_eq_true, decide_eq_true_eq] at hs
  exact ⟨hs.1.1.1, hs.1.1.2.2.1, hs.1.1.2.1, hs.1.1.2.2.2⟩
theorem small_spec (sp tp : SlV) (p : List Un) (tgt : List Wan) (mu mt : Int) (w : World) (hvo : VoIn w sp p) (htp : Stb w [] (RdL tp.v tgt)) : Calls Tryz.prog 17 #[sp.v, tp.v, .int .i64 mu, .int .i64 mt] w fun e w' => e = .returned (.bool (smallB p tgt mu mt)) ∧ Cl w [] [] w' := by
  have h1 : Stb w [] (RdL sp.v p) := rd_stb hvo.l
  have hL := rd_len hvo.l
  have hL2 := rd_len htp.here
  refine calls_cw (vs := [_, _, _, _]) Tryz.func17 rfl Tryz.ntmps17 rfl (Cl.start0 w) (cw_seq (cw_region (sr rfl rfl rfl ((q_assign rfl rfl)) (sw_nil (post_then (cw_seq (cw_seq (cw_region (sr rfl rfl rfl ((q_move rfl rfl)) ?_)))))))))
  refine sr rfl rfl rfl ((q_len rfl (.cons rfl inferInstance (.nil)) (by exact fun w hw => Stb.cl (by assumption) hw))) ?_
  refine sr rfl rfl rfl ((q_move rfl rfl)) (sr rfl rfl rfl ((q_gtr rfl rfl rfl)) (sr rfl rfl rfl ((q_move rfl rfl)) (sr rfl rfl rfl ((q_move rfl rfl)) ?_)))
  refine sr rfl rfl rfl ((q_len rfl (.cons rfl inferInstance (.nil)) (by exact fun w hw => Stb.cl (by assumption) hw))) ?_
  refine sr rfl rfl rfl ((q_leq rfl rfl rfl)) (sr rfl rfl rfl ((q_and2 rfl rfl rfl)) (sr rfl rfl rfl ((q_move rfl rfl)) (sr rfl rfl rfl ((q_move rfl rfl)) ?_)))
  refine sr rfl rfl rfl ((q_len rfl (.cons rfl inferInstance (.nil)) (by exact fun w hw => Stb.cl (by assumption) hw))) ?_
  refine sr rfl rfl rfl ((q_gtr rfl rfl rfl)) (sr rfl rfl rfl ((q_or2 rfl rfl rfl)) (sr rfl rfl rfl ((q_move rfl rfl)) (sr rfl rfl rfl ((q_move rfl rfl)) ?_)))
  refine sr rfl rfl rfl ((q_len rfl (.cons rfl inferInstance (.nil)) (by exact fun w hw => Stb.cl (by assumption) hw))) ?_
  refine sr rfl rfl rfl ((q_move rfl rfl)) (sr rfl rfl rfl ((q_gtr rfl rfl rfl)) (sr rfl rfl rfl ((q_move rfl rfl)) (sr rfl rfl rfl ((q_move rfl rfl)) ?_)))
  refine sr rfl rfl rfl ((q_len rfl (.cons rfl inferInstance (.nil)) (by exact fun w hw => Stb.cl (by assumption) hw))) ?_
  refine sr rfl rfl rfl ((q_leq rfl rfl rfl)) (sr rfl rfl rfl ((q_and2 rfl rfl rfl)) (sr rfl rfl rfl ((q_or2 rfl rfl rfl)) (sr rfl rfl rfl ((q_move rfl rfl)) (sr rfl rfl rfl ((q_move rfl rfl)) ?_))))
  refine sr rfl rfl rfl ((q_len rfl (.cons rfl inferInstance (.nil)) (by exact fun w hw => Stb.cl (by assumption) hw))) ?_
  refine sr rfl rfl rfl ((q_gtr rfl rfl rfl)) (sr rfl rfl rfl ((q_or2 rfl rfl rfl)) (sw_nil (post_then ?_)))
  refine cw_cond rfl (fun h => ?_) (fun h => ?_)
  · skip
    have h2 : sizesB p tgt mu mt = false := by
      simp only [sizesB, decide_eq_false_iff_not]
      simp only [Bool.or_eq_true, Bool.and_eq_true, decide_eq_true_eq] at h
      omega
    refine cw_seq (cw_region (sr rfl rfl rfl ((q_assign rfl rfl)) (sw_nil (post_then (cw_ret (post_then_r (post_ret1 rfl (resOk_tmp rfl) ?_)))))))
    exact fun w' hw => ⟨by rw [smallB, h2]; rfl, hw⟩
  · skip
    have h2 : sizesB p tgt mu mt = true := by
      simp only [sizesB, decide_eq_true_eq]
      simp only [Bool.or_eq_false_iff, Bool.and_eq_false_iff, decide_eq_false_iff_not] at h
      omega
    have hno : ∀ {b : Bool}, b = false → (sizesB p tgt mu mt && p.all smallU && b) = false := fun h => by rw [h, Bool.and_false]
    refine cw_skip (post_then (cw_seq (cw_seq (cw_region (sr rfl rfl rfl ((q_assign rfl rfl)) (sw_nil (post_then (cw_block ?_))))))))
    refine cw_loop (S := Nat) (fun k => [(0, [], sp.v), (1, [], tp.v), (9, [], .int .i64 k)]) (fun _ => Cl w [] []) (fun k => k ≤ p.length ∧ ∀ j, j < k → smallU (nth p j) = true) (fun k => p.length - k) 0 ⟨Nat.zero_le _, fun j hj => by omega⟩ (by exact .cons rfl (.cons rfl (.cons rfl .nil))) (fun _ h => h) ?_
    rintro k ⟨hk, he⟩
    refine cw_seq (cw_seq (cw_region (sr rfl rfl rfl ((q_move rfl rfl)) (sr rfl rfl rfl ((q_move rfl rfl)) ?_))))
    refine sr rfl rfl rfl ((q_len rfl (.cons rfl inferInstance (.nil)) (by exact fun w hw => Stb.cl (by assumption) hw))) ?_
    refine sr rfl rfl rfl ((q_lss rfl rfl rfl)) (sw_nil (post_then ?_))
    refine cw_cond rfl (fun h3 => ?_) (fun h3 => ?_)
    · skip
      have hk' : k < p.length := by simp only [decide_eq_true_eq] at h3; omega
      have hin := hvo.u _ (nth_mem hk')
      have l1 : (nth p k).bs.len = (nth p k).bl.length := (rd_lens hin.b).1
      have l2 : (nth p k).es.len = (nth p k).el.length := (rd_lens hin.e).1
      refine cw_skip (post_then (cw_seq (cw_block (cw_seq (cw_region (sr rfl rfl rfl ((q_move rfl rfl)) (sr rfl rfl rfl ((q_move rfl rfl)) ?_)))))))
      refine sr rfl rfl rfl ((q_indexN rfl rfl rfl (by exact fun w hw => Stb.cl (by assumption) hw) (by intro hc; omega))) ?_
      refine sr rfl rfl rfl ((q_loadEl rfl rfl rfl (by exact fun w hw => Stb.cl (by assumption) hw) (by intro hc; omega))) ?_
      refine sw_x rfl rfl rfl (e_alloc rfl) (fun b10 => ?_)
      refine sw_eff0 rfl rfl (e_store (i := 0) rfl rfl rfl rfl rfl rfl rfl rfl) (sw_nil (post_then (cw_seq (cw_region (sr rfl rfl rfl ((q_fieldAddr rfl rfl)) ?_)))))
      refine sr rfl rfl rfl ((q_loadC rfl rfl (by exact .head _) rfl)) ?_
      refine sw_step rfl rfl rfl (q_call (CanCall.mk Tryz.call62) rfl (.cons rfl inferInstance (.nil)) (fun _ w hw => callq hw (short_spec _ w))) (sr rfl rfl rfl ((q_not rfl rfl)) (sr rfl rfl rfl ((q_move rfl rfl)) (sr rfl rfl rfl ((q_fieldAddr rfl rfl)) ?_)))
      refine sr rfl rfl rfl ((q_loadC rfl rfl (by exact .head _) rfl)) ?_
      refine sw_step rfl rfl rfl (q_call (CanCall.mk Tryz.call62) rfl (.cons rfl inferInstance (.nil)) (fun _ w hw => callq hw (short_spec _ w))) (sr rfl rfl rfl ((q_not rfl rfl)) (sr rfl rfl rfl ((q_or2 rfl rfl rfl)) (sr rfl rfl rfl ((q_move rfl rfl)) (sr rfl rfl rfl ((q_fieldAddr rfl rfl)) ?_))))
      refine sr rfl rfl rfl ((q_loadC rfl rfl (by exact .head _) rfl)) ?_
      refine sw_step rfl rfl rfl (q_call (CanCall.mk Tryz.call62) rfl (.cons rfl inferInstance (.nil)) (fun _ w hw => callq hw (short_spec _ w))) (sr rfl rfl rfl ((q_not rfl rfl)) (sr rfl rfl rfl ((q_or2 rfl rfl rfl)) (sr rfl rfl rfl ((q_move rfl rfl)) (sr rfl rfl rfl ((q_fieldAddr rfl rfl)) ?_))))
      refine sr rfl rfl rfl ((q_loadC rfl rfl (by exact .head _) rfl)) ?_
      refine sr rfl rfl rfl ((q_lenV rfl (.cons rfl inferInstance (.nil)))) (sr rfl rfl rfl ((q_gtr rfl rfl rfl)) (sr rfl rfl rfl ((q_or2 rfl rfl rfl)) (sr rfl rfl rfl ((q_move rfl rfl)) (sr rfl rfl rfl ((q_fieldAddr rfl rfl)) ?_))))
      refine sr rfl rfl rfl ((q_loadC rfl rfl (by exact .head _) rfl)) ?_
      refine sr rfl rfl rfl ((q_lenV rfl (.cons rfl inferInstance (.nil)))) (sr rfl rfl rfl ((q_gtr rfl rfl rfl)) (sr rfl rfl rfl ((q_or2 rfl rfl rfl)) (sw_nil (post_then ?_))))
      rw [l1, l2]
      refine cw_cond rfl (fun h4 => ?_) (fun h4 => ?_)
      · skip
        have h5 : smallU (nth p k) = false := by
          simp only [Bool.or_eq_true, Bool.not_eq_true', decide_eq_true_eq] at h4
          simp only [smallU, Bool.and_eq_false_iff, decide_eq_false_iff_not]
          rcases h4 with (((h4 | h4) | h4) | h4) | h4
          · exact .inl (.inl (.inl (.inl h4)))
          · exact .inl (.inl (.inl (.inr h4)))
          · exact .inl (.inl (.inr h4))
          · exact .inl (.inr (by omega))
          · exact .inr (by omega)
        have h6 : p.all smallU = false := List.all_eq_false.2 ⟨nth p k, nth_mem hk', by rw [h5]; decide⟩
        refine cw_seq (cw_region (sr rfl rfl rfl ((q_assign rfl rfl)) (sw_nil (post_then (cw_ret (post_blk_r (post_then_r (post_then_r (post_blk_r (post_then_r (post_ret1 rfl (resOk_tmp rfl) ?_)))))))))))
        exact fun w' hw => ⟨by rw [smallB, h6, Bool.and_false]; rfl, (fun w h => Cl.sel (by exact .nil _) w h) _ hw⟩
      · skip
        have h5 : smallU (nth p k) = true := by
          simp only [Bool.or_eq_false_iff, Bool.not_eq_false', decide_eq_false_iff_not] at h4
          obtain ⟨⟨⟨⟨a1, a2⟩, a3⟩, a4⟩, a5⟩ := h4
          simp only [smallU, a1, a2, a3, Bool.and_eq_true, decide_eq_true_eq, true_and]
          omega
        refine cw_skip (post_blk (post_then (cw_region (sr rfl rfl rfl ((q_move rfl rfl)) ?_))))
        refine sr rfl rfl rfl ((q_add rfl rfl rfl (by intro hc; omega))) ?_
        refine sr rfl rfl rfl ((q_assign rfl rfl)) (sw_nil ?_)
        refine post_next (k + 1) (by exact .cons rfl (.cons rfl (.cons rfl .nil))) (fun w h => Cl.sel (by exact .nil _) w h) ⟨by omega, fun j hj => ?_⟩ (by omega)
        by_cases e : j = k
        · subst e; exact h5
        · exact he j (by omega)
    · skip
      have hk' : k = p.length := by simp only [decide_eq_false_iff_not] at h3; omega
      subst hk'
      have h6 : p.all smallU = true := List.all_eq_true.2 fun u hu => by
        obtain ⟨j, hj, rfl⟩ := List.getElem_of_mem hu
        have := he j hj
        rwa [nth_get hj] at this
      refine cw_exit (post_then_x (post_then_x (post_blk_eq (post_then (cw_seq (cw_seq (cw_region (sr rfl rfl rfl ((q_assign rfl rfl)) (sw_nil (post_then (cw_block ?_)))))))))))
      refine cw_loop (S := Nat) (fun k => [(1, [], tp.v), (11, [], .int .i64 k)]) (fun _ => Cl w [] []) (fun k => k ≤ tgt.length ∧ ∀ j, j < k → smallT (nth tgt j) = true) (fun k => tgt.length - k) 0 ⟨Nat.zero_le _, fun j hj => by omega⟩ (by exact .cons rfl (.cons rfl .nil)) (fun _ h => h) ?_
      rintro k ⟨hk, he2⟩
      refine cw_seq (cw_seq (cw_region (sr rfl rfl rfl ((q_move rfl rfl)) (sr rfl rfl rfl ((q_move rfl rfl)) ?_))))
      refine sr rfl rfl rfl ((q_len rfl (.cons rfl inferInstance (.nil)) (by exact fun w hw => Stb.cl (by assumption) hw))) ?_
      refine sr rfl rfl rfl ((q_lss rfl rfl rfl)) (sw_nil (post_then ?_))
      refine cw_cond rfl (fun h4 => ?_) (fun h4 => ?_)
      · skip
        have hk' : k < tgt.length := by simp only [decide_eq_true_eq] at h4; omega
        refine cw_skip (post_then (cw_seq (cw_block (cw_seq (cw_region (sr rfl rfl rfl ((q_move rfl rfl)) (sr rfl rfl rfl ((q_move rfl rfl)) ?_)))))))
        refine sr rfl rfl rfl ((q_indexN rfl rfl rfl (by exact fun w hw => Stb.cl (by assumption) hw) (by intro hc; omega))) ?_
        refine sr rfl rfl rfl ((q_fieldEl rfl rfl (by exact fun w hw => Stb.cl (by assumption) hw) (by intro hc; omega))) ?_
        refine sr rfl rfl rfl ((q_loadF rfl rfl rfl (by exact fun w hw => Stb.cl (by assumption) hw) (by intro hc; omega) rfl)) ?_
        refine sw_step rfl rfl rfl (q_call (CanCall.mk Tryz.call62) rfl (.cons rfl inferInstance (.nil)) (fun _ w hw => callq hw (short_spec _ w))) (sr rfl rfl rfl ((q_not rfl rfl)) (sr rfl rfl rfl ((q_move rfl rfl)) (sr rfl rfl rfl ((q_move rfl rfl)) (sr rfl rfl rfl ((q_move rfl rfl)) ?_))))
        refine sr rfl rfl rfl ((q_indexN rfl rfl rfl (by exact fun w hw => Stb.cl (by assumption) hw) (by intro hc; omega))) ?_
        refine sr rfl rfl rfl ((q_fieldEl rfl rfl (by exact fun w hw => Stb.cl (by assumption) hw) (by intro hc; omega))) ?_
        refine sr rfl rfl rfl ((q_loadF rfl rfl rfl (by exact fun w hw => Stb.cl (by assumption) hw) (by intro hc; omega) rfl)) ?_
        refine sw_step rfl rfl rfl (q_call (CanCall.mk Tryz.call62) rfl (.cons rfl inferInstance (.nil)) (fun _ w hw => callq hw (short_spec _ w))) (sr rfl rfl rfl ((q_not rfl rfl)) (sr rfl rfl rfl ((q_or2 rfl rfl rfl)) (sr rfl rfl rfl ((q_move rfl rfl)) (sr rfl rfl rfl ((q_move rfl rfl)) (sr rfl rfl rfl ((q_move rfl rfl)) ?_)))))
        refine sr rfl rfl rfl ((q_indexN rfl rfl rfl (by exact fun w hw => Stb.cl (by assumption) hw) (by intro hc; omega))) ?_
        refine sr rfl rfl rfl ((q_fieldEl rfl rfl (by exact fun w hw => Stb.cl (by assumption) hw) (by intro hc; omega))) ?_
        refine sr rfl rfl rfl ((q_loadF rfl rfl rfl (by exact fun w hw => Stb.cl (by assumption) hw) (by intro hc; omega) rfl)) ?_
        refine sw_step rfl rfl rfl (q_call (CanCall.mk Tryz.call62) rfl (.cons rfl inferInstance (.nil)) (fun _ w hw => callq hw (short_spec _ w))) (sr rfl rfl rfl ((q_not rfl rfl)) (sr rfl rfl rfl ((q_or2 rfl rfl rfl)) (sw_nil (post_then ?_))))
        refine cw_cond rfl (fun h5 => ?_) (fun h5 => ?_)
        · skip
          have h7 : smallT (nth tgt k) = false := by
            simp only [Bool.or_eq_true, Bool.not_eq_true'] at h5
            simp only [smallT, Bool.and_eq_false_iff]
            exact h5
          have h8 : tgt.all smallT = false := List.all_eq_false.2 ⟨nth tgt k, nth_mem hk', by rw [h7]; decide⟩
          refine cw_seq (cw_region (sr rfl rfl rfl ((q_assign rfl rfl)) (sw_nil (post_then (cw_ret (post_blk_r (post_then_r (post_then_r (post_blk_r (post_then_r (post_ret1 rfl (resOk_tmp rfl) ?_)))))))))))
          exact fun w' hw => ⟨by rw [smallB, h8, Bool.and_false], (fun w h => Cl.sel (by exact .nil _) w h) _ hw⟩
        · skip
          have h7 : smallT (nth tgt k) = true := by
            simp only [Bool.or_eq_false_iff, Bool.not_eq_false'] at h5
            simp only [smallT, Bool.and_eq_true]
            exact h5
          refine cw_skip (post_blk (post_then (cw_region (sr rfl rfl rfl ((q_move rfl rfl)) ?_))))
          refine sr rfl rfl rfl ((q_add rfl rfl rfl (by intro hc; omega))) ?_
          refine sr rfl rfl rfl ((q_assign rfl rfl)) (sw_nil ?_)
          refine post_next (k + 1) (by exact .cons rfl (.cons rfl .nil)) (fun w h => Cl.sel (by exact .nil _) w h) ⟨by omega, fun j hj => ?_⟩ (by omega)
          by_cases e : j = k
          · subst e; exact h7
          · exact he2 j (by omega)
      · skip
        have hk' : k = tgt.length := by simp only [decide_eq_false_iff_not] at h4; omega
        subst hk'
        have h8 : tgt.all smallT = true := List.all_eq_true.2 fun u hu => by
          obtain ⟨j, hj, rfl⟩ := List.getElem_of_mem hu
          have := he2 j hj
          rwa [nth_get hj] at this
        refine cw_exit (post_then_x (post_then_x (post_blk_eq (post_then (cw_seq (cw_region (sr rfl rfl rfl ((q_assign rfl rfl)) (sw_nil (post_then (cw_ret (post_ret1 rfl (resOk_tmp rfl) ?_)))))))))))
        exact fun w' hw => ⟨by rw [smallB, h2, h6, h8]; rfl, hw⟩
theorem refAll_spec (tp : SlV) (tgt : List Wan) (w : World) (htp : Stb w [] (RdL tp.v tgt)) (hwa : ∀ t ∈ tgt, WaRd t) : Calls Tryz.prog 68 #[tp.v] w fun e w' => e = .returned (.bool (tgt.all waB)) ∧ Cl w [] [] w' := by
  have hL2 := rd_len htp.here
  refine calls_cw (vs := [_]) Tryz.func68 rfl Tryz.ntmps68 rfl (Cl.start0 w) (cw_seq (cw_region (sr rfl rfl rfl ((q_assign rfl rfl)) (sw_nil (post_then (cw_seq (cw_seq (cw_region (sr rfl rfl rfl ((q_assign rfl rfl)) (sw_nil (post_then (cw_block ?_))))))))))))
  refine cw_loop (S := Nat) (fun k => [(0, [], tp.v), (3, [], .int .i64 k)]) (fun _ => Cl w [] []) (fun k => k ≤ tgt.length ∧ ∀ j, j < k → waB (nth tgt j) = true) (fun k => tgt.length - k) 0 ⟨Nat.zero_le _, fun j hj => by omega⟩ (by exact .cons rfl (.cons rfl .nil)) (fun _ h => h) ?_
  rintro k ⟨hk, he⟩
  refine cw_seq (cw_seq (cw_region (sr rfl rfl rfl ((q_move rfl rfl)) (sr rfl rfl rfl ((q_move rfl rfl)) ?_))))
  refine sr rfl rfl rfl ((q_len rfl (.cons rfl inferInstance (.nil)) (by exact fun w hw => Stb.cl (by assumption) hw))) ?_
  refine sr rfl rfl rfl ((q_lss rfl rfl rfl)) (sw_nil (post_then ?_))
  refine cw_cond rfl (fun h => ?_) (fun h => ?_)
  · skip
    have hk' : k < tgt.length := by simp only [decide_eq_true_eq] at h; omega
    have hwk := hwa _ (nth_mem hk')
    refine cw_skip (post_then (cw_seq (cw_block (cw_seq (cw_region (sr rfl rfl rfl ((q_move rfl rfl)) (sr rfl rfl rfl ((q_move rfl rfl)) ?_)))))))
    refine sr rfl rfl rfl ((q_indexN rfl rfl rfl (by exact fun w hw => Stb.cl (by assumption) hw) (by intro hc; omega))) ?_
    refine sr rfl rfl rfl ((q_loadEl rfl rfl rfl (by exact fun w hw => Stb.cl (by assumption) hw) (by intro hc; omega))) ?_
    refine sw_step rfl rfl rfl (q_call (CanCall.mk Tryz.call47) rfl (.cons rfl inferInstance (.nil)) (fun _ w hw => callq hw (refWanted_spec (nth tgt k) w hwk))) (sr rfl rfl rfl ((q_not rfl rfl)) (sw_nil (post_then ?_)))
    refine cw_cond rfl (fun h2 => ?_) (fun h2 => ?_)
    · skip
      have h3 : tgt.all waB = false := List.all_eq_false.2 ⟨nth tgt k, nth_mem hk', by simpa using h2⟩
      refine cw_seq (cw_region (sr rfl rfl rfl ((q_assign rfl rfl)) (sw_nil (post_then (cw_ret (post_blk_r (post_then_r (post_then_r (post_blk_r (post_then_r (post_ret1 rfl (resOk_tmp rfl) ?_)))))))))))
      exact fun w' hw => ⟨by rw [h3], hw⟩
    · skip
      refine cw_skip (post_blk (post_then (cw_region (sr rfl rfl rfl ((q_move rfl rfl)) ?_))))
      refine sr rfl rfl rfl ((q_add rfl rfl rfl (by intro hc; omega))) ?_
      refine sr rfl rfl rfl ((q_assign rfl rfl)) (sw_nil ?_)
      refine post_next (k + 1) (by exact .cons rfl (.cons rfl .nil)) (fun _ h => h) ⟨by omega, fun j hj => ?_⟩ (by omega)
      by_cases e : j = k
      · subst e; simpa using h2
      · exact he j (by omega)
  · skip
    have hk' : k = tgt.length := by simp only [decide_eq_false_iff_not] at h; omega
    subst hk'
    have h3 : tgt.all waB = true := List.all_eq_true.2 fun u hu => by
      obtain ⟨j, hj, rfl⟩ := List.getElem_of_mem hu
      have := he j hj
      rwa [nth_get hj] at this
    refine cw_exit (post_then_x (post_then_x (post_blk_eq (post_then (cw_seq (cw_region (sr rfl rfl rfl ((q_assign rfl rfl)) (sw_nil (post_then (cw_ret (post_ret1 rfl (resOk_tmp rfl) ?_)))))))))))
    exact fun w' hw => ⟨by rw [h3], hw⟩
theorem wrong_spec (sp tp : SlV) (p : List Un) (tgt : List Wan) (x : Wts) (w : World) (hvo : VoRd w sp p) (htp : Stb w [] (RdL tp.v tgt)) (hwa : ∀ t ∈ tgt, WaRd t) : Calls Tryz.prog 20 #[sp.v, tp.v, val x] w fun e w' => e = .returned (.int .i64 (beginE p tgt x)) ∧ Cl w [] [] w' := by
  have h1 := hvo.l
  refine calls_cw (vs := [_, _, _]) Tryz.func20 rfl Tryz.ntmps20 rfl (Cl.start0 w) (cw_seq (cw_region ?_))
  refine sw_x rfl rfl rfl (e_box rfl rfl rfl) (fun b5 => ?_)
  refine sr rfl rfl rfl ((q_assign rfl rfl)) (sw_nil (post_then (cw_seq (cw_seq (cw_region (sr rfl rfl rfl ((q_move rfl rfl)) ?_))))))
  refine sr rfl rfl rfl ((q_len rfl (.cons rfl inferInstance (.nil)) (by exact fun w hw => Stb.cl (by assumption) hw))) ?_
  refine sr rfl rfl rfl ((q_gtr rfl rfl rfl)) (sr rfl rfl rfl ((q_move rfl rfl)) (sr rfl rfl rfl ((q_move rfl rfl)) ?_))
  refine sr rfl rfl rfl ((q_len rfl (.cons rfl inferInstance (.nil)) (by exact fun w hw => Stb.cl (by assumption) hw))) ?_
  refine sr rfl rfl rfl ((q_gtr rfl rfl rfl)) (sr rfl rfl rfl ((q_or2 rfl rfl rfl)) (sw_nil (post_then ?_)))
  refine cw_cond rfl (fun h => ?_) (fun h => ?_)
  · skip
    have h2 : 2000 < p.length ∨ 500 < tgt.length := by
      simp only [Bool.or_eq_true, decide_eq_true_eq] at h; omega
    refine cw_seq (cw_region (sr rfl rfl rfl ((q_assign rfl rfl)) (sw_nil (post_then (cw_ret (post_then_r (post_ret1 rfl (resOk_tmp rfl) ?_)))))))
    exact fun w' hw => ⟨by rw [beginE, if_pos h2], (fun w h => Cl.sel (by exact .nil _) w h) _ hw⟩
  · skip
    have h2 : ¬ (2000 < p.length ∨ 500 < tgt.length) := by
      simp only [Bool.or_eq_false_iff, decide_eq_false_iff_not] at h; omega
    refine cw_skip (post_then (cw_seq (cw_seq (cw_region (sr rfl rfl rfl ((q_move rfl rfl)) (sw_step rfl rfl rfl (q_call (CanCall.mk Tryz.call28) rfl (.cons rfl inferInstance (.nil)) (fun _ w hw => callq hw (refVoice_spec sp p w (hvo.arg hw)))) (sr rfl rfl rfl ((q_not rfl rfl)) (sr rfl rfl rfl ((q_move rfl rfl)) (sr rfl rfl rfl ((q_move rfl rfl)) (sw_step rfl rfl rfl (q_call (CanCall.mk Tryz.call68) rfl (.cons rfl inferInstance (.nil)) (fun _ w hw => callq hw (refAll_spec tp tgt w (stb_arg hw htp) hwa))) (sr rfl rfl rfl ((q_not rfl rfl)) (sr rfl rfl rfl ((q_or2 rfl rfl rfl)) (sr rfl rfl rfl ((q_move rfl rfl)) ?_)))))))))))))
    refine sr rfl rfl rfl ((q_loadA rfl rfl (by exact .head _) rfl)) ?_
    refine sw_step rfl rfl rfl (q_call (CanCall.mk Tryz.call48) rfl (.cons rfl inferInstance (.nil)) (fun _ w hw => callq hw (refWeights_spec x w))) (sr rfl rfl rfl ((q_not rfl rfl)) (sr rfl rfl rfl ((q_or2 rfl rfl rfl)) (sw_nil (post_then ?_))))
    refine cw_cond rfl (fun h3 => ?_) (fun h3 => ?_)
    · skip
      have h4 : (voiceB p && tgt.all waB && wtB x) = false := by
        simp only [Bool.or_eq_true, Bool.not_eq_true'] at h3
        simp only [Bool.and_eq_false_iff]; exact h3
      refine cw_seq (cw_region (sr rfl rfl rfl ((q_assign rfl rfl)) (sw_nil (post_then (cw_ret (post_then_r (post_ret1 rfl (resOk_tmp rfl) ?_)))))))
      exact fun w' hw => ⟨by rw [beginE, if_neg h2, h4]; rfl, (fun w h => Cl.sel (by exact .nil _) w h) _ hw⟩
    · skip
      have h4 : (voiceB p && tgt.all waB && wtB x) = true := by
        simp only [Bool.or_eq_false_iff, Bool.not_eq_false'] at h3
        simp only [Bool.and_eq_true]; exact h3
      refine cw_skip (post_then (cw_seq (cw_region (sr rfl rfl rfl ((q_assign rfl rfl)) (sw_nil (post_then (cw_ret (post_ret1 rfl (resOk_tmp rfl) ?_))))))))
      exact fun w' hw => ⟨by rw [beginE, if_neg h2, h4]; rfl, (fun w h => Cl.sel (by exact .nil _) w h) _ hw⟩
end Go.Proofs.YtomjbfeafodfbaaGreat

set_option autoImplicit false
namespace Go.Proofs.YtomjbfeafodfbaaGreat
open Go.Sx
theorem vo_in {W : World} {s : SlV} {l : List Un} (h : Stb W [] (rdSl dUn.rd s l)) : VoIn W s l := by
  obtain ⟨ls, h1, h2, h3⟩ := h.here
  have e : ls = l := List.ext_getElem h2 fun i hi hj => (h3 i _ _ (List.getElem?_eq_getElem hi) (List.getElem?_eq_getElem hj)).1
  subst e
  refine ⟨h1, fun u hu => ?_⟩
  obtain ⟨i, hi, rfl⟩ := List.getElem_of_mem hu
  exact (h3 i _ _ (List.getElem?_eq_getElem hi) (List.getElem?_eq_getElem hi)).2
theorem unIn_arg {w0 w : World} {H : List Asn} {u : Un} (hw : Cl w0 [] H w) (h : UnIn u w0) : UnIn u w := ⟨h.s1, h.s2, h.s3, (stb_arg hw (rd_stb h.b)).here, (stb_arg hw (rd_stb h.e)).here⟩
theorem voIn_arg {w0 w : World} {H : List Asn} {sp : SlV} {p : List Un} (hw : Cl w0 [] H w) (h : VoIn w0 sp p) : VoIn w sp p := h.stb.cl hw |> fun x => x
end Go.Proofs.YtomjbfeafodfbaaGreat

/- The best sequence, chosen step by step out of the certificate. Plain lemmas, no program text. -/
set_option autoImplicit false
namespace Go.Sx
/-- The least of a list, -1 of none. -/
def mn : List Int → Int
  | [] => -1
  | x :: r => r.foldl min x
theorem mn_snoc (l : List Int) (x : Int) : mn (l ++ [x]) = if l = [] then x else min (mn l) x := by
  cases l with
  | nil => rfl
  | cons y r => simp [mn]
theorem minL_mn {l : List Int} (hl : l ≠ []) (hb : ∀ x ∈ l, x ≤ 9223372036854775807) : minL l = mn l := by
  cases l with
  | nil => exact absurd rfl hl
  | cons x r =>
    have h := hb x (by simp)
    simp only [minL, mn, List.foldl_cons]
    rw [show min 9223372036854775807 x = x by omega]
namespace Tsk
variable (t : Tsk)
def jn (last : Option Int) (v : Int) : Int := match last with
  | some u => t.J u v
  | none => 0
def mi (k : Nat) (last : Option Int) : Int := minL ((t.us (t.T - k)).map fun v => t.jn last v + t.R k v)
def gr : Nat → Option Int → List Int
  | 0, _ => []
  | k + 1, last => match (t.us (t.T - (k + 1))).find? fun v => decide (t.jn last v + t.R (k + 1) v = t.mi (k + 1) last) with
    | some v => v :: gr k (some v)
    | none => []
/-- The units for a target rise. -/
def Rise : Prop := ∀ i, (t.us i).Pairwise (· < ·)
/-- No sum is as great as the greatest int. -/
def Low : Prop := ∀ k last v, k ≤ t.T → 1 ≤ k → v ∈ t.us (t.T - k) → (∀ u, last = some u → u ∈ t.us (t.T - (k + 1))) → t.jn last v + t.R k v ≤ 9223372036854775807
variable {t}
theorem mi_mem {k : Nat} {last : Option Int} (hne : t.us (t.T - k) ≠ []) (hb : ∀ v ∈ t.us (t.T - k), t.jn last v + t.R k v ≤ 9223372036854775807) : ∃ v ∈ t.us (t.T - k), t.jn last v + t.R k v = t.mi k last := by
  have := minL_mem (l := (t.us (t.T - k)).map fun v => t.jn last v + t.R k v) (by simpa using hne) (fun x hx => by
    obtain ⟨v, hv, rfl⟩ := List.mem_map.1 hx
    exact hb v hv)
  obtain ⟨v, hv, he⟩ := List.mem_map.1 this
  exact ⟨v, hv, he⟩
theorem mi_le {k : Nat} {last : Option Int} {v : Int} (hv : v ∈ t.us (t.T - k)) : t.mi k last ≤ t.jn last v + t.R k v := minL_le (List.mem_map_of_mem hv)
theorem find_first {l : List Int} (hl : l.Pairwise (· < ·)) {p : Int → Bool} {v : Int} (h : l.find? p = some v) : v ∈ l ∧ p v = true ∧ ∀ u ∈ l, p u = true → v ≤ u := by
  induction l with
  | nil => simp at h
  | cons x r ih =>
    rw [List.find?_cons] at h
    have hp := List.pairwise_cons.1 hl
    cases hx : p x with
    | true =>
      rw [hx] at h
      cases h
      refine ⟨by simp, hx, fun u hu _ => ?_⟩
      rcases List.mem_cons.1 hu with rfl | hu
      · exact Int.le_refl _
      · exact Int.le_of_lt (hp.1 u hu)
    | false =>
      rw [hx] at h
      obtain ⟨h1, h2, h3⟩ := ih hp.2 h
      refine ⟨by simp [h1], h2, fun u hu hpu => ?_⟩
      rcases List.mem_cons.1 hu with rfl | hu
      · rw [hx] at hpu; cases hpu
      · exact h3 u hu hpu
theorem gr_best (hr : t.Rise) (hp : ∀ i, i < t.T → t.us i ≠ []) (hb : ∀ k last v, k ≤ t.T → 1 ≤ k → v ∈ t.us (t.T - k) → (∀ u, last = some u → u ∈ t.us (t.T - (k + 1))) → t.jn last v + t.R k v ≤ 9223372036854775807) :
    ∀ (k : Nat) (last : Option Int), k ≤ t.T → 1 ≤ k → (∀ u, last = some u → u ∈ t.us (t.T - (k + 1))) → ∃ v r, t.gr k last = v :: r ∧ v :: r ∈ t.tl k ∧ t.jn last v + t.tc (t.T - k) (v :: r) = t.mi k last ∧
      ∀ v' r', v' :: r' ∈ t.tl k → v' :: r' = v :: r ∨ t.mi k last < t.jn last v' + t.tc (t.T - k) (v' :: r') ∨ (t.mi k last = t.jn last v' + t.tc (t.T - k) (v' :: r') ∧ lexLt (v :: r) (v' :: r') = true)
  | 0, _, _, h, _ => by omega
  | k + 1, last, hk, _, hlast => by
    obtain ⟨w, hw1, hw2⟩ := mi_mem (k := k + 1) (last := last) (hp _ (by omega)) (fun v hv => hb (k + 1) last v hk (by omega) hv hlast)
    cases hf : (t.us (t.T - (k + 1))).find? fun v => decide (t.jn last v + t.R (k + 1) v = t.mi (k + 1) last) with
    | none =>
      have := List.find?_eq_none.1 hf w hw1
      simp [hw2] at this
    | some v =>
      obtain ⟨h1, h2, h3⟩ := find_first (hr _) hf
      simp only [decide_eq_true_eq] at h2
      have hg : t.gr (k + 1) last = v :: t.gr k (some v) := by rw [gr, hf]
      by_cases h0 : k = 0
      · subst h0
        refine ⟨v, [], by rw [hg]; rfl, ?_, ?_, fun v' r' hv' => ?_⟩
        · simp only [tl, List.mem_flatMap, List.map_cons, List.map_nil]
          exact ⟨v, h1, by simp⟩
        · rw [← h2]; simp [tc, R]
        · simp only [tl, List.mem_flatMap, List.map_cons, List.map_nil, List.mem_singleton, List.cons.injEq] at hv'
          obtain ⟨u, hu, rfl, rfl⟩ := hv'
          have hle := mi_le (last := last) hu
          have e : t.tc (t.T - (0 + 1)) [v'] = t.R (0 + 1) v' := by simp [tc, R]
          rw [e]
          by_cases e1 : v' = v
          · left; rw [e1]
          · by_cases e2 : t.jn last v' + t.R (0 + 1) v' = t.mi (0 + 1) last
            · right; right
              refine ⟨e2.symm, ?_⟩
              have := h3 v' hu (by simpa using e2)
              simp only [lexLt]
              simp; omega
            · right; left; omega
      · have hmem : v ∈ t.us (t.T - (k + 1)) := h1
        obtain ⟨v2, r2, g1, g2, g3, g4⟩ := gr_best hr hp hb k (some v) (by omega) (by omega) (fun u hu => by cases hu; exact hmem)
        have eT : t.T - (k + 1) + 1 = t.T - k := by omega
        have hR : ∀ u, t.R (k + 1) u = t.F (t.T - (k + 1)) u + t.mi k (some u) := fun u => by rw [R, if_neg h0]; rfl
        have htc : ∀ u a s, t.tc (t.T - (k + 1)) (u :: a :: s) = t.F (t.T - (k + 1)) u + (t.jn (some u) a + t.tc (t.T - k) (a :: s)) := fun u a s => by rw [tc, eT]; simp only [jn]; omega
        refine ⟨v, v2 :: r2, by rw [hg, g1], ?_, ?_, fun v' r' hv' => ?_⟩
        · rw [tl]
          exact List.mem_flatMap.2 ⟨v, h1, List.mem_map_of_mem g2⟩
        · rw [htc, g3, ← hR]; exact h2
        · rw [tl] at hv'
          obtain ⟨u, hu, hm⟩ := List.mem_flatMap.1 hv'
          obtain ⟨s, hs, he⟩ := List.mem_map.1 hm
          simp only [List.cons.injEq] at he
          obtain ⟨rfl, rfl⟩ := he
          have hsl := t.tl_len k s hs
          match s, hsl with
          | [], hsl => simp only [List.length_nil] at hsl; omega
          | a :: s, _ =>
            have hle := mi_le (last := last) hu
            have hle2 : t.mi k (some u) ≤ t.jn (some u) a + t.tc (t.T - k) (a :: s) := by
              obtain ⟨v3, r3, _, _, _, q4⟩ := gr_best hr hp hb k (some u) (by omega) (by omega) (fun x hx => by cases hx; exact hu)
              rename_i q3
              rcases q4 a s hs with h5 | h5 | h5
              · simp only [List.cons.injEq] at h5
                obtain ⟨rfl, rfl⟩ := h5
                omega
              · omega
              · omega
            rw [htc]
            by_cases e1 : u = v
            · subst e1
              rcases g4 a s hs with h5 | h5 | ⟨h5, h6⟩
              · left; rw [h5]
              · right; left; have := hR u; omega
              · right; right
                have := hR u
                refine ⟨by omega, ?_⟩
                show (decide (u < u) || (decide (u = u) && lexLt (v2 :: r2) (a :: s))) = true
                rw [h6]; simp
            · by_cases e2 : t.jn last u + t.R (k + 1) u = t.mi (k + 1) last
              · have h7 := h3 u hu (by simpa using e2)
                have := hR u
                by_cases e3 : t.mi (k + 1) last < t.jn last u + (t.F (t.T - (k + 1)) u + (t.jn (some u) a + t.tc (t.T - k) (a :: s)))
                · exact .inr (.inl e3)
                · right; right
                  refine ⟨by omega, ?_⟩
                  simp only [lexLt]
                  simp; omega
              · right; left; have := hR u; omega
end Tsk
end Go.Sx

set_option autoImplicit false
set_option maxRecDepth 100000
namespace Go.Proofs.YtomjbfeafodfbaaGreat
open Go.Sx
open Enc (enc val)
theorem vo_bl {p : List Un} (h : voiceB p = true) {a b : Un} (ha : a ∈ p) (hb : b ∈ p) : a.el.length = b.bl.length := by
  simp only [voiceB, eqB, Bool.and_eq_true, List.all_eq_true, decide_eq_true_eq] at h
  have h1 := h.1.2 _ ha
  have h2 := h.1.2 _ hb
  omega
theorem vo_ok {p : List Un} (h : voiceB p = true) {a : Un} (ha : a ∈ p) : UnOk a := by
  simp only [voiceB, Bool.and_eq_true] at h
  exact un_ok (List.all_eq_true.1 h.1.1 _ ha)
def jz (x : Wts) (p : List Un) (u v : Int) : Int := if 0 ≤ u then joinC x (nth p u.toNat) (nth p v.toNat) else 0
def lsum (x : Wts) (p : List Un) (row : List Int) (u : Int) (v : Int) : Int := nth row v.toNat + jz x p u v
theorem jz_bd {x : Wts} {p : List Un} (hv : voiceB p = true) (hx : wtB x = true) {u : Int} (hu : u < p.length) {v : Nat} (hvp : v < p.length) : 0 ≤ jz x p u v ∧ jz x p u v ≤ 800000000 := by
  unfold jz
  split
  · rename_i h
    exact joinC_bd (wt_ok hx) (vo_ok hv (nth_mem (by omega))) (vo_ok hv (nth_mem (by omega)))
  · omega
theorem refLst_spec (sp tp sc : SlV) (p : List Un) (tgt : List Wan) (x : Wts) (cv : List SlV) (row : List Int) (i : Nat) (hi : i < tgt.length) (hic : i < cv.length) (u : Int) (hu : -1 ≤ u ∧ u < p.length) (hrow : row.length = p.length) (hb : ∀ v : Nat, -4611686018427387904 ≤ nth row v ∧ nth row v ≤ 4611686018427387904) (w : World)
    (hvo : VoRd w sp p) (htp : Stb w [] (RdL tp.v tgt)) (hcv : Stb w [] (RdL sc.v cv)) (hr : Stb w [] (RdL (nth cv i).v row)) (hE : beginE p tgt x = 0) :
    Calls Tryz.prog 69 #[sp.v, tp.v, val x, sc.v, .int .i64 i, .int .i64 u] w fun e w' => e = .returned (.int .i64 (mn ((idxs p p.length (nth tgt i).phone).map (lsum x p row u)))) ∧ Cl w [] [] w' := by
  have hvl := hvo.l
  have hL := rd_len hvl.here
  obtain ⟨-, -, hv1, hv2, hv3⟩ := beginE_ok hE
  refine calls_cw (vs := [_, _, _, _, _, _]) Tryz.func69 rfl Tryz.ntmps69 rfl (Cl.start0 w) (cw_seq (cw_region ?_))
  refine sw_x rfl rfl rfl (e_box rfl rfl rfl) (fun b8 => ?_)
  refine sr rfl rfl rfl ((q_assign rfl rfl)) (sw_nil (post_then (cw_seq (cw_region (sr rfl rfl rfl ((q_assign rfl rfl)) (sw_nil (post_then (cw_seq (cw_region (sr rfl rfl rfl ((q_assign rfl rfl)) (sw_nil (post_then (cw_seq (cw_seq (cw_region (sr rfl rfl rfl ((q_assign rfl rfl)) (sw_nil (post_then (cw_block ?_)))))))))))))))))))
  refine cw_loop (S := Nat) (fun k => [(0, [], sp.v), (1, [], tp.v), (3, [], sc.v), (4, [], .int .i64 i), (5, [], .int .i64 u), (8, [], .pointer (some ⟨b8, 0, none⟩)), (13, [], .int .i64 (mn ((idxs p k (nth tgt i).phone).map (lsum x p row u)))), (14, [], .bool (!(idxs p k (nth tgt i).phone).isEmpty)), (15, [], .int .i64 k)]) (fun _ => Cl w [] [blk b8 (enc x) 25]) (fun k => k ≤ p.length) (fun k => p.length - k) 0 (Nat.zero_le _) (by exact .cons rfl (.cons rfl (.cons rfl (.cons rfl (.cons rfl (.cons rfl (.cons rfl (.cons rfl (.cons rfl .nil))))))))) (fun _ h => h) ?_
  intro k hk
  have hss := idxs_succ p k (nth tgt i).phone
  refine cw_seq (cw_seq (cw_region (sr rfl rfl rfl ((q_move rfl rfl)) (sr rfl rfl rfl ((q_move rfl rfl)) ?_))))
  refine sr rfl rfl rfl ((q_len rfl (.cons rfl inferInstance (.nil)) (by exact fun w hw => Stb.cl (by assumption) hw))) ?_
  refine sr rfl rfl rfl ((q_lss rfl rfl rfl)) (sw_nil (post_then ?_))
  refine cw_cond rfl (fun h => ?_) (fun h => ?_)
  · skip
    have hk' : k < p.length := by simp only [decide_eq_true_eq] at h; omega
    have hbk := hb k
    have hjb := jz_bd hv1 hv3 hu.2 hk'
    refine cw_skip (post_then (cw_seq (cw_block (cw_seq (cw_seq ?_)))))
    refine cw_region_q mixed_Tryz (by kernel_rfl) ?_
    refine qr rfl rfl rfl ((q_move rfl rfl)) (qr rfl rfl rfl ((q_move rfl rfl)) ?_)
    refine qr rfl rfl rfl ((q_indexN rfl rfl rfl (by exact fun w hw => Stb.cl (by assumption) hw) (by intro hc; omega))) ?_
    refine qr rfl rfl rfl ((q_fieldEl rfl rfl (by exact fun w hw => Stb.cl (by assumption) hw) (by intro hc; omega))) ?_
    refine qr rfl rfl rfl ((q_loadF rfl rfl rfl (by exact fun w hw => Stb.cl (by assumption) hw) (by intro hc; omega) rfl)) ?_
    refine qr rfl rfl rfl ((q_move rfl rfl)) (qr rfl rfl rfl ((q_move rfl rfl)) ?_)
    refine qr rfl rfl rfl ((q_indexN rfl rfl rfl (by exact fun w hw => Stb.cl (by assumption) hw) (by intro hc; omega))) ?_
    refine qr rfl rfl rfl ((q_fieldEl rfl rfl (by exact fun w hw => Stb.cl (by assumption) hw) (by intro hc; omega))) ?_
    refine qr rfl rfl rfl ((q_loadF rfl rfl rfl (by exact fun w hw => Stb.cl (by assumption) hw) (by intro hc; omega) rfl)) ?_
    refine qr rfl rfl rfl ((q_neqStr rfl rfl rfl Tryz.underlying9)) (qw_end (post_then ?_))
    refine cw_cond rfl (fun h2 => ?_) (fun h2 => ?_)
    · skip
      have h3 : ¬ (nth p k).phone = (nth tgt i).phone := by simpa using h2
      rw [if_neg h3, List.append_nil] at hss
      refine cw_exit (post_then_x (post_blk_eq (post_then (cw_region (sr rfl rfl rfl ((q_move rfl rfl)) ?_)))))
      refine sr rfl rfl rfl ((q_add rfl rfl rfl (by intro hc; omega))) ?_
      refine sr rfl rfl rfl ((q_assign rfl rfl)) (sw_nil ?_)
      refine post_next (k + 1) ?_ (fun _ h => h) (by omega) (by omega)
      simp only [hss]
      exact (by exact .cons rfl (.cons rfl (.cons rfl (.cons rfl (.cons rfl (.cons rfl (.cons rfl (.cons rfl (.cons rfl .nil)))))))))
    · skip
      have h3 : (nth p k).phone = (nth tgt i).phone := by simpa using h2
      rw [if_pos h3] at hss
      refine cw_skip (post_then (cw_seq (cw_region (sr rfl rfl rfl ((q_move rfl rfl)) (sr rfl rfl rfl ((q_move rfl rfl)) ?_)))))
      refine sr rfl rfl rfl ((q_indexN rfl rfl rfl (by exact fun w hw => Stb.cl (by assumption) hw) (by intro hc; omega))) ?_
      refine sr rfl rfl rfl ((q_loadEl rfl rfl rfl (by exact fun w hw => Stb.cl (by assumption) hw) (by intro hc; omega))) ?_
      refine sr rfl rfl rfl ((q_move rfl rfl)) ?_
      refine sr rfl rfl rfl ((q_indexN rfl rfl rfl (by exact fun w hw => Stb.cl (by assumption) hw) (by intro hc; omega))) ?_
      refine sr rfl rfl rfl ((q_loadEl rfl rfl rfl (by exact fun w hw => Stb.cl (by assumption) hw) (by intro hc; omega))) ?_
      refine sr rfl rfl rfl ((q_assign rfl rfl)) (sw_nil (post_then (cw_seq (cw_seq (cw_region (sr rfl rfl rfl ((q_move rfl rfl)) (sr rfl rfl rfl ((q_geq rfl rfl rfl)) (sw_nil (post_then ?_)))))))))
      refine cw_cut (S := Unit) (fun _ => [(0, [], sp.v), (1, [], tp.v), (3, [], sc.v), (4, [], .int .i64 i), (5, [], .int .i64 u), (8, [], .pointer (some ⟨b8, 0, none⟩)), (13, [], .int .i64 (mn ((idxs p k (nth tgt i).phone).map (lsum x p row u)))), (14, [], .bool (!(idxs p k (nth tgt i).phone).isEmpty)), (15, [], .int .i64 k), (16, [], .int .i64 (lsum x p row u k))]) (fun _ => Cl w [] [blk b8 (enc x) 25]) (fun _ => True) ?_ ?_
      · refine cw_cond rfl (fun h4 => ?_) (fun h4 => ?_)
        · skip
          have h5 : 0 ≤ u := by simpa using h4
          have em : nth p u.toNat ∈ p := nth_mem (by omega)
          have ek : nth p k ∈ p := nth_mem hk'
          have ej : jz x p u k = joinC x (nth p u.toNat) (nth p k) := by rw [jz, if_pos h5]; simp
          rw [ej] at hjb
          have el : lsum x p row u k = nth row k + joinC x (nth p u.toNat) (nth p k) := by rw [lsum, ej]; simp
          refine cw_region_q mixed_Tryz (by kernel_rfl) ?_
          refine qr rfl rfl rfl ((q_move rfl rfl)) (qr rfl rfl rfl ((q_move rfl rfl)) (qr rfl rfl rfl ((q_move rfl rfl)) ?_))
          refine qr rfl rfl rfl ((q_index rfl rfl rfl (by exact fun w hw => Stb.cl (by assumption) hw) (by intro hc; omega))) ?_
          refine qr rfl rfl rfl ((q_loadEl rfl rfl rfl (by exact fun w hw => Stb.cl (by assumption) hw) (by intro hc; omega))) ?_
          refine qr rfl rfl rfl ((q_move rfl rfl)) (qr rfl rfl rfl ((q_move rfl rfl)) ?_)
          refine qr rfl rfl rfl ((q_indexN rfl rfl rfl (by exact fun w hw => Stb.cl (by assumption) hw) (by intro hc; omega))) ?_
          refine qr rfl rfl rfl ((q_loadEl rfl rfl rfl (by exact fun w hw => Stb.cl (by assumption) hw) (by intro hc; omega))) ?_
          refine qr rfl rfl rfl ((q_loadA rfl rfl (by exact .head _) rfl)) ?_
          refine qw_step rfl rfl rfl (q_call (CanCall.mk Tryz.call51) rfl (.cons rfl inferInstance (.cons rfl inferInstance (.cons rfl inferInstance (.nil)))) (fun _ w hw => callq hw (refJoin_spec (nth p u.toNat) (nth p k) x w ((hvo.arg hw).u _ em) ((hvo.arg hw).u _ ek) (vo_ok hv1 em) (vo_ok hv1 ek) (vo_bl hv1 em ek) (wt_ok hv3)))) ?_
          refine qr rfl rfl rfl ((q_add rfl rfl rfl (by intro hc; omega))) ?_
          refine qr rfl rfl rfl ((q_assign rfl rfl)) (qw_end ?_)
          refine post_meet () ?_ (fun _ h => h) trivial
          rw [el]
          exact (by exact .cons rfl (.cons rfl (.cons rfl (.cons rfl (.cons rfl (.cons rfl (.cons rfl (.cons rfl (.cons rfl (.cons rfl .nil))))))))))
        · skip
          have h5 : ¬ 0 ≤ u := by simpa using h4
          have el : lsum x p row u k = nth row k := by rw [lsum, jz, if_neg h5]; simp
          refine cw_skip ?_
          refine post_meet () ?_ (fun _ h => h) trivial
          rw [el]
          exact (by exact .cons rfl (.cons rfl (.cons rfl (.cons rfl (.cons rfl (.cons rfl (.cons rfl (.cons rfl (.cons rfl (.cons rfl .nil))))))))))
      · intro _ _
        refine post_then (cw_seq (cw_region (sr rfl rfl rfl ((q_move rfl rfl)) (sr rfl rfl rfl ((q_not rfl rfl)) (sr rfl rfl rfl ((q_move rfl rfl)) (sr rfl rfl rfl ((q_move rfl rfl)) (sr rfl rfl rfl ((q_move rfl rfl)) (sr rfl rfl rfl ((q_lss rfl rfl rfl)) (sr rfl rfl rfl ((q_or2 rfl rfl rfl)) (sw_nil (post_then ?_)))))))))))
        have hm : mn ((idxs p (k + 1) (nth tgt i).phone).map (lsum x p row u)) = if idxs p k (nth tgt i).phone = [] then lsum x p row u k else min (mn ((idxs p k (nth tgt i).phone).map (lsum x p row u))) (lsum x p row u k) := by
          rw [hss, List.map_append, List.map_cons, List.map_nil, mn_snoc]
          by_cases e : idxs p k (nth tgt i).phone = []
          · rw [e]; rfl
          · rw [if_neg e, if_neg (by simpa using e)]
        have hne : (idxs p (k + 1) (nth tgt i).phone).isEmpty = false := by rw [hss]; simp
        refine cw_cond rfl (fun h4 => ?_) (fun h4 => ?_)
        · skip
          have hm2 : mn ((idxs p (k + 1) (nth tgt i).phone).map (lsum x p row u)) = lsum x p row u k := by
            rw [hm]
            split
            · rfl
            · rename_i h6
              have h7 : (idxs p k (nth tgt i).phone).isEmpty = false := by simpa using h6
              rw [h7] at h4
              simp at h4
              omega
          refine cw_region (sr rfl rfl rfl ((q_move rfl rfl)) (sr rfl rfl rfl ((q_assign rfl rfl)) (sr rfl rfl rfl ((q_assign rfl rfl)) (sw_nil (post_blk (post_then (cw_region (sr rfl rfl rfl ((q_move rfl rfl)) ?_))))))))
          refine sr rfl rfl rfl ((q_add rfl rfl rfl (by intro hc; omega))) ?_
          refine sr rfl rfl rfl ((q_assign rfl rfl)) (sw_nil ?_)
          refine post_next (k + 1) ?_ (fun _ h => h) (by omega) (by omega)
          simp only [hm2, hne]
          exact (by exact .cons rfl (.cons rfl (.cons rfl (.cons rfl (.cons rfl (.cons rfl (.cons rfl (.cons rfl (.cons rfl .nil)))))))))
        · skip
          have h7 : (idxs p k (nth tgt i).phone).isEmpty = false := by
            cases h8 : (idxs p k (nth tgt i).phone).isEmpty
            · rfl
            · rw [h8] at h4; simp at h4
          have hm2 : mn ((idxs p (k + 1) (nth tgt i).phone).map (lsum x p row u)) = mn ((idxs p k (nth tgt i).phone).map (lsum x p row u)) := by
            rw [hm, if_neg (by simpa using h7)]
            rw [h7] at h4
            simp at h4
            omega
          refine cw_skip (post_blk (post_then (cw_region (sr rfl rfl rfl ((q_move rfl rfl)) ?_))))
          refine sr rfl rfl rfl ((q_add rfl rfl rfl (by intro hc; omega))) ?_
          refine sr rfl rfl rfl ((q_assign rfl rfl)) (sw_nil ?_)
          refine post_next (k + 1) ?_ (fun _ h => h) (by omega) (by omega)
          simp only [hm2, hne]
          rw [h7]
          exact (by exact .cons rfl (.cons rfl (.cons rfl (.cons rfl (.cons rfl (.cons rfl (.cons rfl (.cons rfl (.cons rfl .nil)))))))))
  · skip
    have hk' : k = p.length := by simp only [decide_eq_false_iff_not] at h; omega
    subst hk'
    refine cw_exit (post_then_x (post_then_x (post_blk_eq (post_then (cw_seq (cw_region (sr rfl rfl rfl ((q_move rfl rfl)) (sr rfl rfl rfl ((q_assign rfl rfl)) (sw_nil (post_then (cw_ret (post_ret1 rfl (resOk_tmp rfl) ?_))))))))))))
    exact fun w' hw => ⟨rfl, (fun w h => Cl.sel (by exact .nil _) w h) _ hw⟩
end Go.Proofs.YtomjbfeafodfbaaGreat

set_option autoImplicit false
set_option maxRecDepth 100000
namespace Go.Proofs.YtomjbfeafodfbaaGreat
open Go.Sx
open Enc (enc val)
def rowR (p : List Un) (tgt : List Wan) (x : Wts) (i k : Nat) : List Int := (List.range p.length).map fun u => if u < k ∧ (u : Int) ∈ idxs p p.length (nth tgt i).phone then (tsk p tgt x).R (tgt.length - i) u else 0
theorem rowR_len (p : List Un) (tgt : List Wan) (x : Wts) (i k : Nat) : (rowR p tgt x i k).length = p.length := by simp [rowR]
theorem rowR_nth {p : List Un} {tgt : List Wan} {x : Wts} {i k u : Nat} (h : u < p.length) : nth (rowR p tgt x i k) u = if u < k ∧ (u : Int) ∈ idxs p p.length (nth tgt i).phone then (tsk p tgt x).R (tgt.length - i) u else 0 := by
  rw [nth_get (by rw [rowR_len]; exact h)]; simp [rowR]
theorem rowR_out {p : List Un} {tgt : List Wan} {x : Wts} {i k u : Nat} (h : ¬ u < p.length) : nth (rowR p tgt x i k) u = 0 := by
  simp only [nth, List.getD]; rw [List.getElem?_eq_none (by rw [rowR_len]; omega)]; rfl
theorem rowR_skip {p : List Un} {tgt : List Wan} {x : Wts} {i k : Nat} (h : ¬ (nth p k).phone = (nth tgt i).phone) : rowR p tgt x i (k + 1) = rowR p tgt x i k := by
  apply List.ext_getElem
  · simp [rowR]
  · intro u h1 h2
    simp only [rowR, List.getElem_map, List.getElem_range]
    by_cases e : u = k
    · subst e
      have : ¬ ((u : Int) ∈ idxs p p.length (nth tgt i).phone) := fun hm => h (by have := (TK.idx_mem.1 hm).2.2; simpa using this)
      simp [this]
    · have : (u < k + 1) ↔ (u < k) := by omega
      simp only [this]
theorem rowR_take {p : List Un} {tgt : List Wan} {x : Wts} {i k : Nat} (hk : k < p.length) (h : (nth p k).phone = (nth tgt i).phone) : (rowR p tgt x i k).set k ((tsk p tgt x).R (tgt.length - i) k) = rowR p tgt x i (k + 1) := by
  apply List.ext_getElem
  · simp [rowR]
  · intro u h1 h2
    rw [List.getElem_set]
    simp only [rowR, List.getElem_map, List.getElem_range]
    by_cases e : k = u
    · subst e
      have : (k : Int) ∈ idxs p p.length (nth tgt i).phone := TK.idx_mem.2 ⟨by omega, by omega, by simpa using h⟩
      simp [this]
    · rw [if_neg e]
      have : (u < k + 1) ↔ (u < k) := by omega
      simp only [this]
theorem rowR_zero (p : List Un) (tgt : List Wan) (x : Wts) (i : Nat) : List.replicate p.length (0 : Int) = rowR p tgt x i 0 := by
  apply List.ext_getElem
  · simp [rowR]
  · intro u h1 h2; simp [rowR]
theorem tsk_bd {p : List Un} {tgt : List Wan} {x : Wts} (hE : beginE p tgt x = 0) : (∀ i, i < tgt.length → ∀ u : Nat, u < p.length → 0 ≤ (tsk p tgt x).F i u ∧ (tsk p tgt x).F i u ≤ 102002000) ∧ ∀ u v : Nat, u < p.length → v < p.length → 0 ≤ (tsk p tgt x).J u v ∧ (tsk p tgt x).J u v ≤ 800000000 := by
  obtain ⟨h1, h2, hv1, hv2, hv3⟩ := beginE_ok hE
  refine ⟨fun i hi u hu => ?_, fun u v hu hv => ?_⟩
  · have ht := wa_ok (List.all_eq_true.1 hv2 _ (nth_mem hi))
    have := fitC_bd (wt_ok hv3) (vo_ok hv1 (nth_mem hu)) ht
    simpa [tsk] using this
  · have := joinC_bd (wt_ok hv3) (vo_ok hv1 (nth_mem hu)) (vo_ok hv1 (nth_mem hv))
    simpa [tsk] using this
/-- The rest from a target on: no sum is as great as the greatest int. -/
theorem tsk_R {p : List Un} {tgt : List Wan} {x : Wts} (hE : beginE p tgt x = 0) : ∀ (k i : Nat), i + k = tgt.length → 1 ≤ k → (∀ j, i < j → j < tgt.length → idxs p p.length (nth tgt j).phone ≠ []) → ∀ u : Nat, u < p.length → 0 ≤ (tsk p tgt x).R k u ∧ (tsk p tgt x).R k u ≤ 902002000 * k
  | 0, _, _, h, _, _, _ => by omega
  | k + 1, i, hik, _, hne, u, hu => by
    have hb := tsk_bd hE
    have hF := hb.1 i (by omega) u hu
    have eT : (tsk p tgt x).T = tgt.length := rfl
    rw [Tsk.R, eT, show tgt.length - (k + 1) = i by omega]
    by_cases h0 : k = 0
    · subst h0; rw [if_pos rfl]; omega
    · rw [if_neg h0, show tgt.length - k = i + 1 by omega]
      have hmem : ∀ v ∈ (tsk p tgt x).us (i + 1), ∃ m : Nat, v = m ∧ m < p.length := fun v hv => by
        have := TK.idx_mem.1 hv
        exact ⟨v.toNat, by omega, by omega⟩
      have hs : ∀ y ∈ ((tsk p tgt x).us (i + 1)).map (fun v => (tsk p tgt x).J u v + (tsk p tgt x).R k v), 0 ≤ y ∧ y ≤ 800000000 + 902002000 * k := fun y hy => by
        obtain ⟨v, hv, rfl⟩ := List.mem_map.1 hy
        obtain ⟨m, rfl, hm⟩ := hmem v hv
        have h1 := hb.2 u m hu hm
        have h2 := tsk_R hE k (i + 1) (by omega) (by omega) (fun j a b => hne j (by omega) b) m hm
        omega
      have hkT : tgt.length ≤ 500 := (beginE_ok hE).2.1
      have hm := minL_mem (l := ((tsk p tgt x).us (i + 1)).map fun v => (tsk p tgt x).J u v + (tsk p tgt x).R k v) (fun e => hne (i + 1) (by omega) (by omega) (List.map_eq_nil_iff.1 e)) (fun y hy => by have := hs y hy; omega)
      have := hs _ hm
      omega
theorem R_step {p : List Un} {tgt : List Wan} {x : Wts} {i : Nat} (hi : i < tgt.length) (u : Int) : (tsk p tgt x).R (tgt.length - i) u = fitC x (nth p u.toNat) (nth tgt i) + (if i + 1 = tgt.length then 0 else minL ((idxs p p.length (nth tgt (i + 1)).phone).map fun v => (tsk p tgt x).J u v + (tsk p tgt x).R (tgt.length - (i + 1)) v)) := by
  obtain ⟨k, hk⟩ : ∃ k, tgt.length - i = k + 1 := ⟨tgt.length - i - 1, by omega⟩
  rw [hk, Tsk.R]
  have eT : (tsk p tgt x).T = tgt.length := rfl
  rw [eT, show tgt.length - (k + 1) = i by omega, show tgt.length - (i + 1) = k by omega]
  by_cases h0 : k = 0
  · rw [if_pos h0, if_pos (by omega)]; rfl
  · rw [if_neg h0, if_neg (by omega), show tgt.length - k = i + 1 by omega]; rfl
/-- What the reference's least sum is for a row of the certificate. -/
theorem lst_row {p : List Un} {tgt : List Wan} {x : Wts} (hE : beginE p tgt x = 0) {i : Nat} (hi : i + 1 < tgt.length) (hne : ∀ j, i < j → j < tgt.length → idxs p p.length (nth tgt j).phone ≠ []) {u : Nat} (hu : u < p.length) :
    mn ((idxs p p.length (nth tgt (i + 1)).phone).map (lsum x p (rowR p tgt x (i + 1) p.length) u)) = minL ((idxs p p.length (nth tgt (i + 1)).phone).map fun v => (tsk p tgt x).J u v + (tsk p tgt x).R (tgt.length - (i + 1)) v) := by
  have he : (idxs p p.length (nth tgt (i + 1)).phone).map (lsum x p (rowR p tgt x (i + 1) p.length) u) = (idxs p p.length (nth tgt (i + 1)).phone).map fun v => (tsk p tgt x).J u v + (tsk p tgt x).R (tgt.length - (i + 1)) v := by
    apply List.map_congr_left
    intro v hv
    have hm := TK.idx_mem.1 hv
    have e : (v.toNat : Int) = v := by omega
    rw [lsum, rowR_nth (by omega), if_pos ⟨by omega, by rw [e]; exact hv⟩, jz, if_pos (by omega), e]
    have : (tsk p tgt x).J u v = joinC x (nth p ((u : Nat) : Int).toNat) (nth p v.toNat) := rfl
    rw [this]; omega
  rw [he, minL_mn]
  · simpa using hne (i + 1) (by omega) hi
  · intro y hy
    obtain ⟨v, hv, rfl⟩ := List.mem_map.1 hy
    have hm := TK.idx_mem.1 hv
    have e : (v.toNat : Int) = v := by omega
    have h1 := (tsk_bd hE).2 u v.toNat hu (by omega)
    have h2 := tsk_R hE (tgt.length - (i + 1)) (i + 1) (by omega) (by omega) (fun j a b => hne j (by omega) b) v.toNat (by omega)
    rw [e] at h1 h2
    have hkT : tgt.length ≤ 500 := (beginE_ok hE).2.1
    omega
structure CX where
  G : List (SlV × List Int)
theorem perm_r2 {α : Type} {R O B : α} {T : List α} : (R :: B :: O :: T).Perm (B :: O :: R :: T) := (List.Perm.swap B R _).trans (.cons B (.swap O R T))
theorem poss_no {p : List Un} {tgt : List Wan} {i : Nat} (hi : i < tgt.length) (h : idxs p p.length (nth tgt i).phone = []) : possP p tgt = false := List.all_eq_false.2 ⟨i, by simpa using hi, by simp [h]⟩
theorem poss_yes {p : List Un} {tgt : List Wan} : possP p tgt = true ↔ ∀ j, j < tgt.length → idxs p p.length (nth tgt j).phone ≠ [] := by simp [possP]
set_option maxHeartbeats 1000000 in
theorem refCert_spec (sp tp : SlV) (p : List Un) (tgt : List Wan) (x : Wts) (w : World) (hvo : VoRd w sp p) (htp : Stb w [] (RdL tp.v tgt)) (hE : beginE p tgt x = 0) :
    Calls Tryz.prog 21 #[sp.v, tp.v, val x] w fun e w' => ∃ y : SlV × List (SlV × List Int), e = .returned (.tuple #[y.1.v, .bool (possP p tgt)]) ∧ (possP p tgt = true → y.2.map Prod.snd = (List.range tgt.length).map fun i => rowR p tgt x i p.length) ∧ Cl w [] (if possP p tgt = true then ownL 28 y.1.v (y.2.map Prod.fst) :: y.2.map rowG else []) w' := by
  have hvl := hvo.l
  have hL := rd_len hvl.here
  obtain ⟨m1, m2, hv1, hv2, hv3⟩ := beginE_ok hE
  refine calls_cw (vs := [_, _, _]) Tryz.func21 rfl Tryz.ntmps21 rfl (Cl.start0 w) (cw_seq (cw_region ?_))
  refine sw_x rfl rfl rfl (e_box rfl rfl rfl) (fun b5 => ?_)
  refine sr rfl rfl rfl ((q_assign rfl rfl)) (sr rfl rfl rfl ((q_assign rfl rfl)) (sw_nil (post_then (cw_seq (cw_region (sr rfl rfl rfl ((q_move rfl rfl)) ?_))))))
  refine sr rfl rfl rfl ((q_len rfl (.cons rfl inferInstance (.nil)) (by exact fun w hw => Stb.cl (by assumption) hw))) ?_
  refine sw_x rfl rfl rfl (e_make (α := SlV) (zero := ⟨none, 0, 0⟩) rfl rfl rfl rfl rfl (by omega) (by omega) (by decide)) (fun s14 => ?_)
  rw [Int.toNat_natCast]
  refine sr rfl rfl rfl ((q_assign rfl rfl)) (sw_nil (post_then (cw_seq (cw_seq (cw_region (sr rfl rfl rfl ((q_move rfl rfl)) ?_))))))
  refine sr rfl rfl rfl ((q_len rfl (.cons rfl inferInstance (.nil)) (by exact fun w hw => Stb.cl (by assumption) hw))) ?_
  refine sr rfl rfl rfl ((q_sub rfl rfl rfl (by intro hc; omega))) ?_
  refine sr rfl rfl rfl ((q_assign rfl rfl)) (sw_nil (post_then (cw_block ?_)))
  refine cw_loop (S := CX) (fun y => [(0, [], sp.v), (1, [], tp.v), (5, [], .pointer (some ⟨b5, 0, none⟩)), (8, [], s14.v), (9, [], .int .i64 ((tgt.length : Int) - y.G.length - 1))]) (fun y => Cl w [] (ownL 28 s14.v (endsL tgt.length y.G) :: blk b5 (enc x) 25 :: y.G.map rowG)) (fun y => y.G.length ≤ tgt.length ∧ (∀ j, j < y.G.length → (nth y.G j).2 = rowR p tgt x (tgt.length - y.G.length + j) p.length) ∧ ∀ j, tgt.length - y.G.length ≤ j → j < tgt.length → idxs p p.length (nth tgt j).phone ≠ []) (fun y => tgt.length - y.G.length) ⟨[]⟩ ⟨Nat.zero_le _, fun j hj => by simp at hj, fun j a b => by simp at a; omega⟩ ?_ ?_ ?_
  · exact Le.cons rfl (Le.cons rfl (Le.cons rfl (Le.cons rfl (Le.cons' rfl (by first | rfl | (congr 1; simp)) Le.nil))))
  · intro w' hw
    have e0 : endsL tgt.length [] = List.replicate tgt.length ⟨none, 0, 0⟩ := by simp [endsL]
    simp only [List.map_nil, e0]
    exact hw
  rintro ⟨G⟩ ⟨hG, hrows, hne⟩
  dsimp only at hG hrows hne ⊢
  refine cw_seq (cw_seq (cw_region (sr rfl rfl rfl ((q_move rfl rfl)) (sr rfl rfl rfl ((q_geq rfl rfl rfl)) (sw_nil (post_then ?_))))))
  refine cw_cond rfl (fun h => ?_) (fun h => ?_)
  · skip
    have hG' : G.length < tgt.length := by simp only [decide_eq_true_eq] at h; omega
    obtain ⟨i, hie⟩ : ∃ i, tgt.length - G.length - 1 = i := ⟨_, rfl⟩
    have ei : ((tgt.length : Int) - G.length - 1) = (i : Int) := by omega
    have hi : i < tgt.length := by omega
    rw [ei]
    have hel := endsL_len (m := tgt.length) (G := G) (by omega)
    have ho := wa_ok (List.all_eq_true.1 hv2 _ (nth_mem hi))
    refine cw_skip (post_then (cw_seq (cw_block (cw_seq (cw_region (sr rfl rfl rfl ((q_move rfl rfl)) (sr rfl rfl rfl ((q_move rfl rfl)) (sr rfl rfl rfl ((q_move rfl rfl)) ?_))))))))
    refine sr rfl rfl rfl ((q_len rfl (.cons rfl inferInstance (.nil)) (by exact fun w hw => Stb.cl (by assumption) hw))) ?_
    refine sw_x rfl rfl rfl (e_make (α := Int) (zero := 0) rfl rfl rfl rfl rfl (by omega) (by omega) (by decide)) (fun s26 => ?_)
    rw [Int.toNat_natCast, rowR_zero p tgt x i]
    refine sr rfl rfl rfl ((q_indexN rfl rfl rfl (by exact fun w hw => rd_own hw (by exact .tail _ (.head _))) (by intro hc; omega))) ?_
    refine sw_eff0 rfl rfl (e_storeEl1 (i := 1) rfl rfl rfl rfl rfl (by omega)) ?_
    refine sw_nil (post_then (cw_seq (cw_region (sr rfl rfl rfl ((q_assign rfl rfl)) (sw_nil (post_then (cw_seq (cw_seq (cw_region (sr rfl rfl rfl ((q_assign rfl rfl)) (sw_nil (post_then (cw_block ?_)))))))))))))
    have hset : (endsL tgt.length G).set i s26 = endsL tgt.length ((s26, rowR p tgt x i p.length) :: G) := by rw [← hie]; exact endsL_set hG' (s26, rowR p tgt x i p.length)
    have hel2 : ((endsL tgt.length G).set i s26).length = tgt.length := by rw [List.length_set, hel]
    have hrow : nth ((endsL tgt.length G).set i s26) i = s26 := by rw [nth_setP _ _ _ _ (by omega), if_pos rfl]
    generalize hcv : (endsL tgt.length G).set i s26 = cv at hset hel2 hrow ⊢
    refine cw_loop (S := Nat) (fun u => [(0, [], sp.v), (1, [], tp.v), (5, [], .pointer (some ⟨b5, 0, none⟩)), (8, [], s14.v), (9, [], .int .i64 i), (10, [], .bool (!(idxs p u (nth tgt i).phone).isEmpty)), (11, [], .int .i64 u)]) (fun u => Cl w [] (ownL 3 s26.v (rowR p tgt x i u) :: ownL 28 s14.v cv :: blk b5 (enc x) 25 :: G.map rowG)) (fun u => u ≤ p.length) (fun u => p.length - u) 0 (Nat.zero_le _) (by exact .cons rfl (.cons rfl (.cons rfl (.cons rfl (.cons rfl (.cons rfl (.cons rfl .nil))))))) (fun _ h => h) ?_
    intro u hu
    have hss := idxs_succ p u (nth tgt i).phone
    have hrl := rowR_len p tgt x i u
    refine cw_seq (cw_seq (cw_region (sr rfl rfl rfl ((q_move rfl rfl)) (sr rfl rfl rfl ((q_move rfl rfl)) ?_))))
    refine sr rfl rfl rfl ((q_len rfl (.cons rfl inferInstance (.nil)) (by exact fun w hw => Stb.cl (by assumption) hw))) ?_
    refine sr rfl rfl rfl ((q_lss rfl rfl rfl)) (sw_nil (post_then ?_))
    refine cw_cond rfl (fun h2 => ?_) (fun h2 => ?_)
    · skip
      have hu' : u < p.length := by simp only [decide_eq_true_eq] at h2; omega
      refine cw_skip (post_then (cw_seq (cw_block (cw_seq (cw_seq ?_)))))
      refine cw_region_q mixed_Tryz (by kernel_rfl) ?_
      refine qr rfl rfl rfl ((q_move rfl rfl)) (qr rfl rfl rfl ((q_move rfl rfl)) ?_)
      refine qr rfl rfl rfl ((q_indexN rfl rfl rfl (by exact fun w hw => Stb.cl (by assumption) hw) (by intro hc; omega))) ?_
      refine qr rfl rfl rfl ((q_fieldEl rfl rfl (by exact fun w hw => Stb.cl (by assumption) hw) (by intro hc; omega))) ?_
      refine qr rfl rfl rfl ((q_loadF rfl rfl rfl (by exact fun w hw => Stb.cl (by assumption) hw) (by intro hc; omega) rfl)) ?_
      refine qr rfl rfl rfl ((q_move rfl rfl)) (qr rfl rfl rfl ((q_move rfl rfl)) ?_)
      refine qr rfl rfl rfl ((q_indexN rfl rfl rfl (by exact fun w hw => Stb.cl (by assumption) hw) (by intro hc; omega))) ?_
      refine qr rfl rfl rfl ((q_fieldEl rfl rfl (by exact fun w hw => Stb.cl (by assumption) hw) (by intro hc; omega))) ?_
      refine qr rfl rfl rfl ((q_loadF rfl rfl rfl (by exact fun w hw => Stb.cl (by assumption) hw) (by intro hc; omega) rfl)) ?_
      refine qr rfl rfl rfl ((q_neqStr rfl rfl rfl Tryz.underlying9)) (qw_end (post_then ?_))
      refine cw_cond rfl (fun h3 => ?_) (fun h3 => ?_)
      · skip
        have h4 : ¬ (nth p u).phone = (nth tgt i).phone := by simpa using h3
        rw [if_neg h4, List.append_nil] at hss
        refine cw_exit (post_then_x (post_blk_eq (post_then (cw_region (sr rfl rfl rfl ((q_move rfl rfl)) ?_)))))
        refine sr rfl rfl rfl ((q_add rfl rfl rfl (by intro hc; omega))) ?_
        refine sr rfl rfl rfl ((q_assign rfl rfl)) (sw_nil ?_)
        refine post_next (u + 1) ?_ (fun w3 hw3 => ?_) (by omega) (by omega)
        · simp only [hss]
          exact (by exact .cons rfl (.cons rfl (.cons rfl (.cons rfl (.cons rfl (.cons rfl (.cons rfl .nil)))))))
        · rw [rowR_skip h4]; exact hw3
      · skip
        have h4 : (nth p u).phone = (nth tgt i).phone := by simpa using h3
        rw [if_pos h4] at hss
        have hne2 : (idxs p (u + 1) (nth tgt i).phone).isEmpty = false := by rw [hss]; simp
        have hbf := fitC_bd (wt_ok hv3) (vo_ok hv1 (nth_mem hu')) ho
        refine cw_skip (post_then (cw_seq (cw_region (sr rfl rfl rfl ((q_assign rfl rfl)) (sw_nil (post_then (cw_seq (cw_region_a (Cl w [] [ownL 3 s26.v (rowR p tgt x i u), ownL 28 s14.v cv, blk b5 (enc x) 25]) [16] mixed_Tryz ?_))))))))
        refine aw_pure 0 rfl (by kernel_rfl) (by kernel_rfl) (by kernel_rfl) (by kernel_rfl) (by kernel_rfl) rfl rfl rfl (q_move rfl rfl) ?_
        refine aw_pure 1 rfl (by kernel_rfl) (by kernel_rfl) (by kernel_rfl) (by kernel_rfl) (by kernel_rfl) rfl rfl rfl (q_move rfl rfl) ?_
        refine aw_take 2 (fun w h => Cl.sel (by exact .take 0 rfl (.take 0 rfl (.take 0 rfl (.nil _)))) w h) rfl (by kernel_rfl) (by kernel_rfl) (by kernel_rfl) (by kernel_rfl) (by kernel_rfl) (by kernel_rfl) rfl rfl rfl (q_indexN rfl rfl rfl (by exact fun w hw => rd_own hw (by exact .tail _ (.head _))) (by intro hc; omega)) ?_
        refine aw_pure 4 rfl (by kernel_rfl) (by kernel_rfl) (by kernel_rfl) (by kernel_rfl) (by kernel_rfl) rfl rfl rfl (q_move rfl rfl) ?_
        refine aw_pure 5 rfl (by kernel_rfl) (by kernel_rfl) (by kernel_rfl) (by kernel_rfl) (by kernel_rfl) rfl rfl rfl (q_move rfl rfl) ?_
        refine aw_pure 6 rfl (by kernel_rfl) (by kernel_rfl) (by kernel_rfl) (by kernel_rfl) (by kernel_rfl) rfl rfl rfl (q_move rfl rfl) ?_
        refine aw_take 7 (fun w h => Cl.sel (by exact .take 0 rfl (.take 0 rfl (.take 0 rfl (.nil _)))) w h) rfl (by kernel_rfl) (by kernel_rfl) (by kernel_rfl) (by kernel_rfl) (by kernel_rfl) (by kernel_rfl) rfl rfl rfl (q_indexN rfl rfl rfl (by exact fun w hw => Stb.cl (by assumption) hw) (by intro hc; omega)) ?_
        refine aw_take 8 (fun w h => Cl.sel (by exact .take 0 rfl (.take 0 rfl (.take 0 rfl (.nil _)))) w h) rfl (by kernel_rfl) (by kernel_rfl) (by kernel_rfl) (by kernel_rfl) (by kernel_rfl) (by kernel_rfl) rfl rfl rfl (q_loadEl rfl rfl rfl (by exact fun w hw => Stb.cl (by assumption) hw) (by intro hc; omega)) ?_
        refine aw_pure 9 rfl (by kernel_rfl) (by kernel_rfl) (by kernel_rfl) (by kernel_rfl) (by kernel_rfl) rfl rfl rfl (q_move rfl rfl) ?_
        refine aw_pure 10 rfl (by kernel_rfl) (by kernel_rfl) (by kernel_rfl) (by kernel_rfl) (by kernel_rfl) rfl rfl rfl (q_move rfl rfl) ?_
        refine aw_take 11 (fun w h => Cl.sel (by exact .take 0 rfl (.take 0 rfl (.take 0 rfl (.nil _)))) w h) rfl (by kernel_rfl) (by kernel_rfl) (by kernel_rfl) (by kernel_rfl) (by kernel_rfl) (by kernel_rfl) rfl rfl rfl (q_indexN rfl rfl rfl (by exact fun w hw => Stb.cl (by assumption) hw) (by intro hc; omega)) ?_
        refine aw_take 12 (fun w h => Cl.sel (by exact .take 0 rfl (.take 0 rfl (.take 0 rfl (.nil _)))) w h) rfl (by kernel_rfl) (by kernel_rfl) (by kernel_rfl) (by kernel_rfl) (by kernel_rfl) (by kernel_rfl) rfl rfl rfl (q_loadEl rfl rfl rfl (by exact fun w hw => Stb.cl (by assumption) hw) (by intro hc; omega)) ?_
        refine aw_take 13 (fun w h => Cl.sel (by exact .take 0 rfl (.take 0 rfl (.take 0 rfl (.nil _)))) w h) rfl (by kernel_rfl) (by kernel_rfl) (by kernel_rfl) (by kernel_rfl) (by kernel_rfl) (by kernel_rfl) rfl rfl rfl (q_loadA rfl rfl (by exact .tail _ (.tail _ (.head _))) rfl) ?_
        refine aw_take 3 (fun w h => Cl.sel (by exact .take 0 rfl (.take 0 rfl (.take 0 rfl (.nil _)))) w h) rfl (by kernel_rfl) (by kernel_rfl) (by kernel_rfl) (by kernel_rfl) (by kernel_rfl) (by kernel_rfl) rfl rfl rfl (q_loadElY hrow rfl rfl rfl (by exact fun w hw => rd_own hw (by exact .tail _ (.head _))) (by intro hc; omega)) ?_
        refine aw_q 14 (by kernel_rfl) rfl rfl rfl rfl (q_call (CanCall.mk Tryz.call49) rfl (.cons rfl inferInstance (.cons rfl inferInstance (.cons rfl inferInstance (.nil)))) (fun _ w hw => callq hw (refTarget_spec (nth p u) (nth tgt i) x w (vo_ok hv1 (nth_mem hu')) ho (wt_ok hv3)))) (by intro hb; exact (fun w h => Cl.sel (by exact .take 0 rfl (.take 0 rfl (.take 0 rfl (.nil _)))) w h)) ?_
        refine aw_take 15 (fun w h => Cl.sel (by exact .take 0 rfl (.take 0 rfl (.take 0 rfl (.nil _)))) w h) rfl (by kernel_rfl) (by kernel_rfl) (by kernel_rfl) (by kernel_rfl) (by kernel_rfl) (by kernel_rfl) rfl rfl rfl (q_indexN rfl rfl rfl (by exact fun w hw => rd_own hw (by exact .head _)) (by intro hc; omega)) ?_
        refine aw_one0 16 (by kernel_rfl) rfl rfl rfl (e_storeEl1 (i := 0) rfl rfl rfl rfl rfl (by omega)) (by intro hb; (exact absurd hb (by decide))) ?_
        refine aw_end (by kernel_rfl) ?_
        refine post_then (cw_seq (cw_region (sr rfl rfl rfl ((q_move rfl rfl)) ?_)))
        refine sr rfl rfl rfl ((q_add rfl rfl rfl (by intro hc; omega))) ?_
        refine sr rfl rfl rfl ((q_move rfl rfl)) ?_
        refine sr rfl rfl rfl ((q_len rfl (.cons rfl inferInstance (.nil)) (by exact fun w hw => Stb.cl (by assumption) hw))) ?_
        refine sr rfl rfl rfl ((q_lss rfl rfl rfl)) (sw_nil (post_then ?_))
        have hRs := R_step (p := p) (x := x) hi (u : Int)
        rw [Int.toNat_natCast] at hRs
        have hrs2 : ((rowR p tgt x i u).set u (fitC x (nth p u) (nth tgt i))).length = p.length := by rw [List.length_set, hrl]
        have hrn : nth ((rowR p tgt x i u).set u (fitC x (nth p u) (nth tgt i))) u = fitC x (nth p u) (nth tgt i) := by rw [nth_setP _ _ _ _ (by omega), if_pos rfl]
        refine cw_cut (S := Unit) (fun _ => [(0, [], sp.v), (1, [], tp.v), (5, [], .pointer (some ⟨b5, 0, none⟩)), (8, [], s14.v), (9, [], .int .i64 i), (10, [], .bool true), (11, [], .int .i64 u)]) (fun _ => Cl w [] (ownL 3 s26.v (rowR p tgt x i (u + 1)) :: ownL 28 s14.v cv :: blk b5 (enc x) 25 :: G.map rowG)) (fun _ => True) ?_ ?_
        · refine cw_cond rfl (fun h5 => ?_) (fun h5 => ?_)
          · skip
            have hi1 : i + 1 < tgt.length := by simp only [decide_eq_true_eq] at h5; omega
            have hg0 : 0 < G.length := by omega
            have hcn : nth cv (i + 1) = (nth G 0).1 := by
              rw [← hcv, nth_setP _ _ _ _ (by omega), if_neg (by omega)]
              have := endsL_nth (m := tgt.length) (G := G) (by omega) (i := 0) (by omega)
              rw [show tgt.length - G.length + 0 = i + 1 by omega] at this
              exact this
            have hg2 : (nth G 0).2 = rowR p tgt x (i + 1) p.length := by
              have := hrows 0 hg0
              rwa [show tgt.length - G.length + 0 = i + 1 by omega] at this
            have hgm : ownL 3 (nth cv (i + 1)).v (rowR p tgt x (i + 1) p.length) ∈ G.map rowG := by
              rw [hcn, ← hg2]
              exact List.mem_map_of_mem (f := rowG) (nth_mem hg0)
            have hnej : ∀ j, i < j → j < tgt.length → idxs p p.length (nth tgt j).phone ≠ [] := fun j a b => hne j (by omega) b
            have hbr : ∀ v : Nat, -4611686018427387904 ≤ nth (rowR p tgt x (i + 1) p.length) v ∧ nth (rowR p tgt x (i + 1) p.length) v ≤ 4611686018427387904 := fun v => by
              by_cases hv : v < p.length
              · rw [rowR_nth hv]
                have := tsk_R hE (tgt.length - (i + 1)) (i + 1) (by omega) (by omega) (fun j a b => hnej j (by omega) b) v hv
                split <;> omega
              · rw [rowR_out hv]; omega
            have hlst := lst_row hE hi1 hnej hu'
            rw [if_neg (by omega)] at hRs
            generalize hmm : minL ((idxs p p.length (nth tgt (i + 1)).phone).map fun v => (tsk p tgt x).J u v + (tsk p tgt x).R (tgt.length - (i + 1)) v) = mm at hRs hlst
            have hRb := tsk_R hE (tgt.length - i) i (by omega) (by omega) (fun j a b => hnej j a b) u hu'
            refine cw_region_a (Cl w [] [ownL 3 s26.v ((rowR p tgt x i u).set u (fitC x (nth p u) (nth tgt i))), ownL 28 s14.v cv, blk b5 (enc x) 25]) [22] mixed_Tryz ?_
            refine aw_pure 0 rfl (by kernel_rfl) (by kernel_rfl) (by kernel_rfl) (by kernel_rfl) (by kernel_rfl) rfl rfl rfl (q_move rfl rfl) ?_
            refine aw_pure 1 rfl (by kernel_rfl) (by kernel_rfl) (by kernel_rfl) (by kernel_rfl) (by kernel_rfl) rfl rfl rfl (q_move rfl rfl) ?_
            refine aw_take 2 (fun w h => Cl.sel (by exact .take 0 rfl (.take 0 rfl (.take 0 rfl (.nil _)))) w h) rfl (by kernel_rfl) (by kernel_rfl) (by kernel_rfl) (by kernel_rfl) (by kernel_rfl) (by kernel_rfl) rfl rfl rfl (q_indexN rfl rfl rfl (by exact fun w hw => rd_own hw (by exact .tail _ (.head _))) (by intro hc; omega)) ?_
            refine aw_pure 4 rfl (by kernel_rfl) (by kernel_rfl) (by kernel_rfl) (by kernel_rfl) (by kernel_rfl) rfl rfl rfl (q_move rfl rfl) ?_
            refine aw_pure 5 rfl (by kernel_rfl) (by kernel_rfl) (by kernel_rfl) (by kernel_rfl) (by kernel_rfl) rfl rfl rfl (q_move rfl rfl) ?_
            refine aw_pure 6 rfl (by kernel_rfl) (by kernel_rfl) (by kernel_rfl) (by kernel_rfl) (by kernel_rfl) rfl rfl rfl (q_move rfl rfl) ?_
            refine aw_take 7 (fun w h => Cl.sel (by exact .take 0 rfl (.take 0 rfl (.take 0 rfl (.nil _)))) w h) rfl (by kernel_rfl) (by kernel_rfl) (by kernel_rfl) (by kernel_rfl) (by kernel_rfl) (by kernel_rfl) rfl rfl rfl (q_indexN rfl rfl rfl (by exact fun w hw => rd_own hw (by exact .tail _ (.head _))) (by intro hc; omega)) ?_
            refine aw_pure 9 rfl (by kernel_rfl) (by kernel_rfl) (by kernel_rfl) (by kernel_rfl) (by kernel_rfl) rfl rfl rfl (q_move rfl rfl) ?_
            refine aw_pure 12 rfl (by kernel_rfl) (by kernel_rfl) (by kernel_rfl) (by kernel_rfl) (by kernel_rfl) rfl rfl rfl (q_move rfl rfl) ?_
            refine aw_pure 13 rfl (by kernel_rfl) (by kernel_rfl) (by kernel_rfl) (by kernel_rfl) (by kernel_rfl) rfl rfl rfl (q_move rfl rfl) ?_
            refine aw_take 14 (fun w h => Cl.sel (by exact .take 0 rfl (.take 0 rfl (.take 0 rfl (.nil _)))) w h) rfl (by kernel_rfl) (by kernel_rfl) (by kernel_rfl) (by kernel_rfl) (by kernel_rfl) (by kernel_rfl) rfl rfl rfl (q_loadA rfl rfl (by exact .tail _ (.tail _ (.head _))) rfl) ?_
            refine aw_pure 15 rfl (by kernel_rfl) (by kernel_rfl) (by kernel_rfl) (by kernel_rfl) (by kernel_rfl) rfl rfl rfl (q_move rfl rfl) ?_
            refine aw_pure 16 rfl (by kernel_rfl) (by kernel_rfl) (by kernel_rfl) (by kernel_rfl) (by kernel_rfl) rfl rfl rfl (q_move rfl rfl) ?_
            refine aw_pure 17 rfl (by kernel_rfl) (by kernel_rfl) (by kernel_rfl) (by kernel_rfl) (by kernel_rfl) rfl rfl rfl (q_add rfl rfl rfl (by intro hc; omega)) ?_
            refine aw_pure 18 rfl (by kernel_rfl) (by kernel_rfl) (by kernel_rfl) (by kernel_rfl) (by kernel_rfl) rfl rfl rfl (q_move rfl rfl) ?_
            refine aw_take 3 (fun w h => Cl.sel (by exact .take 0 rfl (.take 0 rfl (.take 0 rfl (.nil _)))) w h) rfl (by kernel_rfl) (by kernel_rfl) (by kernel_rfl) (by kernel_rfl) (by kernel_rfl) (by kernel_rfl) rfl rfl rfl (q_loadElY hrow rfl rfl rfl (by exact fun w hw => rd_own hw (by exact .tail _ (.head _))) (by intro hc; omega)) ?_
            refine aw_take 8 (fun w h => Cl.sel (by exact .take 0 rfl (.take 0 rfl (.take 0 rfl (.nil _)))) w h) rfl (by kernel_rfl) (by kernel_rfl) (by kernel_rfl) (by kernel_rfl) (by kernel_rfl) (by kernel_rfl) rfl rfl rfl (q_loadElY hrow rfl rfl rfl (by exact fun w hw => rd_own hw (by exact .tail _ (.head _))) (by intro hc; omega)) ?_
            refine aw_take 10 (fun w h => Cl.sel (by exact .take 0 rfl (.take 0 rfl (.take 0 rfl (.nil _)))) w h) rfl (by kernel_rfl) (by kernel_rfl) (by kernel_rfl) (by kernel_rfl) (by kernel_rfl) (by kernel_rfl) rfl rfl rfl (q_indexN rfl rfl rfl (by exact fun w hw => rd_own hw (by exact .head _)) (by intro hc; omega)) ?_
            refine aw_take 11 (fun w h => Cl.sel (by exact .take 0 rfl (.take 0 rfl (.take 0 rfl (.nil _)))) w h) rfl (by kernel_rfl) (by kernel_rfl) (by kernel_rfl) (by kernel_rfl) (by kernel_rfl) (by kernel_rfl) rfl rfl rfl (q_loadElY hrn rfl rfl rfl (by exact fun w hw => rd_own hw (by exact .head _)) (by intro hc; omega)) ?_
            rw [show ((i : Int) + 1) = ((i + 1 : Nat) : Int) by omega]
            refine aw_q 19 (by kernel_rfl) rfl rfl rfl rfl (q_call (v := .int .i64 mm) (CanCall.mk Tryz.call69) rfl (.cons rfl inferInstance (.cons rfl inferInstance (.cons rfl inferInstance (.cons rfl inferInstance (.cons rfl inferInstance (.cons rfl inferInstance (.nil))))))) (fun _ w hw => callq hw (by have := refLst_spec sp tp s14 p tgt x cv (rowR p tgt x (i + 1) p.length) (i + 1) hi1 (by omega) u (by omega) (rowR_len _ _ _ _ _) hbr w (hvo.arg hw) (stb_arg hw htp) (stb_own (e := 28) hw (.tail _ (.head _))) (stb_own (e := 3) hw (.tail _ (.tail _ (.tail _ hgm)))) hE; rw [hlst] at this; exact this))) (by intro hb; exact (fun w h => Cl.sel (by exact .take 0 rfl (.take 0 rfl (.take 0 rfl (.nil _)))) w h)) ?_
            refine aw_pure 20 rfl (by kernel_rfl) (by kernel_rfl) (by kernel_rfl) (by kernel_rfl) (by kernel_rfl) rfl rfl rfl (q_add rfl rfl rfl (by intro hc; omega)) ?_
            refine aw_take 21 (fun w h => Cl.sel (by exact .take 0 rfl (.take 0 rfl (.take 0 rfl (.nil _)))) w h) rfl (by kernel_rfl) (by kernel_rfl) (by kernel_rfl) (by kernel_rfl) (by kernel_rfl) (by kernel_rfl) rfl rfl rfl (q_indexN rfl rfl rfl (by exact fun w hw => rd_own hw (by exact .head _)) (by intro hc; omega)) ?_
            refine aw_one0 22 (by kernel_rfl) rfl rfl rfl (e_storeEl1 (i := 0) rfl rfl rfl rfl rfl (by omega)) (by intro hb; (exact absurd hb (by decide))) ?_
            refine aw_end (by kernel_rfl) ?_
            refine post_meet () (by exact .cons rfl (.cons rfl (.cons rfl (.cons rfl (.cons rfl (.cons rfl (.cons rfl .nil))))))) (fun w3 hw3 => ?_) trivial
            rw [← rowR_take hu' h4, hRs]
            have e5 : ((rowR p tgt x i u).set u (fitC x (nth p u) (nth tgt i))).set u (fitC x (nth p u) (nth tgt i) + mm) = (rowR p tgt x i u).set u (fitC x (nth p u) (nth tgt i) + mm) := by rw [List.set_set]
            rw [← e5]
            exact hw3
          · skip
            have hi1 : i + 1 = tgt.length := by simp only [decide_eq_false_iff_not] at h5; omega
            rw [if_pos hi1, Int.add_zero] at hRs
            refine cw_skip ?_
            refine post_meet () (by exact .cons rfl (.cons rfl (.cons rfl (.cons rfl (.cons rfl (.cons rfl (.cons rfl .nil))))))) (fun w3 hw3 => ?_) trivial
            rw [← rowR_take hu' h4, hRs]
            exact hw3
        · intro _ _
          refine post_blk (post_then (cw_region (sr rfl rfl rfl ((q_move rfl rfl)) ?_)))
          refine sr rfl rfl rfl ((q_add rfl rfl rfl (by intro hc; omega))) ?_
          refine sr rfl rfl rfl ((q_assign rfl rfl)) (sw_nil ?_)
          refine post_next (u + 1) ?_ (fun _ h => h) (by omega) (by omega)
          simp only [hne2]
          exact (by exact .cons rfl (.cons rfl (.cons rfl (.cons rfl (.cons rfl (.cons rfl (.cons rfl .nil)))))))
    · skip
      have hu' : u = p.length := by simp only [decide_eq_false_iff_not] at h2; omega
      subst hu'
      refine cw_exit (post_then_x (post_then_x (post_blk_eq (post_then (cw_seq (cw_region (sr rfl rfl rfl ((q_move rfl rfl)) (sr rfl rfl rfl ((q_not rfl rfl)) (sw_nil (post_then ?_))))))))))
      refine cw_cond rfl (fun h3 => ?_) (fun h3 => ?_)
      · skip
        have h4 : idxs p p.length (nth tgt i).phone = [] := by simpa using h3
        have hP := poss_no hi h4
        refine cw_seq (cw_region (sr rfl rfl rfl ((q_assign rfl rfl)) (sr rfl rfl rfl ((q_assign rfl rfl)) (sw_nil (post_then (cw_ret (post_blk_r (post_then_r (post_then_r (post_blk_r (post_then_r (post_ret2 rfl (resOk_tmp rfl) (resOk_tmp rfl) ?_))))))))))))
        exact fun w' hw => ⟨(⟨none, 0, 0⟩, []), by rw [hP]; rfl, by rw [hP]; simp, by rw [hP, if_neg (by simp)]; exact (fun w h => Cl.sel (by exact .nil _) w h) _ hw⟩
      · skip
        have h4 : idxs p p.length (nth tgt i).phone ≠ [] := by simpa using h3
        refine cw_skip (post_blk (post_then (cw_region (sr rfl rfl rfl ((q_move rfl rfl)) ?_))))
        refine sr rfl rfl rfl ((q_sub rfl rfl rfl (by intro hc; omega))) ?_
        refine sr rfl rfl rfl ((q_assign rfl rfl)) (sw_nil ?_)
        refine post_next ⟨(s26, rowR p tgt x i p.length) :: G⟩ ?_ (fun w3 hw3 => ?_) ⟨by simp only [List.length_cons]; omega, fun j hj => ?_, fun j a b => ?_⟩ (by simp only [List.length_cons]; omega)
        · exact Le.cons rfl (Le.cons rfl (Le.cons rfl (Le.cons rfl (Le.cons' rfl (by congr 1; simp only [List.length_cons]; omega) Le.nil))))
        · rw [hset] at hw3
          exact hw3.perm ((List.Perm.swap _ _ _).trans (.cons _ (.swap _ _ _)))
        · simp only [List.length_cons] at hj ⊢
          cases j with
          | zero =>
            have e0 : nth ((s26, rowR p tgt x i p.length) :: G) 0 = (s26, rowR p tgt x i p.length) := rfl
            rw [e0, show tgt.length - (G.length + 1) + 0 = i by omega]
          | succ j =>
            have e0 : nth ((s26, rowR p tgt x i p.length) :: G) (j + 1) = nth G j := rfl
            rw [e0, hrows j (by omega), show tgt.length - (G.length + 1) + (j + 1) = tgt.length - G.length + j by omega]
        · simp only [List.length_cons] at a
          by_cases e : j = i
          · subst e; exact h4
          · exact hne j (by omega) b
  · skip
    have hGT : G.length = tgt.length := by simp only [decide_eq_false_iff_not] at h; omega
    have hP : possP p tgt = true := poss_yes.2 fun j hj => hne j (by omega) hj
    refine cw_exit (post_then_x (post_then_x (post_blk_eq (post_then (cw_seq (cw_region (sr rfl rfl rfl ((q_move rfl rfl)) (sr rfl rfl rfl ((q_assign rfl rfl)) (sr rfl rfl rfl ((q_assign rfl rfl)) (sw_nil (post_then (cw_ret (post_ret2 rfl (resOk_tmp rfl) (resOk_tmp rfl) ?_)))))))))))))
    refine fun w' hw => ⟨(s14, G), by rw [hP], fun _ => ?_, ?_⟩
    · apply List.ext_getElem
      · simp [hGT]
      · intro j a b
        have := hrows j (by simpa using a)
        rw [nth_get (by simpa using a), show tgt.length - G.length + j = j by omega] at this
        simpa using this
    · rw [if_pos hP]
      have e0 : endsL tgt.length G = G.map Prod.fst := by simp [endsL, hGT]
      rw [e0] at hw
      exact (hw.perm (.swap _ _ _)).tail
end Go.Proofs.YtomjbfeafodfbaaGreat

set_option autoImplicit false
set_option maxRecDepth 100000
namespace Go.Proofs.YtomjbfeafodfbaaGreat
open Go.Sx
open Enc (enc val)
def lz (o : Option Int) : Int := o.getD (-1)
theorem jn_jz {p : List Un} {tgt : List Wan} {x : Wts} {o : Option Int} (h : ∀ u, o = some u → 0 ≤ u) (v : Int) : (tsk p tgt x).jn o v = jz x p (lz o) v := by
  cases o with
  | none => simp [Tsk.jn, jz, lz]
  | some u => have := h u rfl; exact (if_pos (c := 0 ≤ u) this).symm
theorem idx_nat {p : List Un} {c : ByteArray} {v : Int} (h : v ∈ idxs p p.length c) : ∃ m : Nat, v = m ∧ m < p.length := by
  have := TK.idx_mem.1 h
  exact ⟨v.toNat, by omega, by omega⟩
/-- What the least sum is, for a beginning. -/
theorem lst_mi {p : List Un} {tgt : List Wan} {x : Wts} (hE : beginE p tgt x = 0) {i : Nat} (hi : i < tgt.length) (hne : ∀ j, j < tgt.length → idxs p p.length (nth tgt j).phone ≠ []) {o : Option Int} (ho : ∀ u, o = some u → 0 ≤ u ∧ u < p.length) :
    mn ((idxs p p.length (nth tgt i).phone).map (lsum x p (rowR p tgt x i p.length) (lz o))) = (tsk p tgt x).mi (tgt.length - i) o := by
  have hus : (tsk p tgt x).us ((tsk p tgt x).T - (tgt.length - i)) = idxs p p.length (nth tgt i).phone := by
    have : (tsk p tgt x).T = tgt.length := rfl
    rw [this, show tgt.length - (tgt.length - i) = i by omega]; rfl
  have he : (idxs p p.length (nth tgt i).phone).map (lsum x p (rowR p tgt x i p.length) (lz o)) = (idxs p p.length (nth tgt i).phone).map fun v => (tsk p tgt x).jn o v + (tsk p tgt x).R (tgt.length - i) v := by
    apply List.map_congr_left
    intro v hv
    obtain ⟨m, rfl, hm⟩ := idx_nat hv
    rw [lsum, Int.toNat_natCast, rowR_nth hm, if_pos ⟨by omega, hv⟩, ← jn_jz (p := p) (tgt := tgt) (x := x) (fun u hu => (ho u hu).1)]
    omega
  rw [he, Tsk.mi, hus, minL_mn]
  · simpa using hne i hi
  · intro y hy
    obtain ⟨v, hv, rfl⟩ := List.mem_map.1 hy
    obtain ⟨m, rfl, hm⟩ := idx_nat hv
    have h2 := tsk_R hE (tgt.length - i) i (by omega) (by omega) (fun j a b => hne j b) m hm
    have hkT : tgt.length ≤ 500 := (beginE_ok hE).2.1
    obtain ⟨_, _, hv1, _, hv3⟩ := beginE_ok hE
    have h3 : 0 ≤ (tsk p tgt x).jn o m ∧ (tsk p tgt x).jn o m ≤ 800000000 := by
      rw [jn_jz (fun u hu => (ho u hu).1)]
      refine jz_bd hv1 hv3 ?_ hm
      cases o with
      | none => simp [lz]; omega
      | some u => exact (ho u rfl).2
    omega
theorem find_rise {l : List Int} (hl : l.Pairwise (· < ·)) {q : Int → Bool} {v : Int} (hv : v ∈ l) (hp : q v = true) (hn : ∀ u ∈ l, u < v → q u = false) : l.find? q = some v := by
  induction l with
  | nil => simp at hv
  | cons y r ih =>
    have hq := List.pairwise_cons.1 hl
    rw [List.find?_cons]
    rcases List.mem_cons.1 hv with rfl | hv'
    · rw [hp]
    · rw [hn y (by simp) (hq.1 v hv')]
      exact ih hq.2 hv' (fun u hu => hn u (by simp [hu]))
theorem idxs_rise (p : List Un) (c : ByteArray) : ∀ k, (idxs p k c).Pairwise (· < ·)
  | 0 => by simp [idxs]
  | k + 1 => by
    rw [idxs_succ]
    refine List.pairwise_append.2 ⟨idxs_rise p c k, ?_, fun a ha b hb => ?_⟩
    · split <;> simp
    · split at hb
      · simp only [List.mem_singleton] at hb
        have := (TK.idx_mem.1 ha).2.1
        omega
      · simp at hb
theorem gr_step {t : Tsk} {k : Nat} {o : Option Int} {v : Int} (hr : t.Rise) (hv : v ∈ t.us (t.T - (k + 1))) (h : t.jn o v + t.R (k + 1) v = t.mi (k + 1) o) (hn : ∀ u ∈ t.us (t.T - (k + 1)), u < v → t.jn o u + t.R (k + 1) u ≠ t.mi (k + 1) o) : t.gr (k + 1) o = v :: t.gr k (some v) := by
  rw [Tsk.gr, find_rise (hr _) hv (by simpa using h) (fun u hu hlt => by simpa using hn u hu hlt)]
structure CR where
  q : Sq
  i : Nat
  o : Option Int
set_option maxHeartbeats 1000000 in
theorem refChoose_spec (sp tp sc : SlV) (p : List Un) (tgt : List Wan) (x : Wts) (cv : List SlV) (hcl : cv.length = tgt.length) (w : World) (hvo : VoRd w sp p) (htp : Stb w [] (RdL tp.v tgt)) (hcv : Stb w [] (RdL sc.v cv)) (hrw : ∀ i, i < tgt.length → Stb w [] (RdL (nth cv i).v (rowR p tgt x i p.length))) (hE : beginE p tgt x = 0) (hP : possP p tgt = true) :
    Calls Tryz.prog 22 #[sp.v, tp.v, val x, sc.v] w fun e w' => ∃ q : Sq, e = .returned (val q) ∧ (q.ul = (tsk p tgt x).gr tgt.length none ∧ q.cost = if tgt.length = 0 then 0 else (tsk p tgt x).mi tgt.length none) ∧ Cl w [] [ownL 3 q.us.v q.ul] w' := by
  have hvl := hvo.l
  have hL := rd_len hvl.here
  obtain ⟨m1, m2, hv1, hv2, hv3⟩ := beginE_ok hE
  have hne := poss_yes.1 hP
  have eT : (tsk p tgt x).T = tgt.length := rfl
  have hrise : (tsk p tgt x).Rise := fun i => idxs_rise p _ p.length
  refine calls_cw (vs := [_, _, _, _]) Tryz.func22 rfl Tryz.ntmps22 rfl (Cl.start0 w) (cw_seq (cw_region ?_))
  refine sw_x rfl rfl rfl (e_box rfl rfl rfl) (fun b6 => ?_)
  refine sw_x rfl rfl rfl (e_alloc rfl) (fun b8 => ?_)
  refine sw_nil (post_then (cw_seq (cw_region ?_)))
  refine sw_x rfl rfl rfl (e_alloc rfl) (fun b9 => ?_)
  refine sw_nil (post_then (cw_seq (cw_region (sr rfl rfl rfl ((q_assign rfl rfl)) (sw_nil (post_then (cw_seq (cw_seq (cw_region (sr rfl rfl rfl ((q_assign rfl rfl)) (sw_nil (post_then (cw_block ?_)))))))))))))
  refine cw_loop (S := CR) (fun y => [(0, [], sp.v), (1, [], tp.v), (3, [], sc.v), (6, [], .pointer (some ⟨b6, 0, none⟩)), (8, [], .pointer (some ⟨b8, 0, none⟩)), (9, [], .pointer (some ⟨b9, 0, none⟩)), (10, [], .int .i64 (lz y.o)), (11, [], .int .i64 y.i)]) (fun y => Cl w [] [blk b9 (enc y.q) 30, blk b8 (enc (⟨⟨none, 0, 0⟩, 0, []⟩ : Sq)) 30, blk b6 (enc x) 25, ownL 3 y.q.us.v y.q.ul]) (fun y => y.i ≤ tgt.length ∧ y.q.ul.length = y.i ∧ y.q.ul ++ (tsk p tgt x).gr (tgt.length - y.i) y.o = (tsk p tgt x).gr tgt.length none ∧ (∀ u, y.o = some u → 0 ≤ u ∧ u < p.length ∧ 1 ≤ y.i ∧ u ∈ (tsk p tgt x).us (y.i - 1)) ∧ (y.i = 0 → y.o = none) ∧ y.q.cost = if y.i = 0 then 0 else (tsk p tgt x).mi tgt.length none) (fun y => tgt.length - y.i) ⟨⟨⟨none, 0, 0⟩, 0, []⟩, 0, none⟩ ⟨Nat.zero_le _, rfl, by simp, fun u (h : none = some u) => (nomatch h), fun _ => rfl, rfl⟩ (by exact .cons rfl (.cons rfl (.cons rfl (.cons rfl (.cons rfl (.cons rfl (.cons rfl (.cons rfl .nil)))))))) (fun w' h => (h.addNil (α := Int) 3).perm ((List.Perm.swap _ _ _).trans (.cons _ ((List.Perm.swap _ _ _).trans (.cons _ (.swap _ _ _)))))) ?_
  rintro ⟨q, i, o⟩ ⟨hi, hql, hgr, ho, ho0, hc⟩
  dsimp only at hi hql hgr ho ho0 hc ⊢
  refine cw_seq (cw_seq (cw_region (sr rfl rfl rfl ((q_move rfl rfl)) (sr rfl rfl rfl ((q_move rfl rfl)) ?_))))
  refine sr rfl rfl rfl ((q_len rfl (.cons rfl inferInstance (.nil)) (by exact fun w hw => Stb.cl (by assumption) hw))) ?_
  refine sr rfl rfl rfl ((q_lss rfl rfl rfl)) (sw_nil (post_then ?_))
  refine cw_cond rfl (fun h => ?_) (fun h => ?_)
  · skip
    have hi' : i < tgt.length := by simp only [decide_eq_true_eq] at h; omega
    have ho2 : ∀ u, o = some u → 0 ≤ u ∧ u < p.length := fun u hu => ⟨(ho u hu).1, (ho u hu).2.1⟩
    have hlz : -1 ≤ lz o ∧ lz o < p.length := by
      cases o with
      | none => simp [lz]; omega
      | some u => have := ho2 u rfl; simp only [lz, Option.getD_some]; omega
    have hbr : ∀ v : Nat, -4611686018427387904 ≤ nth (rowR p tgt x i p.length) v ∧ nth (rowR p tgt x i p.length) v ≤ 4611686018427387904 := fun v => by
      by_cases hv : v < p.length
      · rw [rowR_nth hv]
        have := tsk_R hE (tgt.length - i) i (by omega) (by omega) (fun j a b => hne j b) v hv
        split <;> omega
      · rw [rowR_out hv]; omega
    have hmi := lst_mi hE hi' hne ho2
    refine cw_skip (post_then (cw_seq (cw_block (cw_seq (cw_region (sr rfl rfl rfl ((q_move rfl rfl)) (sr rfl rfl rfl ((q_move rfl rfl)) ?_)))))))
    refine sr rfl rfl rfl ((q_loadA rfl rfl (by exact .tail _ (.tail _ (.head _))) rfl)) ?_
    refine sr rfl rfl rfl ((q_move rfl rfl)) (sr rfl rfl rfl ((q_move rfl rfl)) (sr rfl rfl rfl ((q_move rfl rfl)) ?_))
    refine sw_step rfl rfl rfl (q_call (CanCall.mk Tryz.call69) rfl (.cons rfl inferInstance (.cons rfl inferInstance (.cons rfl inferInstance (.cons rfl inferInstance (.cons rfl inferInstance (.cons rfl inferInstance (.nil))))))) (fun _ w hw => callq hw (by have := refLst_spec sp tp sc p tgt x cv (rowR p tgt x i p.length) i hi' (by omega) (lz o) hlz (rowR_len _ _ _ _ _) hbr w (hvo.arg hw) (stb_arg hw htp) (stb_arg hw hcv) (stb_arg hw (hrw i hi')) hE; rw [hmi] at this; exact this))) ?_
    refine sr rfl rfl rfl ((q_assign rfl rfl)) (sw_nil (post_then (cw_seq (cw_seq (cw_region (sr rfl rfl rfl ((q_move rfl rfl)) (sr rfl rfl rfl ((q_eql rfl rfl rfl)) (sw_nil (post_then ?_)))))))))
    refine cw_cut (S := Int) (fun c => [(0, [], sp.v), (1, [], tp.v), (3, [], sc.v), (6, [], .pointer (some ⟨b6, 0, none⟩)), (8, [], .pointer (some ⟨b8, 0, none⟩)), (9, [], .pointer (some ⟨b9, 0, none⟩)), (10, [], .int .i64 (lz o)), (11, [], .int .i64 i), (12, [], .int .i64 ((tsk p tgt x).mi (tgt.length - i) o))]) (fun c => Cl w [] [blk b9 (enc (⟨q.us, c, q.ul⟩ : Sq)) 30, blk b8 (enc (⟨⟨none, 0, 0⟩, 0, []⟩ : Sq)) 30, blk b6 (enc x) 25, ownL 3 q.us.v q.ul]) (fun c => c = (tsk p tgt x).mi tgt.length none) ?_ ?_
    · refine cw_cond rfl (fun h2 => ?_) (fun h2 => ?_)
      · skip
        have hi0 : i = 0 := by simp only [decide_eq_true_eq] at h2; omega
        refine cw_region (sr rfl rfl rfl ((q_move rfl rfl)) (sr rfl rfl rfl ((q_fieldAddr rfl rfl)) (sw_eff0 rfl rfl (e_store (i := 0) rfl rfl rfl rfl rfl rfl rfl rfl) (sw_nil ?_))))
        refine post_meet ((tsk p tgt x).mi (tgt.length - i) o) (by exact .cons rfl (.cons rfl (.cons rfl (.cons rfl (.cons rfl (.cons rfl (.cons rfl (.cons rfl (.cons rfl .nil))))))))) (fun _ h => h) ?_
        rw [hi0, ho0 hi0, Nat.sub_zero]
      · skip
        have hi0 : ¬ i = 0 := by simp only [decide_eq_false_iff_not] at h2; omega
        refine cw_skip ?_
        exact post_meet q.cost (by exact .cons rfl (.cons rfl (.cons rfl (.cons rfl (.cons rfl (.cons rfl (.cons rfl (.cons rfl (.cons rfl .nil))))))))) (fun _ h => h) (by rw [hc, if_neg hi0])
    · intro c hc2
      refine post_then (cw_seq (cw_region (sr rfl rfl rfl ((q_assign rfl rfl)) (sw_nil (post_then (cw_block ?_))))))
      refine cw_loop (S := Nat) (fun v => [(0, [], sp.v), (1, [], tp.v), (3, [], sc.v), (6, [], .pointer (some ⟨b6, 0, none⟩)), (8, [], .pointer (some ⟨b8, 0, none⟩)), (9, [], .pointer (some ⟨b9, 0, none⟩)), (10, [], .int .i64 (lz o)), (11, [], .int .i64 i), (12, [], .int .i64 ((tsk p tgt x).mi (tgt.length - i) o)), (13, [], .int .i64 v)]) (fun _ => Cl w [] [blk b9 (enc (⟨q.us, c, q.ul⟩ : Sq)) 30, blk b8 (enc (⟨⟨none, 0, 0⟩, 0, []⟩ : Sq)) 30, blk b6 (enc x) 25, ownL 3 q.us.v q.ul]) (fun v => v ≤ p.length ∧ ∀ u ∈ idxs p p.length (nth tgt i).phone, u < v → (tsk p tgt x).jn o u + (tsk p tgt x).R (tgt.length - i) u ≠ (tsk p tgt x).mi (tgt.length - i) o) (fun v => p.length - v) 0 ⟨Nat.zero_le _, fun u hu h0 => by obtain ⟨m, rfl, _⟩ := idx_nat hu; omega⟩ (by exact .cons rfl (.cons rfl (.cons rfl (.cons rfl (.cons rfl (.cons rfl (.cons rfl (.cons rfl (.cons rfl (.cons rfl .nil)))))))))) (fun _ h => h) ?_
      rintro v ⟨hv, hno⟩
      refine cw_seq (cw_seq (cw_region (sr rfl rfl rfl ((q_move rfl rfl)) (sr rfl rfl rfl ((q_move rfl rfl)) ?_))))
      refine sr rfl rfl rfl ((q_len rfl (.cons rfl inferInstance (.nil)) (by exact fun w hw => Stb.cl (by assumption) hw))) ?_
      refine sr rfl rfl rfl ((q_lss rfl rfl rfl)) (sw_nil (post_then ?_))
      refine cw_cond rfl (fun h3 => ?_) (fun h3 => ?_)
      · skip
        have hv' : v < p.length := by simp only [decide_eq_true_eq] at h3; omega
        refine cw_skip (post_then (cw_seq (cw_block (cw_seq (cw_seq ?_)))))
        refine cw_region_q mixed_Tryz (by kernel_rfl) ?_
        refine qr rfl rfl rfl ((q_move rfl rfl)) (qr rfl rfl rfl ((q_move rfl rfl)) ?_)
        refine qr rfl rfl rfl ((q_indexN rfl rfl rfl (by exact fun w hw => Stb.cl (by assumption) hw) (by intro hc; omega))) ?_
        refine qr rfl rfl rfl ((q_fieldEl rfl rfl (by exact fun w hw => Stb.cl (by assumption) hw) (by intro hc; omega))) ?_
        refine qr rfl rfl rfl ((q_loadF rfl rfl rfl (by exact fun w hw => Stb.cl (by assumption) hw) (by intro hc; omega) rfl)) ?_
        refine qr rfl rfl rfl ((q_move rfl rfl)) (qr rfl rfl rfl ((q_move rfl rfl)) ?_)
        refine qr rfl rfl rfl ((q_indexN rfl rfl rfl (by exact fun w hw => Stb.cl (by assumption) hw) (by intro hc; omega))) ?_
        refine qr rfl rfl rfl ((q_fieldEl rfl rfl (by exact fun w hw => Stb.cl (by assumption) hw) (by intro hc; omega))) ?_
        refine qr rfl rfl rfl ((q_loadF rfl rfl rfl (by exact fun w hw => Stb.cl (by assumption) hw) (by intro hc; omega) rfl)) ?_
        refine qr rfl rfl rfl ((q_neqStr rfl rfl rfl Tryz.underlying9)) (qw_end (post_then ?_))
        refine cw_cond rfl (fun h4 => ?_) (fun h4 => ?_)
        · skip
          have h5 : ¬ (nth p v).phone = (nth tgt i).phone := by simpa using h4
          refine cw_exit (post_then_x (post_blk_eq (post_then (cw_region (sr rfl rfl rfl ((q_move rfl rfl)) ?_)))))
          refine sr rfl rfl rfl ((q_add rfl rfl rfl (by intro hc; omega))) ?_
          refine sr rfl rfl rfl ((q_assign rfl rfl)) (sw_nil ?_)
          refine post_next (v + 1) (by exact .cons rfl (.cons rfl (.cons rfl (.cons rfl (.cons rfl (.cons rfl (.cons rfl (.cons rfl (.cons rfl (.cons rfl .nil)))))))))) (fun _ h => h) ⟨by omega, fun u hu hlt => ?_⟩ (by omega)
          by_cases e : u = v
          · subst e
            have := (TK.idx_mem.1 hu).2.2
            exact absurd (by simpa using this) h5
          · exact hno u hu (by omega)
        · skip
          have h5 : (nth p v).phone = (nth tgt i).phone := by simpa using h4
          have hvm : (v : Int) ∈ idxs p p.length (nth tgt i).phone := TK.idx_mem.2 ⟨by omega, by omega, by simpa using h5⟩
          have hrn : nth (rowR p tgt x i p.length) v = (tsk p tgt x).R (tgt.length - i) v := by rw [rowR_nth hv', if_pos ⟨hv', hvm⟩]
          have hrd := hrw i hi'
          have hrl := rowR_len p tgt x i p.length
          have hRb := tsk_R hE (tgt.length - i) i (by omega) (by omega) (fun j a b => hne j b) v hv'
          have hjb := jz_bd hv1 hv3 hlz.2 hv'
          refine cw_skip (post_then (cw_seq (cw_region (sr rfl rfl rfl ((q_move rfl rfl)) (sr rfl rfl rfl ((q_move rfl rfl)) ?_)))))
          refine sr rfl rfl rfl ((q_indexN rfl rfl rfl (by exact fun w hw => Stb.cl (by assumption) hw) (by intro hc; omega))) ?_
          refine sr rfl rfl rfl ((q_loadEl rfl rfl rfl (by exact fun w hw => Stb.cl (by assumption) hw) (by intro hc; omega))) ?_
          refine sr rfl rfl rfl ((q_move rfl rfl)) ?_
          refine sr rfl rfl rfl ((q_indexN rfl rfl rfl (by exact fun w hw => Stb.cl (by assumption) hw) (by intro hc; omega))) ?_
          refine sr rfl rfl rfl ((q_loadEl rfl rfl rfl (by exact fun w hw => Stb.cl (by assumption) hw) (by intro hc; omega))) ?_
          refine sr rfl rfl rfl ((q_assign rfl rfl)) (sw_nil (post_then (cw_seq (cw_seq (cw_region (sr rfl rfl rfl ((q_move rfl rfl)) (sr rfl rfl rfl ((q_geq rfl rfl rfl)) (sw_nil (post_then ?_)))))))))
          rw [hrn]
          refine cw_cut (S := Unit) (fun _ => [(0, [], sp.v), (1, [], tp.v), (3, [], sc.v), (6, [], .pointer (some ⟨b6, 0, none⟩)), (8, [], .pointer (some ⟨b8, 0, none⟩)), (9, [], .pointer (some ⟨b9, 0, none⟩)), (10, [], .int .i64 (lz o)), (11, [], .int .i64 i), (12, [], .int .i64 ((tsk p tgt x).mi (tgt.length - i) o)), (13, [], .int .i64 v), (14, [], .int .i64 ((tsk p tgt x).R (tgt.length - i) v + jz x p (lz o) v))]) (fun _ => Cl w [] [blk b9 (enc (⟨q.us, c, q.ul⟩ : Sq)) 30, blk b8 (enc (⟨⟨none, 0, 0⟩, 0, []⟩ : Sq)) 30, blk b6 (enc x) 25, ownL 3 q.us.v q.ul]) (fun _ => True) ?_ ?_
          · refine cw_cond rfl (fun h6 => ?_) (fun h6 => ?_)
            · skip
              have h7 : 0 ≤ lz o := by simpa using h6
              have em : nth p (lz o).toNat ∈ p := nth_mem (by omega)
              have ek : nth p v ∈ p := nth_mem hv'
              have ej : jz x p (lz o) v = joinC x (nth p (lz o).toNat) (nth p v) := by rw [jz, if_pos h7]; simp
              rw [ej] at hjb ⊢
              refine cw_region_q mixed_Tryz (by kernel_rfl) ?_
              refine qr rfl rfl rfl ((q_move rfl rfl)) (qr rfl rfl rfl ((q_move rfl rfl)) (qr rfl rfl rfl ((q_move rfl rfl)) ?_))
              refine qr rfl rfl rfl ((q_index rfl rfl rfl (by exact fun w hw => Stb.cl (by assumption) hw) (by intro hc; omega))) ?_
              refine qr rfl rfl rfl ((q_loadEl rfl rfl rfl (by exact fun w hw => Stb.cl (by assumption) hw) (by intro hc; omega))) ?_
              refine qr rfl rfl rfl ((q_move rfl rfl)) (qr rfl rfl rfl ((q_move rfl rfl)) ?_)
              refine qr rfl rfl rfl ((q_indexN rfl rfl rfl (by exact fun w hw => Stb.cl (by assumption) hw) (by intro hc; omega))) ?_
              refine qr rfl rfl rfl ((q_loadEl rfl rfl rfl (by exact fun w hw => Stb.cl (by assumption) hw) (by intro hc; omega))) ?_
              refine qr rfl rfl rfl ((q_loadA rfl rfl (by exact .tail _ (.tail _ (.head _))) rfl)) ?_
              refine qw_step rfl rfl rfl (q_call (CanCall.mk Tryz.call51) rfl (.cons rfl inferInstance (.cons rfl inferInstance (.cons rfl inferInstance (.nil)))) (fun _ w hw => callq hw (refJoin_spec (nth p (lz o).toNat) (nth p v) x w ((hvo.arg hw).u _ em) ((hvo.arg hw).u _ ek) (vo_ok hv1 em) (vo_ok hv1 ek) (vo_bl hv1 em ek) (wt_ok hv3)))) ?_
              refine qr rfl rfl rfl ((q_add rfl rfl rfl (by intro hc; omega))) ?_
              refine qr rfl rfl rfl ((q_assign rfl rfl)) (qw_end ?_)
              exact post_meet () (by exact .cons rfl (.cons rfl (.cons rfl (.cons rfl (.cons rfl (.cons rfl (.cons rfl (.cons rfl (.cons rfl (.cons rfl (.cons rfl .nil))))))))))) (fun _ h => h) trivial
            · skip
              have h7 : ¬ 0 ≤ lz o := by simpa using h6
              have ej : jz x p (lz o) v = 0 := by rw [jz, if_neg h7]
              rw [ej, Int.add_zero]
              refine cw_skip ?_
              exact post_meet () (by exact .cons rfl (.cons rfl (.cons rfl (.cons rfl (.cons rfl (.cons rfl (.cons rfl (.cons rfl (.cons rfl (.cons rfl (.cons rfl .nil))))))))))) (fun _ h => h) trivial
          · intro _ _
            refine post_then (cw_seq (cw_region (sr rfl rfl rfl ((q_move rfl rfl)) (sr rfl rfl rfl ((q_move rfl rfl)) (sr rfl rfl rfl ((q_eql rfl rfl rfl)) (sw_nil (post_then ?_)))))))
            refine cw_cond rfl (fun h8 => ?_) (fun h8 => ?_)
            · skip
              have h9 : (tsk p tgt x).R (tgt.length - i) v + jz x p (lz o) v = (tsk p tgt x).mi (tgt.length - i) o := by simpa using h8
              refine cw_seq (cw_region (sr rfl rfl rfl ((q_fieldAddr rfl rfl)) ?_))
              refine sr rfl rfl rfl ((q_loadC rfl rfl (by exact .head _) rfl)) ?_
              refine sr rfl rfl rfl ((q_move rfl rfl)) ?_
              refine sw_x rfl rfl rfl (e_build1 (α := Int) rfl rfl rfl rfl) (fun s76 => ?_)
              refine sw_x rfl rfl rfl (e_append (i := 4) rfl (.cons rfl inferInstance (.cons rfl inferInstance (.nil))) rfl rfl (by exact fun w hw => rd_own hw (by exact .head _)) (by simp only [List.length_set, List.length_append, List.length_cons, List.length_nil, List.length_replicate, List.length_take, List.length_drop, List.length_map]; omega) rfl) (fun s77 => ?_)
              refine sr rfl rfl rfl ((q_fieldAddr rfl rfl)) (sw_eff0 rfl rfl (e_store (i := 1) rfl rfl rfl rfl rfl rfl rfl rfl) (sw_nil (post_then (cw_seq (cw_region (sr rfl rfl rfl ((q_move rfl rfl)) (sr rfl rfl rfl ((q_assign rfl rfl)) (sw_nil (post_then (cw_exit (post_blk_ne rfl (post_then_x (post_then_x (post_blk_eq (post_blk (post_then (cw_region (sr rfl rfl rfl ((q_move rfl rfl)) ?_))))))))))))))))))
              refine sr rfl rfl rfl ((q_add rfl rfl rfl (by intro hc; omega))) ?_
              refine sr rfl rfl rfl ((q_assign rfl rfl)) (sw_nil ?_)
              refine post_next ⟨⟨s77, c, q.ul ++ [(v : Int)]⟩, i + 1, some v⟩ ?_ (fun w3 hw3 => ?_) ⟨by simp only; omega, by simp [hql], ?_, fun u hu => ?_, fun h => by simp at h, ?_⟩ (by simp only; omega)
              · simp only [lz, Option.getD_some]
                exact (by exact .cons rfl (.cons rfl (.cons rfl (.cons rfl (.cons rfl (.cons rfl (.cons rfl (.cons rfl .nil))))))))
              · exact (show Cl w [] [ownL 3 s76.v [(v : Int)], blk b9 (enc (⟨s77, c, q.ul ++ [(v : Int)]⟩ : Sq)) 30, blk b8 (enc (⟨⟨none, 0, 0⟩, 0, []⟩ : Sq)) 30, blk b6 (enc x) 25, ownL 3 s77.v (q.ul ++ [(v : Int)])] w3 from hw3).tail
              · dsimp only
                rw [← hgr]
                obtain ⟨k, hk⟩ : ∃ k, tgt.length - i = k + 1 := ⟨tgt.length - i - 1, by omega⟩
                have ei : (tsk p tgt x).T - (k + 1) = i := by rw [eT]; omega
                rw [hk] at h9 hno ⊢
                rw [gr_step (t := tsk p tgt x) hrise (by rw [ei]; exact hvm) (by rw [jn_jz (fun u hu => (ho2 u hu).1)]; omega) (by rw [ei]; exact hno), show tgt.length - (i + 1) = k by omega]
                simp
              · dsimp only at hu ⊢
                cases hu
                exact ⟨by omega, by omega, by omega, hvm⟩
              · dsimp only
                rw [if_neg (by omega)]; exact hc2
            · skip
              have h9 : ¬ (tsk p tgt x).R (tgt.length - i) v + jz x p (lz o) v = (tsk p tgt x).mi (tgt.length - i) o := by simpa using h8
              refine cw_skip (post_blk (post_then (cw_region (sr rfl rfl rfl ((q_move rfl rfl)) ?_))))
              refine sr rfl rfl rfl ((q_add rfl rfl rfl (by intro hc; omega))) ?_
              refine sr rfl rfl rfl ((q_assign rfl rfl)) (sw_nil ?_)
              refine post_next (v + 1) (by exact .cons rfl (.cons rfl (.cons rfl (.cons rfl (.cons rfl (.cons rfl (.cons rfl (.cons rfl (.cons rfl (.cons rfl .nil)))))))))) (fun _ h => h) ⟨by omega, fun u hu hlt => ?_⟩ (by omega)
              by_cases e : u = v
              · subst e
                rw [jn_jz (fun u hu => (ho2 u hu).1)]; omega
              · exact hno u hu (by omega)
      · skip
        exfalso
        have hv' : v = p.length := by simp only [decide_eq_false_iff_not] at h3; omega
        subst hv'
        obtain ⟨k, hk⟩ : ∃ k, tgt.length - i = k + 1 := ⟨tgt.length - i - 1, by omega⟩
        have ei : (tsk p tgt x).us ((tsk p tgt x).T - (tgt.length - i)) = idxs p p.length (nth tgt i).phone := by rw [eT, show tgt.length - (tgt.length - i) = i by omega]; rfl
        obtain ⟨u, hu1, hu2⟩ := Tsk.mi_mem (t := tsk p tgt x) (k := tgt.length - i) (last := o) (by rw [ei]; exact hne i hi') (fun u hu => by
          rw [ei] at hu
          obtain ⟨m, rfl, hm⟩ := idx_nat hu
          have h2 := tsk_R hE (tgt.length - i) i (by omega) (by omega) (fun j a b => hne j b) m hm
          rw [jn_jz (fun u hu => (ho2 u hu).1)]
          have := jz_bd hv1 hv3 hlz.2 hm
          omega)
        rw [ei] at hu1
        obtain ⟨m, rfl, hm⟩ := idx_nat hu1
        exact hno m hu1 (by omega) hu2
  · skip
    have hi' : i = tgt.length := by simp only [decide_eq_false_iff_not] at h; omega
    subst hi'
    refine cw_exit (post_then_x (post_then_x (post_blk_eq (post_then (cw_seq (cw_region ?_))))))
    refine sr rfl rfl rfl ((q_loadA rfl rfl (by exact .head _) rfl)) ?_
    refine sw_eff0 rfl rfl (e_store (i := 1) rfl rfl rfl rfl rfl rfl rfl rfl) (sw_nil (post_then (cw_ret ?_)))
    refine post_ret1 rfl (resOk_blk (x := q) rfl (by exact .tail _ (.head _)) (by rfl)) ?_
    refine fun w' hw => ⟨q, rfl, ⟨?_, hc⟩, (fun w h => Cl.sel (by exact .take 3 rfl (.nil _)) w h) _ hw⟩
    rw [← hgr, Nat.sub_self]
    simp [Tsk.gr]
end Go.Proofs.YtomjbfeafodfbaaGreat

set_option autoImplicit false
set_option maxRecDepth 100000
namespace Go.Proofs.YtomjbfeafodfbaaGreat
open Go.Sx
open Enc (enc val)
theorem best_gr {p : List Un} {tgt : List Wan} {x : Wts} (hE : beginE p tgt x = 0) (hP : possP p tgt = true) {s : List Int} {c : Int} (h : BestSeq (tsk p tgt x) s c) :
    s = (tsk p tgt x).gr tgt.length none ∧ c = if tgt.length = 0 then 0 else (tsk p tgt x).mi tgt.length none := by
  obtain ⟨h1, h2, h3⟩ := h
  have eT : (tsk p tgt x).T = tgt.length := rfl
  rw [eT] at h1 h3
  by_cases h0 : tgt.length = 0
  · rw [h0] at h1 ⊢
    simp only [Tsk.tl, List.mem_singleton] at h1
    subst h1
    exact ⟨rfl, by rw [h2]; rfl⟩
  · have hne := poss_yes.1 hP
    obtain ⟨m1, m2, hv1, hv2, hv3⟩ := beginE_ok hE
    obtain ⟨v, r, g1, g2, g3, g4⟩ := Tsk.gr_best (t := tsk p tgt x) (fun i => idxs_rise p _ p.length) (fun i hi => hne i hi) (fun k last v hk hk1 hv hl => by
      rw [eT] at hk hv hl
      obtain ⟨m, rfl, hm⟩ := idx_nat hv
      have h2 := tsk_R hE k (tgt.length - k) (by omega) hk1 (fun j a b => hne j b) m hm
      have h3 : 0 ≤ (tsk p tgt x).jn last m ∧ (tsk p tgt x).jn last m ≤ 800000000 := by
        cases last with
        | none => simp [Tsk.jn]
        | some u =>
          obtain ⟨n, rfl, hn⟩ := idx_nat (hl u rfl)
          exact (tsk_bd hE).2 n m hn hm
      omega) tgt.length none (by rw [eT]; exact Nat.le_refl _) (by omega) (fun u hu => by cases hu)
    rw [eT, Nat.sub_self] at g3 g4
    have g3' : (tsk p tgt x).tc 0 (v :: r) = (tsk p tgt x).mi tgt.length none := by rw [← g3]; simp [Tsk.jn]
    rw [g1, if_neg h0]
    have hsl := (tsk p tgt x).tl_len _ s h1
    match s, hsl with
    | [], hsl => exact absurd hsl.symm h0
    | a :: s, _ =>
      have e4 := g4 a s h1
      have e5 : (tsk p tgt x).jn none a + (tsk p tgt x).tc 0 (a :: s) = c := by rw [h2]; simp [Tsk.jn]
      rw [e5] at e4
      rcases e4 with e | e | ⟨e, e'⟩
      · exact ⟨e, by rw [h2, e, g3']⟩
      · rcases h3 (v :: r) g2 with k | k
        · have k := congrArg ((tsk p tgt x).tc 0) k
          omega
        · rcases k with k | ⟨k, _⟩
          · simp only at k; omega
          · simp only at k; omega
      · rcases h3 (v :: r) g2 with k | k
        · exact ⟨k.symm, e.symm⟩
        · rcases k with k | ⟨_, k⟩
          · simp only at k; omega
          · simp only at k
            rw [lex_as _ _ e'] at k; cases k
def rowsR (p : List Un) (tgt : List Wan) (x : Wts) : List (List Int) := (List.range tgt.length).map fun i => rowR p tgt x i p.length
theorem rowsR_len (p : List Un) (tgt : List Wan) (x : Wts) : (rowsR p tgt x).length = tgt.length := by simp [rowsR]
theorem rowsR_nth {p : List Un} {tgt : List Wan} {x : Wts} {i : Nat} (h : i < tgt.length) : nth (rowsR p tgt x) i = rowR p tgt x i p.length := by
  rw [nth_get (by rw [rowsR_len]; exact h)]; simp [rowsR]
theorem cells_row {p : List Un} {tgt : List Wan} {x : Wts} {cells : List Int} (h : TabP p tgt x cells) {i : Nat} (hi : i < tgt.length) : (cells.take ((i + 1) * p.length)).drop (i * p.length) = rowR p tgt x i p.length := by
  have hm : (i + 1) * p.length ≤ tgt.length * p.length := Nat.mul_le_mul_right _ hi
  have hm2 : (i + 1) * p.length = i * p.length + p.length := Nat.succ_mul _ _
  have hl := h.1
  apply List.ext_getElem
  · rw [List.length_drop, List.length_take, rowR_len]; omega
  · intro u h1 h2
    rw [rowR_len] at h2
    rw [← nth_get h1, ← nth_get (by rw [rowR_len]; exact h2), rowR_nth h2]
    have e := h.2 i u hi h2
    have e1 : nth ((cells.take ((i + 1) * p.length)).drop (i * p.length)) u = nth cells (i * p.length + u) := by
      rw [nth_get h1, nth_get (by omega)]
      simp
    rw [e1, e]
    simp [h2]
theorem mt_cells {w : World} {so sc : SlV} {p : List Un} {tgt : List Wan} {x : Wts} {cells : List Int} (h : TabP p tgt x cells) (h1 : Stb w [] (RdL so.v (rowsTo sc p.length tgt.length tgt.length))) (h2 : Stb w [] (RdL sc.v cells)) : Stb w [] (fun w' => Mt w' so.v (rowsTo sc p.length tgt.length tgt.length) (rowsR p tgt x)) := by
  refine Mt.stb ⟨h1.here, by rw [rowsTo_len, rowsR_len], fun i hi => ?_⟩
  rw [rowsR_len] at hi
  have hm : (i + 1) * p.length ≤ tgt.length * p.length := Nat.mul_le_mul_right _ hi
  rw [rowsAll_nth _ _ _ _ hi, rowsR_nth hi, ← cells_row h hi]
  exact rd_row h2.here (Nat.mul_le_mul_right _ (Nat.le_succ i)) (by rw [h.1]; exact hm)
theorem rows_mem {G : List (SlV × List Int)} {f : Nat → List Int} {n : Nat} (h : G.map Prod.snd = (List.range n).map f) : G.length = n ∧ ∀ i, i < n → ownL 3 (nth (G.map Prod.fst) i).v (f i) ∈ G.map rowG := by
  have hl : G.length = n := by have := congrArg List.length h; simpa using this
  refine ⟨hl, fun i hi => ?_⟩
  have hg : i < G.length := by omega
  have e1 : nth (G.map Prod.fst) i = (nth G i).1 := by rw [nth_get (by simpa using hg), nth_get hg]; simp
  have e2 : (nth G i).2 = f i := by
    have h1 : (G.map Prod.snd)[i]'(by simpa using hg) = f i := by simp [h]
    rw [nth_get hg, ← h1]; simp
  have : rowG (nth G i) ∈ G.map rowG := List.mem_map_of_mem (nth_mem hg)
  rw [e1, ← e2]; exact this
theorem small_pow {p : List Un} {tgt : List Wan} {a b : Nat} (ha : a ≤ 10) (hb : b ≤ 8) (hp : p.length ≤ a) (ht : tgt.length ≤ b) : (p.length + 1) ^ tgt.length ≤ 500000000 :=
  Nat.le_trans (Nat.pow_le_pow_left (show p.length + 1 ≤ 11 by omega) _) (Nat.le_trans (Nat.pow_le_pow_right (by omega) (show tgt.length ≤ 8 by omega)) (by decide))
theorem lawChooses_out (sp tp : SlV) (p : List Un) (tgt : List Wan) (x : Wts) (w : World) (hvo : VoIn w sp p) (htp : Stb w [] (RdL tp.v tgt)) (hs : smallB p tgt 10 8 = false) :
    Calls Tryz.prog 3 #[sp.v, tp.v, val x] w fun e w' => e = .returned (.bool true) ∧ Cl w [] [] w' := by
  refine calls_cw (vs := [_, _, _]) Tryz.func3 rfl Tryz.ntmps3 rfl (Cl.start0 w) (cw_seq (cw_region ?_))
  refine sw_x rfl rfl rfl (e_box rfl rfl rfl) (fun b5 => ?_)
  refine sr rfl rfl rfl ((q_assign rfl rfl)) (sw_nil (post_then (cw_seq (cw_seq (cw_region (sr rfl rfl rfl ((q_move rfl rfl)) (sr rfl rfl rfl ((q_move rfl rfl)) (sw_step rfl rfl rfl (q_call (CanCall.mk Tryz.call17) rfl (.cons rfl inferInstance (.cons rfl inferInstance (.cons rfl inferInstance (.cons rfl inferInstance (.nil))))) (fun _ w hw => callq hw (small_spec sp tp p tgt 10 8 w (voIn_arg hw hvo) (stb_arg hw htp)))) (sr rfl rfl rfl ((q_not rfl rfl)) (sw_nil (post_then ?_)))))))))))
  rw [hs]
  refine cw_cond rfl (fun h => ?_) (fun h => ?_)
  · skip
    refine cw_seq (cw_region (sw_step rfl rfl rfl (q_call (CanCall.mk Tryz.call18) rfl (.nil) (fun _ w hw => callq hw (known_spec w))) (sr rfl rfl rfl ((q_assign rfl rfl)) (sw_nil (post_then (cw_ret (post_then_r (post_ret1 rfl (resOk_tmp rfl) ?_))))))))
    exact fun w' hw => ⟨rfl, (fun w h => Cl.sel (by exact .nil _) w h) _ hw⟩
  · skip
    simp at h
theorem lawChooses_bad (sp tp : SlV) (p : List Un) (tgt : List Wan) (x : Wts) (w : World) (hvo : VoIn w sp p) (htp : Stb w [] (RdL tp.v tgt)) (hs : smallB p tgt 10 8 = true) (hE : beginE p tgt x ≠ 0) :
    Calls Tryz.prog 3 #[sp.v, tp.v, val x] w fun e w' => e = .returned (.bool true) ∧ Cl w [] [] w' := by
  have hvr : VoRd w sp p := small_vo hvo hs
  have hta := small_ta hs
  refine calls_cw (vs := [_, _, _]) Tryz.func3 rfl Tryz.ntmps3 rfl (Cl.start0 w) (cw_seq (cw_region ?_))
  refine sw_x rfl rfl rfl (e_box rfl rfl rfl) (fun b5 => ?_)
  refine sr rfl rfl rfl ((q_assign rfl rfl)) (sw_nil (post_then (cw_seq (cw_seq (cw_region (sr rfl rfl rfl ((q_move rfl rfl)) (sr rfl rfl rfl ((q_move rfl rfl)) (sw_step rfl rfl rfl (q_call (CanCall.mk Tryz.call17) rfl (.cons rfl inferInstance (.cons rfl inferInstance (.cons rfl inferInstance (.cons rfl inferInstance (.nil))))) (fun _ w hw => callq hw (small_spec sp tp p tgt 10 8 w (voIn_arg hw hvo) (stb_arg hw htp)))) (sr rfl rfl rfl ((q_not rfl rfl)) (sw_nil (post_then ?_)))))))))))
  rw [hs]
  refine cw_cond rfl (fun h => ?_) (fun h => ?_)
  · skip
    simp at h
  · skip
    clear h
    refine cw_skip (post_then (cw_seq (cw_region (sr rfl rfl rfl ((q_move rfl rfl)) (sr rfl rfl rfl ((q_move rfl rfl)) ?_)))))
    refine sr rfl rfl rfl ((q_loadA rfl rfl (by exact .head _) rfl)) ?_
    refine sw_x rfl rfl rfl (e_call (vf := fun _ : Unit => .tuple #[val (⟨⟨none, 0, 0⟩, 0, []⟩ : Sq), SlV.v ⟨none, 0, 0⟩, .int .i64 (beginE p tgt x)]) (CanCall.mk Tryz.call19) rfl (.cons rfl inferInstance (.cons rfl inferInstance (.cons rfl inferInstance (.nil)))) (fun w hw => choose_bad sp tp p tgt x w (hvr.arg hw) (stb_arg hw htp) hta hE)) (fun u => ?_)
    refine sw_imp fun _ => (sr rfl rfl rfl ((q_move rfl rfl)) (sr rfl rfl rfl ((q_extract rfl rfl rfl)) (sr rfl rfl rfl ((q_extract rfl rfl rfl)) (sr rfl rfl rfl ((q_extract rfl rfl rfl)) ?_))))
    refine sw_x rfl rfl rfl (e_alloc rfl) (fun b7 => ?_)
    refine sw_eff0 rfl rfl (e_store (i := 0) rfl rfl rfl rfl rfl rfl rfl rfl) (sr rfl rfl rfl ((q_assign rfl rfl)) (sr rfl rfl rfl ((q_assign rfl rfl)) (sw_nil (post_then (cw_seq (cw_seq (cw_region (sr rfl rfl rfl ((q_move rfl rfl)) (sr rfl rfl rfl ((q_move rfl rfl)) ?_)))))))))
    refine sr rfl rfl rfl ((q_loadA rfl rfl (by exact .tail _ (.head _)) rfl)) ?_
    refine sw_step rfl rfl rfl (q_call (CanCall.mk Tryz.call20) rfl (.cons rfl inferInstance (.cons rfl inferInstance (.cons rfl inferInstance (.nil)))) (fun _ w hw => callq hw (wrong_spec sp tp p tgt x w (hvr.arg hw) (stb_arg hw htp) hta))) (sr rfl rfl rfl ((q_assign rfl rfl)) (sw_nil (post_then (cw_seq (cw_region (sr rfl rfl rfl ((q_move rfl rfl)) (sr rfl rfl rfl ((q_neq rfl rfl rfl)) (sw_nil (post_then ?_)))))))))
    refine cw_cond rfl (fun h2 => ?_) (fun h2 => ?_)
    · skip
      refine cw_seq (cw_region (sr rfl rfl rfl ((q_move rfl rfl)) (sr rfl rfl rfl ((q_move rfl rfl)) (sr rfl rfl rfl ((q_eql rfl rfl rfl)) (sr rfl rfl rfl ((q_move rfl rfl)) (sr rfl rfl rfl ((q_fieldAddr rfl rfl)) ?_))))))
      refine sr rfl rfl rfl ((q_loadC rfl rfl (by exact .head _) rfl)) ?_
      refine sr rfl rfl rfl ((q_lenV rfl (.cons rfl inferInstance (.nil)))) (sr rfl rfl rfl ((q_eql rfl rfl rfl)) (sr rfl rfl rfl ((q_and2 rfl rfl rfl)) (sr rfl rfl rfl ((q_move rfl rfl)) (sr rfl rfl rfl ((q_fieldAddr rfl rfl)) ?_))))
      refine sr rfl rfl rfl ((q_loadC rfl rfl (by exact .head _) rfl)) ?_
      refine sr rfl rfl rfl ((q_eql rfl rfl rfl)) (sr rfl rfl rfl ((q_and2 rfl rfl rfl)) (sr rfl rfl rfl ((q_move rfl rfl)) (sr rfl rfl rfl ((q_move rfl rfl)) (sr rfl rfl rfl ((q_lenV rfl (.cons rfl inferInstance (.nil)))) (sr rfl rfl rfl ((q_eql rfl rfl rfl)) (sr rfl rfl rfl ((q_and2 rfl rfl rfl)) (sr rfl rfl rfl ((q_move rfl rfl)) (sw_step rfl rfl rfl (q_call (CanCall.mk Tryz.call18) rfl (.nil) (fun _ w hw => callq hw (known_spec w))) (sr rfl rfl rfl ((q_and2 rfl rfl rfl)) (sr rfl rfl rfl ((q_assign rfl rfl)) (sw_nil (post_then (cw_ret (post_then_r (post_ret1 rfl (resOk_tmp rfl) ?_)))))))))))))))
      exact fun w' hw => ⟨by simp, (fun w h => Cl.sel (by exact .nil _) w h) _ hw⟩
    · skip
      simp only [Bool.not_eq_false', decide_eq_true_eq] at h2
      exact absurd h2 hE
theorem lawChooses_none (sp tp : SlV) (p : List Un) (tgt : List Wan) (x : Wts) (w : World) (hvo : VoIn w sp p) (htp : Stb w [] (RdL tp.v tgt)) (hs : smallB p tgt 10 8 = true) (hE : beginE p tgt x = 0) (hP : possP p tgt = false) :
    Calls Tryz.prog 3 #[sp.v, tp.v, val x] w fun e w' => e = .returned (.bool true) ∧ Cl w [] [] w' := by
  have hvr : VoRd w sp p := small_vo hvo hs
  have hta := small_ta hs
  refine calls_cw (vs := [_, _, _]) Tryz.func3 rfl Tryz.ntmps3 rfl (Cl.start0 w) (cw_seq (cw_region ?_))
  refine sw_x rfl rfl rfl (e_box rfl rfl rfl) (fun b5 => ?_)
  refine sr rfl rfl rfl ((q_assign rfl rfl)) (sw_nil (post_then (cw_seq (cw_seq (cw_region (sr rfl rfl rfl ((q_move rfl rfl)) (sr rfl rfl rfl ((q_move rfl rfl)) (sw_step rfl rfl rfl (q_call (CanCall.mk Tryz.call17) rfl (.cons rfl inferInstance (.cons rfl inferInstance (.cons rfl inferInstance (.cons rfl inferInstance (.nil))))) (fun _ w hw => callq hw (small_spec sp tp p tgt 10 8 w (voIn_arg hw hvo) (stb_arg hw htp)))) (sr rfl rfl rfl ((q_not rfl rfl)) (sw_nil (post_then ?_)))))))))))
  rw [hs]
  refine cw_cond rfl (fun h => ?_) (fun h => ?_)
  · skip
    simp at h
  · skip
    clear h
    refine cw_skip (post_then (cw_seq (cw_region (sr rfl rfl rfl ((q_move rfl rfl)) (sr rfl rfl rfl ((q_move rfl rfl)) ?_)))))
    refine sr rfl rfl rfl ((q_loadA rfl rfl (by exact .head _) rfl)) ?_
    refine sw_x rfl rfl rfl (e_call (vf := fun _ : Unit => .tuple #[val (⟨⟨none, 0, 0⟩, 0, []⟩ : Sq), SlV.v ⟨none, 0, 0⟩, .int .i64 5]) (CanCall.mk Tryz.call19) rfl (.cons rfl inferInstance (.cons rfl inferInstance (.cons rfl inferInstance (.nil)))) (fun w hw => choose_none sp tp p tgt x w (hvr.arg hw) (stb_arg hw htp) hta hE hP)) (fun u => ?_)
    refine sw_imp fun _ => (sr rfl rfl rfl ((q_move rfl rfl)) (sr rfl rfl rfl ((q_extract rfl rfl rfl)) (sr rfl rfl rfl ((q_extract rfl rfl rfl)) (sr rfl rfl rfl ((q_extract rfl rfl rfl)) ?_))))
    refine sw_x rfl rfl rfl (e_alloc rfl) (fun b7 => ?_)
    refine sw_eff0 rfl rfl (e_store (i := 0) rfl rfl rfl rfl rfl rfl rfl rfl) (sr rfl rfl rfl ((q_assign rfl rfl)) (sr rfl rfl rfl ((q_assign rfl rfl)) (sw_nil (post_then (cw_seq (cw_seq (cw_region (sr rfl rfl rfl ((q_move rfl rfl)) (sr rfl rfl rfl ((q_move rfl rfl)) ?_)))))))))
    refine sr rfl rfl rfl ((q_loadA rfl rfl (by exact .tail _ (.head _)) rfl)) ?_
    refine sw_step rfl rfl rfl (q_call (CanCall.mk Tryz.call20) rfl (.cons rfl inferInstance (.cons rfl inferInstance (.cons rfl inferInstance (.nil)))) (fun _ w hw => callq hw (wrong_spec sp tp p tgt x w (hvr.arg hw) (stb_arg hw htp) hta))) (sr rfl rfl rfl ((q_assign rfl rfl)) (sw_nil (post_then (cw_seq (cw_region (sr rfl rfl rfl ((q_move rfl rfl)) (sr rfl rfl rfl ((q_neq rfl rfl rfl)) (sw_nil (post_then ?_)))))))))
    rw [hE]
    refine cw_cond rfl (fun h2 => ?_) (fun h2 => ?_)
    · skip
      simp at h2
    · skip
      clear h2
      refine cw_skip (post_then (cw_seq (cw_region (sr rfl rfl rfl ((q_move rfl rfl)) (sr rfl rfl rfl ((q_move rfl rfl)) ?_)))))
      refine sr rfl rfl rfl ((q_loadA rfl rfl (by exact .tail _ (.head _)) rfl)) ?_
      refine sw_x rfl rfl rfl (e_call (CanCall.mk Tryz.call21) rfl (.cons rfl inferInstance (.cons rfl inferInstance (.cons rfl inferInstance (.nil)))) (fun w hw => refCert_spec sp tp p tgt x w (hvr.arg hw) (stb_arg hw htp) hE)) (fun y => ?_)
      refine sw_imp fun _ => ?_
      rw [hP, if_neg (by simp)]
      refine sr rfl rfl rfl ((q_move rfl rfl)) (sr rfl rfl rfl ((q_extract rfl rfl rfl)) (sr rfl rfl rfl ((q_extract rfl rfl rfl)) (sr rfl rfl rfl ((q_assign rfl rfl)) (sr rfl rfl rfl ((q_assign rfl rfl)) (sw_nil (post_then (cw_seq (cw_seq (cw_region (sr rfl rfl rfl ((q_move rfl rfl)) (sr rfl rfl rfl ((q_not rfl rfl)) (sw_nil (post_then ?_)))))))))))))
      refine cw_cond rfl (fun h3 => ?_) (fun h3 => ?_)
      · skip
        refine cw_seq (cw_region (sr rfl rfl rfl ((q_move rfl rfl)) (sr rfl rfl rfl ((q_eql rfl rfl rfl)) (sr rfl rfl rfl ((q_move rfl rfl)) (sr rfl rfl rfl ((q_fieldAddr rfl rfl)) ?_)))))
        refine sr rfl rfl rfl ((q_loadC rfl rfl (by exact .head _) rfl)) ?_
        refine sr rfl rfl rfl ((q_lenV rfl (.cons rfl inferInstance (.nil)))) (sr rfl rfl rfl ((q_eql rfl rfl rfl)) (sr rfl rfl rfl ((q_and2 rfl rfl rfl)) (sr rfl rfl rfl ((q_move rfl rfl)) (sr rfl rfl rfl ((q_fieldAddr rfl rfl)) ?_))))
        refine sr rfl rfl rfl ((q_loadC rfl rfl (by exact .head _) rfl)) ?_
        refine sr rfl rfl rfl ((q_eql rfl rfl rfl)) (sr rfl rfl rfl ((q_and2 rfl rfl rfl)) (sr rfl rfl rfl ((q_move rfl rfl)) (sr rfl rfl rfl ((q_move rfl rfl)) (sr rfl rfl rfl ((q_lenV rfl (.cons rfl inferInstance (.nil)))) (sr rfl rfl rfl ((q_eql rfl rfl rfl)) (sr rfl rfl rfl ((q_and2 rfl rfl rfl)) (sr rfl rfl rfl ((q_move rfl rfl)) (sw_step rfl rfl rfl (q_call (CanCall.mk Tryz.call18) rfl (.nil) (fun _ w hw => callq hw (known_spec w))) (sr rfl rfl rfl ((q_and2 rfl rfl rfl)) (sr rfl rfl rfl ((q_assign rfl rfl)) (sw_nil (post_then (cw_ret (post_then_r (post_ret1 rfl (resOk_tmp rfl) ?_)))))))))))))))
        exact fun w' hw => ⟨by simp, (fun w h => Cl.sel (by exact .nil _) w h) _ hw⟩
      · skip
        simp at h3
theorem lawChooses_yes (sp tp : SlV) (p : List Un) (tgt : List Wan) (x : Wts) (w : World) (hvo : VoIn w sp p) (htp : Stb w [] (RdL tp.v tgt)) (hs : smallB p tgt 10 8 = true) (hE : beginE p tgt x = 0) (hP : possP p tgt = true) :
    Calls Tryz.prog 3 #[sp.v, tp.v, val x] w fun e w' => e = .returned (.bool true) ∧ Cl w [] [] w' := by
  have hvr : VoRd w sp p := small_vo hvo hs
  have hta := small_ta hs
  obtain ⟨n1, n2, n3, n4⟩ := small_n hs
  obtain ⟨m1, m2, -⟩ := beginE_ok hE
  have hbig : (p.length + 1) ^ tgt.length ≤ 500000000 := small_pow (a := 10) (b := 8) (by omega) (by omega) (by omega) (by omega)
  refine calls_cw (vs := [_, _, _]) Tryz.func3 rfl Tryz.ntmps3 rfl (Cl.start0 w) (cw_seq (cw_region ?_))
  refine sw_x rfl rfl rfl (e_box rfl rfl rfl) (fun b5 => ?_)
  refine sr rfl rfl rfl ((q_assign rfl rfl)) (sw_nil (post_then (cw_seq (cw_seq (cw_region (sr rfl rfl rfl ((q_move rfl rfl)) (sr rfl rfl rfl ((q_move rfl rfl)) (sw_step rfl rfl rfl (q_call (CanCall.mk Tryz.call17) rfl (.cons rfl inferInstance (.cons rfl inferInstance (.cons rfl inferInstance (.cons rfl inferInstance (.nil))))) (fun _ w hw => callq hw (small_spec sp tp p tgt 10 8 w (voIn_arg hw hvo) (stb_arg hw htp)))) (sr rfl rfl rfl ((q_not rfl rfl)) (sw_nil (post_then ?_)))))))))))
  rw [hs]
  refine cw_cond rfl (fun h => ?_) (fun h => ?_)
  · skip
    simp at h
  · skip
    clear h
    refine cw_skip (post_then (cw_seq (cw_region (sr rfl rfl rfl ((q_move rfl rfl)) (sr rfl rfl rfl ((q_move rfl rfl)) ?_)))))
    refine sr rfl rfl rfl ((q_loadA rfl rfl (by exact .head _) rfl)) ?_
    refine sw_x rfl rfl rfl (e_call (CanCall.mk Tryz.call19) rfl (.cons rfl inferInstance (.cons rfl inferInstance (.cons rfl inferInstance (.nil)))) (fun w hw => choose_yes sp tp p tgt x w (hvr.arg hw) (stb_arg hw htp) hta hE hP hbig)) (fun y => ?_)
    refine sw_imp fun hy => ?_
    obtain ⟨⟨so, sc⟩, ⟨cells, q⟩⟩ := y
    dsimp only at hy ⊢
    obtain ⟨hT, hB⟩ := hy
    obtain ⟨hB1, hB2⟩ := best_gr hE hP hB
    refine sr rfl rfl rfl ((q_move rfl rfl)) (sr rfl rfl rfl ((q_extract rfl rfl rfl)) (sr rfl rfl rfl ((q_extract rfl rfl rfl)) (sr rfl rfl rfl ((q_extract rfl rfl rfl)) ?_)))
    refine sw_x rfl rfl rfl (e_alloc rfl) (fun b7 => ?_)
    refine sw_eff0 rfl rfl (e_store (i := 0) rfl rfl rfl rfl rfl rfl rfl rfl) (sr rfl rfl rfl ((q_assign rfl rfl)) (sr rfl rfl rfl ((q_assign rfl rfl)) (sw_nil (post_then (cw_seq (cw_seq (cw_region (sr rfl rfl rfl ((q_move rfl rfl)) (sr rfl rfl rfl ((q_move rfl rfl)) ?_)))))))))
    refine sr rfl rfl rfl ((q_loadA rfl rfl (by exact .tail _ (.tail _ (.tail _ (.tail _ (.head _))))) rfl)) ?_
    refine sw_step rfl rfl rfl (q_call (CanCall.mk Tryz.call20) rfl (.cons rfl inferInstance (.cons rfl inferInstance (.cons rfl inferInstance (.nil)))) (fun _ w hw => callq hw (wrong_spec sp tp p tgt x w (hvr.arg hw) (stb_arg hw htp) hta))) (sr rfl rfl rfl ((q_assign rfl rfl)) (sw_nil (post_then (cw_seq (cw_region (sr rfl rfl rfl ((q_move rfl rfl)) (sr rfl rfl rfl ((q_neq rfl rfl rfl)) (sw_nil (post_then ?_)))))))))
    rw [hE]
    refine cw_cond rfl (fun h2 => ?_) (fun h2 => ?_)
    · skip
      simp at h2
    · skip
      clear h2
      refine cw_skip (post_then (cw_seq (cw_region (sr rfl rfl rfl ((q_move rfl rfl)) (sr rfl rfl rfl ((q_move rfl rfl)) ?_)))))
      refine sr rfl rfl rfl ((q_loadA rfl rfl (by exact .tail _ (.tail _ (.tail _ (.tail _ (.head _))))) rfl)) ?_
      refine sw_x rfl rfl rfl (e_call (CanCall.mk Tryz.call21) rfl (.cons rfl inferInstance (.cons rfl inferInstance (.cons rfl inferInstance (.nil)))) (fun w hw => refCert_spec sp tp p tgt x w (hvr.arg hw) (stb_arg hw htp) hE)) (fun z => ?_)
      refine sw_imp fun hz => ?_
      obtain ⟨sg, G⟩ := z
      dsimp only at hz ⊢
      have hz := hz hP
      obtain ⟨hGl, hGm⟩ := rows_mem hz
      rw [hP, if_pos rfl]
      refine sw_le (C' := Cl w [] (blk b7 (enc q) 30 :: ownL 28 so.v (rowsTo sc p.length tgt.length tgt.length) :: ownL 3 sc.v cells :: ownL 3 q.us.v q.ul :: blk b5 (enc x) 25 :: ownL 28 sg.v (G.map Prod.fst) :: G.map rowG)) (fun w' h => h.perm (List.perm_append_comm (l₂ := [blk b7 (enc q) 30, ownL 28 so.v (rowsTo sc p.length tgt.length tgt.length), ownL 3 sc.v cells, ownL 3 q.us.v q.ul, blk b5 (enc x) 25]))) (sr rfl rfl rfl ((q_move rfl rfl)) (sr rfl rfl rfl ((q_extract rfl rfl rfl)) (sr rfl rfl rfl ((q_extract rfl rfl rfl)) (sr rfl rfl rfl ((q_assign rfl rfl)) (sr rfl rfl rfl ((q_assign rfl rfl)) (sw_nil (post_then (cw_seq (cw_seq (cw_region (sr rfl rfl rfl ((q_move rfl rfl)) (sr rfl rfl rfl ((q_not rfl rfl)) (sw_nil (post_then ?_))))))))))))))
      refine cw_cond rfl (fun h3 => ?_) (fun h3 => ?_)
      · skip
        simp at h3
      · skip
        clear h3
        refine cw_skip (post_then (cw_seq (cw_region (sr rfl rfl rfl ((q_move rfl rfl)) (sr rfl rfl rfl ((q_move rfl rfl)) ?_)))))
        refine sr rfl rfl rfl ((q_loadA rfl rfl (by exact .tail _ (.tail _ (.tail _ (.tail _ (.head _))))) rfl)) ?_
        refine sr rfl rfl rfl ((q_move rfl rfl)) ?_
        refine sw_x rfl rfl rfl (e_call (CanCall.mk Tryz.call22) rfl (.cons rfl inferInstance (.cons rfl inferInstance (.cons rfl inferInstance (.cons rfl inferInstance (.nil))))) (fun w hw => refChoose_spec sp tp sg p tgt x (G.map Prod.fst) (by simpa using hGl) w (hvr.arg hw) (stb_arg hw htp) (stb_own (e := 28) hw (by exact .tail _ (.tail _ (.tail _ (.tail _ (.tail _ (.head _))))))) (fun i hi => stb_own (e := 3) hw (.tail _ (.tail _ (.tail _ (.tail _ (.tail _ (.tail _ (hGm i hi)))))))) hE hP)) (fun q2 => ?_)
        refine sw_imp fun hq2 => ?_
        obtain ⟨hq1, hq2⟩ := hq2
        have e1 : q.ul = q2.ul := hB1.trans hq1.symm
        have e2 : q.cost = q2.cost := hB2.trans hq2.symm
        refine sw_x rfl rfl rfl (e_alloc rfl) (fun b13 => ?_)
        refine sw_eff0 rfl rfl (e_store (i := 0) rfl rfl rfl rfl rfl rfl rfl rfl) (sw_nil (post_then (cw_seq (cw_region (sr rfl rfl rfl ((q_move rfl rfl)) (sr rfl rfl rfl ((q_eql rfl rfl rfl)) (sr rfl rfl rfl ((q_move rfl rfl)) (sr rfl rfl rfl ((q_fieldAddr rfl rfl)) ?_))))))))
        refine sr rfl rfl rfl ((q_loadC rfl rfl (by exact .tail _ (.tail _ (.head _))) rfl)) ?_
        refine sr rfl rfl rfl ((q_fieldAddr rfl rfl)) ?_
        refine sr rfl rfl rfl ((q_loadC rfl rfl (by exact .head _) rfl)) ?_
        refine sw_step rfl rfl rfl (q_call (CanCall.mk Tryz.call23) rfl (.cons rfl inferInstance (.cons rfl inferInstance (.nil))) (fun _ w hw => callq hw (same_true _ _ q.ul q2.ul e1 w (stb_own (e := 3) hw (by exact .tail _ (.tail _ (.tail _ (.tail _ (.tail _ (.head _))))))) (stb_own (e := 3) hw (by exact .tail _ (.head _)))))) ?_
        refine sr rfl rfl rfl ((q_and2 rfl rfl rfl)) (sr rfl rfl rfl ((q_move rfl rfl)) (sr rfl rfl rfl ((q_fieldAddr rfl rfl)) ?_))
        refine sr rfl rfl rfl ((q_loadC rfl rfl (by exact .tail _ (.tail _ (.head _))) rfl)) ?_
        refine sr rfl rfl rfl ((q_fieldAddr rfl rfl)) ?_
        refine sr rfl rfl rfl ((q_loadC rfl rfl (by exact .head _) rfl)) ?_
        refine sr rfl rfl rfl ((q_eql rfl rfl rfl)) (sr rfl rfl rfl ((q_and2 rfl rfl rfl)) (sr rfl rfl rfl ((q_move rfl rfl)) (sr rfl rfl rfl ((q_move rfl rfl)) (sr rfl rfl rfl ((q_move rfl rfl)) ?_))))
        refine sw_step rfl rfl rfl (q_call (CanCall.mk Tryz.call24) rfl (.cons rfl inferInstance (.cons rfl inferInstance (.nil))) (fun _ w hw => callq hw (sameL_true _ _ (rowsTo sc p.length tgt.length tgt.length) (G.map Prod.fst) (rowsR p tgt x) (rowsR p tgt x) rfl w (mt_cells hT (stb_own (e := 28) hw (by exact .tail _ (.tail _ (.tail _ (.head _))))) (stb_own (e := 3) hw (by exact .tail _ (.tail _ (.tail _ (.tail _ (.head _))))))) (mt_own hw (e := 28) (by exact .tail _ (.tail _ (.tail _ (.tail _ (.tail _ (.tail _ (.tail _ (.head _)))))))) (by rw [rowsR_len, List.length_map]; exact hGl) (fun i hi => ⟨3, by rw [rowsR_len] at hi; rw [rowsR_nth hi]; exact .tail _ (.tail _ (.tail _ (.tail _ (.tail _ (.tail _ (.tail _ (.tail _ (hGm i hi))))))))⟩))))) ?_
        refine sr rfl rfl rfl ((q_and2 rfl rfl rfl)) (sr rfl rfl rfl ((q_move rfl rfl)) (sw_step rfl rfl rfl (q_call (CanCall.mk Tryz.call18) rfl (.nil) (fun _ w hw => callq hw (known_spec w))) (sr rfl rfl rfl ((q_and2 rfl rfl rfl)) (sr rfl rfl rfl ((q_assign rfl rfl)) (sw_nil (post_then (cw_ret (post_ret1 rfl (resOk_tmp rfl) ?_))))))))
        exact fun w' hw => ⟨by rw [e2]; simp, cl_drop (F := []) hw⟩
theorem lawChooses (sp tp : SlV) (p : List Un) (tgt : List Wan) (x : Wts) (w : World) (hvo : VoIn w sp p) (htp : Stb w [] (RdL tp.v tgt)) :
    Calls Tryz.prog 3 #[sp.v, tp.v, val x] w fun e w' => e = .returned (.bool true) ∧ Cl w [] [] w' := by
  cases hs : smallB p tgt 10 8
  · exact lawChooses_out sp tp p tgt x w hvo htp hs
  · by_cases hE : beginE p tgt x = 0
    · cases hP : possP p tgt
      · exact lawChooses_none sp tp p tgt x w hvo htp hs hE hP
      · exact lawChooses_yes sp tp p tgt x w hvo htp hs hE hP
    · exact lawChooses_bad sp tp p tgt x w hvo htp hs hE
end Go.Proofs.YtomjbfeafodfbaaGreat
