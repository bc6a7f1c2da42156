import Derived.Test.YtekikelejncgeaaUD
set_option autoImplicit false
set_option linter.unusedSimpArgs false
set_option linter.unusedVariables false
set_option maxRecDepth 100000
namespace Go.Proofs.Ytekikelejncgeaa
open Go.Sx
open Enc (enc val)

/-! ### the reference's Square -/
def zag (n j : Nat) : Int := if j = 0 then 0 else if j % 2 = 1 then (j : Int) / 2 + 1 else (n : Int) - (j : Int) / 2
def zagL (n k : Nat) : List Int := (List.range k).map (zag n)
theorem zagL_succ (n k : Nat) : zagL n (k + 1) = zagL n k ++ [zag n k] := by simp [zagL, List.range_succ]
theorem zagL_len (n k : Nat) : (zagL n k).length = k := by simp [zagL]
theorem zig_zag (n : Nat) : ∀ k, 2 * k + 1 ≤ n → zigTo n k = zagL n (2 * k + 1)
  | 0, _ => by simp [zigTo, zagL, zag]
  | k + 1, h => by
    rw [zigTo, zig_zag n k (by omega), if_pos (by omega), show 2 * (k + 1) + 1 = 2 * k + 1 + 1 + 1 by omega, zagL_succ n (2 * k + 1 + 1), zagL_succ n (2 * k + 1), List.append_assoc]
    rw [show zag n (2 * k + 1) = (k : Int) + 1 by rw [zag, if_neg (by omega), if_pos (by omega)]; omega, show zag n (2 * k + 1 + 1) = (n : Int) - 1 - k by rw [zag, if_neg (by omega), if_neg (by omega)]; omega]
    rfl
theorem zig_eq (n : Nat) (hn : 1 ≤ n) : zig n = zagL n n := by
  by_cases h : n % 2 = 1
  · rw [zig, zig_zag n (n / 2) (by omega)]; congr 1; omega
  · obtain ⟨k, rfl⟩ : ∃ k, n = 2 * k + 2 := ⟨n / 2 - 1, by omega⟩
    rw [zig, show (2 * k + 2) / 2 = k + 1 by omega, zigTo, zig_zag _ k (by omega), if_neg (by omega), zagL_succ _ (2 * k + 1)]
    rw [show zag (2 * k + 2) (2 * k + 1) = (k : Int) + 1 by rw [zag, if_neg (by omega), if_pos (by omega)]; omega]
theorem zig_len (n : Nat) (hn : 1 ≤ n) : (zig n).length = n := by rw [zig_eq n hn, zagL_len]
theorem revTake_succ (l : List Int) (k : Nat) (hk : k < l.length) : l.reverse.take (k + 1) = l.reverse.take k ++ [nth l (l.length - 1 - k)] := by
  rw [List.take_add_one, List.getElem?_eq_getElem (by simpa using hk), List.getElem_reverse, nth_get (by omega)]; rfl
theorem refSquare_spec (n : Nat) (hn : 1 ≤ n ∧ n ≤ 60) (w : World) :
    Calls Try.prog 40 #[.int .i64 n] w fun e w' => ∃ y : SlV × List (SlV × List Int), e = .returned y.1.v ∧ y.2.map (·.2) = squareR n ∧ Cl w [] (ownL 37 y.1.v (y.2.map (·.1)) :: rowsA y.2) w' := by
  have hzl := zig_len n hn.1
  have hzb : ∀ k, 0 ≤ nth (zig n) k ∧ nth (zig n) k ≤ 60 := nth_bd (by omega) fun v hv => by have := (zigTo_bd n (n / 2) (by omega)).2 v hv; omega
  refine calls_cw (vs := [_]) Try.func40 rfl Try.ntmps40 rfl (Cl.start0 w) ?_
  refine cw_seq ?_
  -- region 0
  refine cw_region ?_
  refine sw_step rfl rfl rfl (OpR.q (q_assign rfl rfl)) ?_
  refine sw_nil ?_
  refine post_then ?_
  refine cw_seq ?_
  -- region 1
  refine cw_region ?_
  refine sw_x rfl rfl rfl (e_build1 (α := Int) rfl rfl rfl rfl) (fun s13 => ?_)
  refine sw_step rfl rfl rfl (OpR.q (q_assign rfl rfl)) ?_
  refine sw_nil ?_
  refine post_then ?_
  refine cw_seq ?_
  -- region 2
  refine cw_region ?_
  refine sw_step rfl rfl rfl (OpR.q (q_move rfl rfl)) ?_
  refine sw_step rfl rfl rfl (OpR.q (q_sub rfl rfl rfl (by intro hc; first | omega | (simp only [List.length_set, List.length_append, List.length_cons, List.length_nil, List.length_replicate, List.length_take, List.length_drop, List.length_map]; omega) | (simp only [AllT.iff, List.all_cons, List.all_nil, id, Bool.and_eq_true, Bool.not_eq_true', decide_eq_true_eq, decide_eq_false_iff_not, and_true] at hc; first | omega | (simp only [List.length_set, List.length_append, List.length_cons, List.length_nil, List.length_replicate, List.length_take, List.length_drop, List.length_map]; omega)) | (exfalso; simp_all [AllT]; done)))) ?_
  refine sw_step rfl rfl rfl (OpR.q (q_assign rfl rfl)) ?_
  refine sw_step rfl rfl rfl (OpR.q (q_assign rfl rfl)) ?_
  refine sw_nil ?_
  refine post_then ?_
  refine cw_seq ?_
  refine cw_block ?_
  -- STOP at: loop
  refine cw_loop (S := Nat × SlV) (fun y => [(0, [], .int .i64 n), (3, [], y.2.v), (4, [], .int .i64 ((y.1 : Int) / 2 + 1)), (5, [], .int .i64 ((n : Int) - 1 - ((y.1 : Int) - 1) / 2))]) (fun y => Cl w [] [ownL 3 y.2.v (zagL n y.1)]) (fun y => 1 ≤ y.1 ∧ y.1 ≤ n) (fun y => n - y.1) (1, s13) ⟨Nat.le_refl _, hn.1⟩ (by (repeat first | exact Le.nil | refine Le.cons rfl ?_ | refine Le.cons' rfl (by congr 1; first | omega | (simp only; omega)) ?_)) (fun _ h => h) ?_
  rintro ⟨k, s⟩ ⟨hk1, hk2⟩
  dsimp only at hk1 hk2 ⊢
  have hkl := zagL_len n k
  refine cw_seq ?_
  refine cw_seq ?_
  -- region 3
  refine cw_region ?_
  refine sw_step rfl rfl rfl (OpR.q (q_move rfl rfl)) ?_
  first | refine sw_step rfl rfl rfl (OpR.q (q_len rfl (.cons rfl inferInstance (.nil)) (by first | exact fun w hw => Stb.cl (by assumption) hw | exact fun w hw => rd_own hw (by first | assumption | (repeat first | exact .head _ | apply List.Mem.tail)) | assumption))) ?_ | refine sw_step rfl rfl rfl (OpR.q (q_lenV rfl (.cons rfl inferInstance (.nil)))) ?_
  refine sw_step rfl rfl rfl (OpR.q (q_move rfl rfl)) ?_
  refine sw_step rfl rfl rfl (OpR.q (q_lss rfl rfl rfl)) ?_
  refine sw_nil ?_
  refine post_then ?_
  -- STOP at: cond
  refine cw_cond rfl (fun h => ?_) (fun h => ?_)
  · skip
    have h1 : k < n := by simp only [decide_eq_true_eq] at h; omega
    refine cw_skip ?_
    refine post_then ?_
    refine cw_block ?_
    refine cw_seq ?_
    -- region 4
    refine cw_region ?_
    refine sw_step rfl rfl rfl (OpR.q (q_move rfl rfl)) ?_
    first | refine sw_step rfl rfl rfl (OpR.q (q_len rfl (.cons rfl inferInstance (.nil)) (by first | exact fun w hw => Stb.cl (by assumption) hw | exact fun w hw => rd_own hw (by first | assumption | (repeat first | exact .head _ | apply List.Mem.tail)) | assumption))) ?_ | refine sw_step rfl rfl rfl (OpR.q (q_lenV rfl (.cons rfl inferInstance (.nil)))) ?_
    refine sw_step rfl rfl rfl (OpR.q (q_rem rfl rfl rfl (by intro hc; first | omega | (simp only [List.length_set, List.length_append, List.length_cons, List.length_nil, List.length_replicate, List.length_take, List.length_drop, List.length_map]; omega) | (simp only [AllT.iff, List.all_cons, List.all_nil, id, Bool.and_eq_true, Bool.not_eq_true', decide_eq_true_eq, decide_eq_false_iff_not, and_true] at hc; first | omega | (simp only [List.length_set, List.length_append, List.length_cons, List.length_nil, List.length_replicate, List.length_take, List.length_drop, List.length_map]; omega)) | (exfalso; simp_all [AllT]; done)))) ?_
    refine sw_step rfl rfl rfl (OpR.q (q_eql rfl rfl rfl)) ?_
    refine sw_nil ?_
    refine post_then ?_
    -- STOP at: cond
    refine cw_cond rfl (fun h2 => ?_) (fun h2 => ?_)
    · skip
      have h3 : k % 2 = 1 := by simp only [decide_eq_true_eq] at h2; omega
      refine cw_seq ?_
      -- region 5
      refine cw_region ?_
      refine sw_step rfl rfl rfl (OpR.q (q_move rfl rfl)) ?_
      refine sw_step rfl rfl rfl (OpR.q (q_move rfl rfl)) ?_
      refine sw_x rfl rfl rfl (e_build1 (α := Int) rfl rfl rfl rfl) (fun s26 => ?_)
      first | refine sw_x rfl rfl rfl (e_append (i := 0) rfl (.cons rfl inferInstance (.cons rfl inferInstance (.nil))) rfl rfl (by first | exact fun w hw => Stb.cl (by assumption) hw | exact fun w hw => rd_own hw (by first | assumption | (repeat first | exact .head _ | apply List.Mem.tail)) | assumption) (by simp only [List.length_set, List.length_append, List.length_cons, List.length_nil, List.length_replicate, List.length_take, List.length_drop, List.length_map]; omega) rfl) (fun s27 => ?_) | refine sw_x rfl rfl rfl (e_append (i := 1) rfl (.cons rfl inferInstance (.cons rfl inferInstance (.nil))) rfl rfl (by first | exact fun w hw => Stb.cl (by assumption) hw | exact fun w hw => rd_own hw (by first | assumption | (repeat first | exact .head _ | apply List.Mem.tail)) | assumption) (by simp only [List.length_set, List.length_append, List.length_cons, List.length_nil, List.length_replicate, List.length_take, List.length_drop, List.length_map]; omega) rfl) (fun s27 => ?_) | refine sw_x rfl rfl rfl (e_append (i := 2) rfl (.cons rfl inferInstance (.cons rfl inferInstance (.nil))) rfl rfl (by first | exact fun w hw => Stb.cl (by assumption) hw | exact fun w hw => rd_own hw (by first | assumption | (repeat first | exact .head _ | apply List.Mem.tail)) | assumption) (by simp only [List.length_set, List.length_append, List.length_cons, List.length_nil, List.length_replicate, List.length_take, List.length_drop, List.length_map]; omega) rfl) (fun s27 => ?_) | refine sw_x rfl rfl rfl (e_append (i := 3) rfl (.cons rfl inferInstance (.cons rfl inferInstance (.nil))) rfl rfl (by first | exact fun w hw => Stb.cl (by assumption) hw | exact fun w hw => rd_own hw (by first | assumption | (repeat first | exact .head _ | apply List.Mem.tail)) | assumption) (by simp only [List.length_set, List.length_append, List.length_cons, List.length_nil, List.length_replicate, List.length_take, List.length_drop, List.length_map]; omega) rfl) (fun s27 => ?_) | refine sw_x rfl rfl rfl (e_append (i := 4) rfl (.cons rfl inferInstance (.cons rfl inferInstance (.nil))) rfl rfl (by first | exact fun w hw => Stb.cl (by assumption) hw | exact fun w hw => rd_own hw (by first | assumption | (repeat first | exact .head _ | apply List.Mem.tail)) | assumption) (by simp only [List.length_set, List.length_append, List.length_cons, List.length_nil, List.length_replicate, List.length_take, List.length_drop, List.length_map]; omega) rfl) (fun s27 => ?_) | refine sw_x rfl rfl rfl (e_append (i := 5) rfl (.cons rfl inferInstance (.cons rfl inferInstance (.nil))) rfl rfl (by first | exact fun w hw => Stb.cl (by assumption) hw | exact fun w hw => rd_own hw (by first | assumption | (repeat first | exact .head _ | apply List.Mem.tail)) | assumption) (by simp only [List.length_set, List.length_append, List.length_cons, List.length_nil, List.length_replicate, List.length_take, List.length_drop, List.length_map]; omega) rfl) (fun s27 => ?_) | refine sw_x rfl rfl rfl (e_append (i := 6) rfl (.cons rfl inferInstance (.cons rfl inferInstance (.nil))) rfl rfl (by first | exact fun w hw => Stb.cl (by assumption) hw | exact fun w hw => rd_own hw (by first | assumption | (repeat first | exact .head _ | apply List.Mem.tail)) | assumption) (by simp only [List.length_set, List.length_append, List.length_cons, List.length_nil, List.length_replicate, List.length_take, List.length_drop, List.length_map]; omega) rfl) (fun s27 => ?_) | refine sw_x rfl rfl rfl (e_append (i := 7) rfl (.cons rfl inferInstance (.cons rfl inferInstance (.nil))) rfl rfl (by first | exact fun w hw => Stb.cl (by assumption) hw | exact fun w hw => rd_own hw (by first | assumption | (repeat first | exact .head _ | apply List.Mem.tail)) | assumption) (by simp only [List.length_set, List.length_append, List.length_cons, List.length_nil, List.length_replicate, List.length_take, List.length_drop, List.length_map]; omega) rfl) (fun s27 => ?_) | refine sw_x rfl rfl rfl (e_append (i := 8) rfl (.cons rfl inferInstance (.cons rfl inferInstance (.nil))) rfl rfl (by first | exact fun w hw => Stb.cl (by assumption) hw | exact fun w hw => rd_own hw (by first | assumption | (repeat first | exact .head _ | apply List.Mem.tail)) | assumption) (by simp only [List.length_set, List.length_append, List.length_cons, List.length_nil, List.length_replicate, List.length_take, List.length_drop, List.length_map]; omega) rfl) (fun s27 => ?_) | refine sw_x rfl rfl rfl (e_append (i := 9) rfl (.cons rfl inferInstance (.cons rfl inferInstance (.nil))) rfl rfl (by first | exact fun w hw => Stb.cl (by assumption) hw | exact fun w hw => rd_own hw (by first | assumption | (repeat first | exact .head _ | apply List.Mem.tail)) | assumption) (by simp only [List.length_set, List.length_append, List.length_cons, List.length_nil, List.length_replicate, List.length_take, List.length_drop, List.length_map]; omega) rfl) (fun s27 => ?_) | refine sw_x rfl rfl rfl (e_append (i := 10) rfl (.cons rfl inferInstance (.cons rfl inferInstance (.nil))) rfl rfl (by first | exact fun w hw => Stb.cl (by assumption) hw | exact fun w hw => rd_own hw (by first | assumption | (repeat first | exact .head _ | apply List.Mem.tail)) | assumption) (by simp only [List.length_set, List.length_append, List.length_cons, List.length_nil, List.length_replicate, List.length_take, List.length_drop, List.length_map]; omega) rfl) (fun s27 => ?_) | refine sw_x rfl rfl rfl (e_append (i := 11) rfl (.cons rfl inferInstance (.cons rfl inferInstance (.nil))) rfl rfl (by first | exact fun w hw => Stb.cl (by assumption) hw | exact fun w hw => rd_own hw (by first | assumption | (repeat first | exact .head _ | apply List.Mem.tail)) | assumption) (by simp only [List.length_set, List.length_append, List.length_cons, List.length_nil, List.length_replicate, List.length_take, List.length_drop, List.length_map]; omega) rfl) (fun s27 => ?_) | refine sw_x rfl rfl rfl (e_append (i := 12) rfl (.cons rfl inferInstance (.cons rfl inferInstance (.nil))) rfl rfl (by first | exact fun w hw => Stb.cl (by assumption) hw | exact fun w hw => rd_own hw (by first | assumption | (repeat first | exact .head _ | apply List.Mem.tail)) | assumption) (by simp only [List.length_set, List.length_append, List.length_cons, List.length_nil, List.length_replicate, List.length_take, List.length_drop, List.length_map]; omega) rfl) (fun s27 => ?_) | refine sw_x rfl rfl rfl (e_append (i := 13) rfl (.cons rfl inferInstance (.cons rfl inferInstance (.nil))) rfl rfl (by first | exact fun w hw => Stb.cl (by assumption) hw | exact fun w hw => rd_own hw (by first | assumption | (repeat first | exact .head _ | apply List.Mem.tail)) | assumption) (by simp only [List.length_set, List.length_append, List.length_cons, List.length_nil, List.length_replicate, List.length_take, List.length_drop, List.length_map]; omega) rfl) (fun s27 => ?_) | refine sw_x rfl rfl rfl (e_append (i := 14) rfl (.cons rfl inferInstance (.cons rfl inferInstance (.nil))) rfl rfl (by first | exact fun w hw => Stb.cl (by assumption) hw | exact fun w hw => rd_own hw (by first | assumption | (repeat first | exact .head _ | apply List.Mem.tail)) | assumption) (by simp only [List.length_set, List.length_append, List.length_cons, List.length_nil, List.length_replicate, List.length_take, List.length_drop, List.length_map]; omega) rfl) (fun s27 => ?_) | refine sw_x rfl rfl rfl (e_append (i := 15) rfl (.cons rfl inferInstance (.cons rfl inferInstance (.nil))) rfl rfl (by first | exact fun w hw => Stb.cl (by assumption) hw | exact fun w hw => rd_own hw (by first | assumption | (repeat first | exact .head _ | apply List.Mem.tail)) | assumption) (by simp only [List.length_set, List.length_append, List.length_cons, List.length_nil, List.length_replicate, List.length_take, List.length_drop, List.length_map]; omega) rfl) (fun s27 => ?_)
      refine sw_step rfl rfl rfl (OpR.q (q_assign rfl rfl)) ?_
      refine sw_nil ?_
      refine post_then ?_
      -- region 6
      refine cw_region ?_
      refine sw_step rfl rfl rfl (OpR.q (q_move rfl rfl)) ?_
      refine sw_step rfl rfl rfl (OpR.q (q_add rfl rfl rfl (by intro hc; first | omega | (simp only [List.length_set, List.length_append, List.length_cons, List.length_nil, List.length_replicate, List.length_take, List.length_drop, List.length_map]; omega) | (simp only [AllT.iff, List.all_cons, List.all_nil, id, Bool.and_eq_true, Bool.not_eq_true', decide_eq_true_eq, decide_eq_false_iff_not, and_true] at hc; first | omega | (simp only [List.length_set, List.length_append, List.length_cons, List.length_nil, List.length_replicate, List.length_take, List.length_drop, List.length_map]; omega)) | (exfalso; simp_all [AllT]; done)))) ?_
      refine sw_step rfl rfl rfl (OpR.q (q_assign rfl rfl)) ?_
      refine sw_nil ?_
      refine post_blk ?_
      refine post_next (k + 1, s27) (by (repeat first | exact Le.nil | refine Le.cons rfl ?_ | refine Le.cons' rfl (by congr 1; first | omega | (simp only; omega)) ?_)) (fun w3 hw3 => ?_) (by simp only; omega) (by simp only; omega)
      simp only [zagL_succ]
      rw [show zag n k = (k : Int) / 2 + 1 by rw [zag, if_neg (by omega), if_pos h3]]
      exact (fun w h => Cl.sel (by (repeat first | exact Sel.nil _ | refine Sel.take 0 rfl ?_ | refine Sel.take 1 rfl ?_ | refine Sel.take 2 rfl ?_ | refine Sel.take 3 rfl ?_ | refine Sel.take 4 rfl ?_ | refine Sel.take 5 rfl ?_ | refine Sel.take 6 rfl ?_ | refine Sel.take 7 rfl ?_ | refine Sel.take 8 rfl ?_ | refine Sel.take 9 rfl ?_ | refine Sel.take 10 rfl ?_ | refine Sel.take 11 rfl ?_)) w h) _ hw3
    · skip
      have h3 : ¬ k % 2 = 1 := by simp only [decide_eq_false_iff_not] at h2; omega
      refine cw_seq ?_
      -- region 7
      refine cw_region ?_
      refine sw_step rfl rfl rfl (OpR.q (q_move rfl rfl)) ?_
      refine sw_step rfl rfl rfl (OpR.q (q_move rfl rfl)) ?_
      refine sw_x rfl rfl rfl (e_build1 (α := Int) rfl rfl rfl rfl) (fun s32 => ?_)
      first | refine sw_x rfl rfl rfl (e_append (i := 0) rfl (.cons rfl inferInstance (.cons rfl inferInstance (.nil))) rfl rfl (by first | exact fun w hw => Stb.cl (by assumption) hw | exact fun w hw => rd_own hw (by first | assumption | (repeat first | exact .head _ | apply List.Mem.tail)) | assumption) (by simp only [List.length_set, List.length_append, List.length_cons, List.length_nil, List.length_replicate, List.length_take, List.length_drop, List.length_map]; omega) rfl) (fun s33 => ?_) | refine sw_x rfl rfl rfl (e_append (i := 1) rfl (.cons rfl inferInstance (.cons rfl inferInstance (.nil))) rfl rfl (by first | exact fun w hw => Stb.cl (by assumption) hw | exact fun w hw => rd_own hw (by first | assumption | (repeat first | exact .head _ | apply List.Mem.tail)) | assumption) (by simp only [List.length_set, List.length_append, List.length_cons, List.length_nil, List.length_replicate, List.length_take, List.length_drop, List.length_map]; omega) rfl) (fun s33 => ?_) | refine sw_x rfl rfl rfl (e_append (i := 2) rfl (.cons rfl inferInstance (.cons rfl inferInstance (.nil))) rfl rfl (by first | exact fun w hw => Stb.cl (by assumption) hw | exact fun w hw => rd_own hw (by first | assumption | (repeat first | exact .head _ | apply List.Mem.tail)) | assumption) (by simp only [List.length_set, List.length_append, List.length_cons, List.length_nil, List.length_replicate, List.length_take, List.length_drop, List.length_map]; omega) rfl) (fun s33 => ?_) | refine sw_x rfl rfl rfl (e_append (i := 3) rfl (.cons rfl inferInstance (.cons rfl inferInstance (.nil))) rfl rfl (by first | exact fun w hw => Stb.cl (by assumption) hw | exact fun w hw => rd_own hw (by first | assumption | (repeat first | exact .head _ | apply List.Mem.tail)) | assumption) (by simp only [List.length_set, List.length_append, List.length_cons, List.length_nil, List.length_replicate, List.length_take, List.length_drop, List.length_map]; omega) rfl) (fun s33 => ?_) | refine sw_x rfl rfl rfl (e_append (i := 4) rfl (.cons rfl inferInstance (.cons rfl inferInstance (.nil))) rfl rfl (by first | exact fun w hw => Stb.cl (by assumption) hw | exact fun w hw => rd_own hw (by first | assumption | (repeat first | exact .head _ | apply List.Mem.tail)) | assumption) (by simp only [List.length_set, List.length_append, List.length_cons, List.length_nil, List.length_replicate, List.length_take, List.length_drop, List.length_map]; omega) rfl) (fun s33 => ?_) | refine sw_x rfl rfl rfl (e_append (i := 5) rfl (.cons rfl inferInstance (.cons rfl inferInstance (.nil))) rfl rfl (by first | exact fun w hw => Stb.cl (by assumption) hw | exact fun w hw => rd_own hw (by first | assumption | (repeat first | exact .head _ | apply List.Mem.tail)) | assumption) (by simp only [List.length_set, List.length_append, List.length_cons, List.length_nil, List.length_replicate, List.length_take, List.length_drop, List.length_map]; omega) rfl) (fun s33 => ?_) | refine sw_x rfl rfl rfl (e_append (i := 6) rfl (.cons rfl inferInstance (.cons rfl inferInstance (.nil))) rfl rfl (by first | exact fun w hw => Stb.cl (by assumption) hw | exact fun w hw => rd_own hw (by first | assumption | (repeat first | exact .head _ | apply List.Mem.tail)) | assumption) (by simp only [List.length_set, List.length_append, List.length_cons, List.length_nil, List.length_replicate, List.length_take, List.length_drop, List.length_map]; omega) rfl) (fun s33 => ?_) | refine sw_x rfl rfl rfl (e_append (i := 7) rfl (.cons rfl inferInstance (.cons rfl inferInstance (.nil))) rfl rfl (by first | exact fun w hw => Stb.cl (by assumption) hw | exact fun w hw => rd_own hw (by first | assumption | (repeat first | exact .head _ | apply List.Mem.tail)) | assumption) (by simp only [List.length_set, List.length_append, List.length_cons, List.length_nil, List.length_replicate, List.length_take, List.length_drop, List.length_map]; omega) rfl) (fun s33 => ?_) | refine sw_x rfl rfl rfl (e_append (i := 8) rfl (.cons rfl inferInstance (.cons rfl inferInstance (.nil))) rfl rfl (by first | exact fun w hw => Stb.cl (by assumption) hw | exact fun w hw => rd_own hw (by first | assumption | (repeat first | exact .head _ | apply List.Mem.tail)) | assumption) (by simp only [List.length_set, List.length_append, List.length_cons, List.length_nil, List.length_replicate, List.length_take, List.length_drop, List.length_map]; omega) rfl) (fun s33 => ?_) | refine sw_x rfl rfl rfl (e_append (i := 9) rfl (.cons rfl inferInstance (.cons rfl inferInstance (.nil))) rfl rfl (by first | exact fun w hw => Stb.cl (by assumption) hw | exact fun w hw => rd_own hw (by first | assumption | (repeat first | exact .head _ | apply List.Mem.tail)) | assumption) (by simp only [List.length_set, List.length_append, List.length_cons, List.length_nil, List.length_replicate, List.length_take, List.length_drop, List.length_map]; omega) rfl) (fun s33 => ?_) | refine sw_x rfl rfl rfl (e_append (i := 10) rfl (.cons rfl inferInstance (.cons rfl inferInstance (.nil))) rfl rfl (by first | exact fun w hw => Stb.cl (by assumption) hw | exact fun w hw => rd_own hw (by first | assumption | (repeat first | exact .head _ | apply List.Mem.tail)) | assumption) (by simp only [List.length_set, List.length_append, List.length_cons, List.length_nil, List.length_replicate, List.length_take, List.length_drop, List.length_map]; omega) rfl) (fun s33 => ?_) | refine sw_x rfl rfl rfl (e_append (i := 11) rfl (.cons rfl inferInstance (.cons rfl inferInstance (.nil))) rfl rfl (by first | exact fun w hw => Stb.cl (by assumption) hw | exact fun w hw => rd_own hw (by first | assumption | (repeat first | exact .head _ | apply List.Mem.tail)) | assumption) (by simp only [List.length_set, List.length_append, List.length_cons, List.length_nil, List.length_replicate, List.length_take, List.length_drop, List.length_map]; omega) rfl) (fun s33 => ?_) | refine sw_x rfl rfl rfl (e_append (i := 12) rfl (.cons rfl inferInstance (.cons rfl inferInstance (.nil))) rfl rfl (by first | exact fun w hw => Stb.cl (by assumption) hw | exact fun w hw => rd_own hw (by first | assumption | (repeat first | exact .head _ | apply List.Mem.tail)) | assumption) (by simp only [List.length_set, List.length_append, List.length_cons, List.length_nil, List.length_replicate, List.length_take, List.length_drop, List.length_map]; omega) rfl) (fun s33 => ?_) | refine sw_x rfl rfl rfl (e_append (i := 13) rfl (.cons rfl inferInstance (.cons rfl inferInstance (.nil))) rfl rfl (by first | exact fun w hw => Stb.cl (by assumption) hw | exact fun w hw => rd_own hw (by first | assumption | (repeat first | exact .head _ | apply List.Mem.tail)) | assumption) (by simp only [List.length_set, List.length_append, List.length_cons, List.length_nil, List.length_replicate, List.length_take, List.length_drop, List.length_map]; omega) rfl) (fun s33 => ?_) | refine sw_x rfl rfl rfl (e_append (i := 14) rfl (.cons rfl inferInstance (.cons rfl inferInstance (.nil))) rfl rfl (by first | exact fun w hw => Stb.cl (by assumption) hw | exact fun w hw => rd_own hw (by first | assumption | (repeat first | exact .head _ | apply List.Mem.tail)) | assumption) (by simp only [List.length_set, List.length_append, List.length_cons, List.length_nil, List.length_replicate, List.length_take, List.length_drop, List.length_map]; omega) rfl) (fun s33 => ?_) | refine sw_x rfl rfl rfl (e_append (i := 15) rfl (.cons rfl inferInstance (.cons rfl inferInstance (.nil))) rfl rfl (by first | exact fun w hw => Stb.cl (by assumption) hw | exact fun w hw => rd_own hw (by first | assumption | (repeat first | exact .head _ | apply List.Mem.tail)) | assumption) (by simp only [List.length_set, List.length_append, List.length_cons, List.length_nil, List.length_replicate, List.length_take, List.length_drop, List.length_map]; omega) rfl) (fun s33 => ?_)
      refine sw_step rfl rfl rfl (OpR.q (q_assign rfl rfl)) ?_
      refine sw_nil ?_
      refine post_then ?_
      -- region 8
      refine cw_region ?_
      refine sw_step rfl rfl rfl (OpR.q (q_move rfl rfl)) ?_
      refine sw_step rfl rfl rfl (OpR.q (q_sub rfl rfl rfl (by intro hc; first | omega | (simp only [List.length_set, List.length_append, List.length_cons, List.length_nil, List.length_replicate, List.length_take, List.length_drop, List.length_map]; omega) | (simp only [AllT.iff, List.all_cons, List.all_nil, id, Bool.and_eq_true, Bool.not_eq_true', decide_eq_true_eq, decide_eq_false_iff_not, and_true] at hc; first | omega | (simp only [List.length_set, List.length_append, List.length_cons, List.length_nil, List.length_replicate, List.length_take, List.length_drop, List.length_map]; omega)) | (exfalso; simp_all [AllT]; done)))) ?_
      refine sw_step rfl rfl rfl (OpR.q (q_assign rfl rfl)) ?_
      refine sw_nil ?_
      refine post_blk ?_
      refine post_next (k + 1, s33) (by (repeat first | exact Le.nil | refine Le.cons rfl ?_ | refine Le.cons' rfl (by congr 1; first | omega | (simp only; omega)) ?_)) (fun w3 hw3 => ?_) (by simp only; omega) (by simp only; omega)
      simp only [zagL_succ]
      rw [show zag n k = (n : Int) - 1 - ((k : Int) - 1) / 2 by rw [zag, if_neg (by omega), if_neg h3]; omega]
      exact (fun w h => Cl.sel (by (repeat first | exact Sel.nil _ | refine Sel.take 0 rfl ?_ | refine Sel.take 1 rfl ?_ | refine Sel.take 2 rfl ?_ | refine Sel.take 3 rfl ?_ | refine Sel.take 4 rfl ?_ | refine Sel.take 5 rfl ?_ | refine Sel.take 6 rfl ?_ | refine Sel.take 7 rfl ?_ | refine Sel.take 8 rfl ?_ | refine Sel.take 9 rfl ?_ | refine Sel.take 10 rfl ?_ | refine Sel.take 11 rfl ?_)) w h) _ hw3
  · skip
    have h1 : k = n := by simp only [decide_eq_false_iff_not] at h; omega
    subst h1
    rw [← zig_eq k hk1]
    refine cw_exit ?_
    refine post_then_x ?_
    refine post_then_x ?_
    refine post_blk_eq ?_
    refine post_then ?_
    refine cw_seq ?_
    -- region 9
    refine cw_region ?_
    refine sw_step rfl rfl rfl (OpR.q (q_assign rfl rfl)) ?_
    refine sw_nil ?_
    refine post_then ?_
    refine cw_seq ?_
    refine cw_seq ?_
    -- region 10
    refine cw_region ?_
    refine sw_step rfl rfl rfl (OpR.q (q_assign rfl rfl)) ?_
    refine sw_nil ?_
    refine post_then ?_
    refine cw_block ?_
    -- STOP at: loop
    refine cw_loop (S := Nat × SlV × List (SlV × List Int)) (fun y => [(0, [], .int .i64 k), (3, [], s.v), (6, [], y.2.1.v), (7, [], .int .i64 y.1)]) (fun y => Cl w [] (ownL 37 y.2.1.v (y.2.2.map (·.1)) :: ownL 3 s.v (zig k) :: rowsA y.2.2)) (fun y => y.1 ≤ k ∧ y.2.2.map (·.2) = (List.range y.1).map (sqRow k)) (fun y => k - y.1) (0, ⟨none, 0, 0⟩, []) (by simp) (by (repeat first | exact Le.nil | refine Le.cons rfl ?_ | refine Le.cons' rfl (by congr 1; first | omega | (simp only; omega)) ?_)) (fun _ h => h.addNil (α := SlV) 37) ?_
    rintro ⟨r, s6, rs⟩ ⟨hr, hrs⟩
    dsimp only at hr hrs ⊢
    have hrl : rs.length = r := by have := congrArg List.length hrs; simpa using this
    refine cw_seq ?_
    refine cw_seq ?_
    -- region 11
    refine cw_region ?_
    refine sw_step rfl rfl rfl (OpR.q (q_move rfl rfl)) ?_
    refine sw_step rfl rfl rfl (OpR.q (q_move rfl rfl)) ?_
    refine sw_step rfl rfl rfl (OpR.q (q_lss rfl rfl rfl)) ?_
    refine sw_nil ?_
    refine post_then ?_
    -- STOP at: cond
    refine cw_cond rfl (fun h5 => ?_) (fun h5 => ?_)
    · skip
      have hr' : r < k := by simp at h5; omega
      refine cw_skip ?_
      refine post_then ?_
      refine cw_seq ?_
      refine cw_block ?_
      refine cw_seq ?_
      -- region 13
      refine cw_region ?_
      refine sw_step rfl rfl rfl (OpR.q (q_assign rfl rfl)) ?_
      refine sw_nil ?_
      refine post_then ?_
      refine cw_seq ?_
      refine cw_seq ?_
      -- region 14
      refine cw_region ?_
      refine sw_step rfl rfl rfl (OpR.q (q_assign rfl rfl)) ?_
      refine sw_nil ?_
      refine post_then ?_
      refine cw_block ?_
      -- STOP at: loop
      refine cw_loop (S := Nat × SlV) (fun y => [(0, [], .int .i64 k), (3, [], s.v), (6, [], s6.v), (7, [], .int .i64 r), (8, [], y.2.v), (9, [], .int .i64 y.1)]) (fun y => Cl w [] (ownL 3 y.2.v ((sqRow k r).take y.1) :: ownL 37 s6.v (rs.map (·.1)) :: ownL 3 s.v (zig k) :: rowsA rs)) (fun y => y.1 ≤ k) (fun y => k - y.1) (0, ⟨none, 0, 0⟩) (by simp) (by (repeat first | exact Le.nil | refine Le.cons rfl ?_ | refine Le.cons' rfl (by congr 1; first | omega | (simp only; omega)) ?_)) (fun _ h => h.addNil (α := Int) 3) ?_
      rintro ⟨i, s8⟩ hi
      dsimp only at hi ⊢
      have hz := hzb i
      have hl9 := sqRow_len k r
      refine cw_seq ?_
      refine cw_seq ?_
      -- region 15
      refine cw_region ?_
      refine sw_step rfl rfl rfl (OpR.q (q_move rfl rfl)) ?_
      refine sw_step rfl rfl rfl (OpR.q (q_move rfl rfl)) ?_
      refine sw_step rfl rfl rfl (OpR.q (q_lss rfl rfl rfl)) ?_
      refine sw_nil ?_
      refine post_then ?_
      -- STOP at: cond
      refine cw_cond rfl (fun h6 => ?_) (fun h6 => ?_)
      · skip
        have hi' : i < (zig k).length := by simp at h6; omega
        refine cw_skip ?_
        refine post_then ?_
        refine cw_seq ?_
        refine cw_block ?_
        -- region 17
        refine cw_region ?_
        refine sw_step rfl rfl rfl (OpR.q (q_move rfl rfl)) ?_
        refine sw_step rfl rfl rfl (OpR.q (q_move rfl rfl)) ?_
        refine sw_step rfl rfl rfl (OpR.q (q_move rfl rfl)) ?_
        first | refine sw_step rfl rfl rfl (OpR.q (q_indexN rfl rfl rfl (by first | exact fun w hw => Stb.cl (by assumption) hw | exact fun w hw => rd_own hw (by first | assumption | (repeat first | exact .head _ | apply List.Mem.tail)) | assumption) (by intro hc; first | omega | (simp only [List.length_set, List.length_append, List.length_cons, List.length_nil, List.length_replicate, List.length_take, List.length_drop, List.length_map]; omega) | (simp only [AllT.iff, List.all_cons, List.all_nil, id, Bool.and_eq_true, Bool.not_eq_true', decide_eq_true_eq, decide_eq_false_iff_not, and_true] at hc; first | omega | (simp only [List.length_set, List.length_append, List.length_cons, List.length_nil, List.length_replicate, List.length_take, List.length_drop, List.length_map]; omega)) | (exfalso; simp_all [AllT]; done)))) ?_ | refine sw_step rfl rfl rfl (OpR.q (q_index rfl rfl rfl (by first | exact fun w hw => Stb.cl (by assumption) hw | exact fun w hw => rd_own hw (by first | assumption | (repeat first | exact .head _ | apply List.Mem.tail)) | assumption) (by intro hc; first | omega | (simp only [List.length_set, List.length_append, List.length_cons, List.length_nil, List.length_replicate, List.length_take, List.length_drop, List.length_map]; omega) | (simp only [AllT.iff, List.all_cons, List.all_nil, id, Bool.and_eq_true, Bool.not_eq_true', decide_eq_true_eq, decide_eq_false_iff_not, and_true] at hc; first | omega | (simp only [List.length_set, List.length_append, List.length_cons, List.length_nil, List.length_replicate, List.length_take, List.length_drop, List.length_map]; omega)) | (exfalso; simp_all [AllT]; done)))) ?_
        first | refine sw_step rfl rfl rfl (OpR.q (q_loadC rfl rfl (by first | assumption | (repeat first | exact .head _ | apply List.Mem.tail)) rfl)) ?_ | refine sw_step rfl rfl rfl (OpR.q (q_loadA rfl rfl (by first | assumption | (repeat first | exact .head _ | apply List.Mem.tail)) rfl)) ?_ | refine sw_step rfl rfl rfl (OpR.q (q_loadEl rfl rfl rfl (by first | exact fun w hw => Stb.cl (by assumption) hw | exact fun w hw => rd_own hw (by first | assumption | (repeat first | exact .head _ | apply List.Mem.tail)) | assumption) (by intro hc; first | omega | (simp only [List.length_set, List.length_append, List.length_cons, List.length_nil, List.length_replicate, List.length_take, List.length_drop, List.length_map]; omega) | (simp only [AllT.iff, List.all_cons, List.all_nil, id, Bool.and_eq_true, Bool.not_eq_true', decide_eq_true_eq, decide_eq_false_iff_not, and_true] at hc; first | omega | (simp only [List.length_set, List.length_append, List.length_cons, List.length_nil, List.length_replicate, List.length_take, List.length_drop, List.length_map]; omega)) | (exfalso; simp_all [AllT]; done)))) ?_ | refine sw_step rfl rfl rfl (OpR.q (q_loadF rfl rfl rfl (by first | exact fun w hw => Stb.cl (by assumption) hw | exact fun w hw => rd_own hw (by first | assumption | (repeat first | exact .head _ | apply List.Mem.tail)) | assumption) (by intro hc; first | omega | (simp only [List.length_set, List.length_append, List.length_cons, List.length_nil, List.length_replicate, List.length_take, List.length_drop, List.length_map]; omega) | (simp only [AllT.iff, List.all_cons, List.all_nil, id, Bool.and_eq_true, Bool.not_eq_true', decide_eq_true_eq, decide_eq_false_iff_not, and_true] at hc; first | omega | (simp only [List.length_set, List.length_append, List.length_cons, List.length_nil, List.length_replicate, List.length_take, List.length_drop, List.length_map]; omega)) | (exfalso; simp_all [AllT]; done)) rfl)) ?_ | refine sw_step rfl rfl rfl (OpR.q (q_loadS rfl rfl (fun w hw => Stb.cl (by assumption) hw) rfl)) ?_
        refine sw_step rfl rfl rfl (OpR.q (q_move rfl rfl)) ?_
        refine sw_step rfl rfl rfl (OpR.q (q_add rfl rfl rfl (by intro hc; first | omega | (simp only [List.length_set, List.length_append, List.length_cons, List.length_nil, List.length_replicate, List.length_take, List.length_drop, List.length_map]; omega) | (simp only [AllT.iff, List.all_cons, List.all_nil, id, Bool.and_eq_true, Bool.not_eq_true', decide_eq_true_eq, decide_eq_false_iff_not, and_true] at hc; first | omega | (simp only [List.length_set, List.length_append, List.length_cons, List.length_nil, List.length_replicate, List.length_take, List.length_drop, List.length_map]; omega)) | (exfalso; simp_all [AllT]; done)))) ?_
        refine sw_step rfl rfl rfl (OpR.q (q_move rfl rfl)) ?_
        refine sw_step rfl rfl rfl (OpR.q (q_rem rfl rfl rfl (by intro hc; first | omega | (simp only [List.length_set, List.length_append, List.length_cons, List.length_nil, List.length_replicate, List.length_take, List.length_drop, List.length_map]; omega) | (simp only [AllT.iff, List.all_cons, List.all_nil, id, Bool.and_eq_true, Bool.not_eq_true', decide_eq_true_eq, decide_eq_false_iff_not, and_true] at hc; first | omega | (simp only [List.length_set, List.length_append, List.length_cons, List.length_nil, List.length_replicate, List.length_take, List.length_drop, List.length_map]; omega)) | (exfalso; simp_all [AllT]; done)))) ?_
        refine sw_x rfl rfl rfl (e_build1 (α := Int) rfl rfl rfl rfl) (fun s55 => ?_)
        first | refine sw_x rfl rfl rfl (e_append (i := 0) rfl (.cons rfl inferInstance (.cons rfl inferInstance (.nil))) rfl rfl (by first | exact fun w hw => Stb.cl (by assumption) hw | exact fun w hw => rd_own hw (by first | assumption | (repeat first | exact .head _ | apply List.Mem.tail)) | assumption) (by simp only [List.length_set, List.length_append, List.length_cons, List.length_nil, List.length_replicate, List.length_take, List.length_drop, List.length_map]; omega) rfl) (fun s56 => ?_) | refine sw_x rfl rfl rfl (e_append (i := 1) rfl (.cons rfl inferInstance (.cons rfl inferInstance (.nil))) rfl rfl (by first | exact fun w hw => Stb.cl (by assumption) hw | exact fun w hw => rd_own hw (by first | assumption | (repeat first | exact .head _ | apply List.Mem.tail)) | assumption) (by simp only [List.length_set, List.length_append, List.length_cons, List.length_nil, List.length_replicate, List.length_take, List.length_drop, List.length_map]; omega) rfl) (fun s56 => ?_) | refine sw_x rfl rfl rfl (e_append (i := 2) rfl (.cons rfl inferInstance (.cons rfl inferInstance (.nil))) rfl rfl (by first | exact fun w hw => Stb.cl (by assumption) hw | exact fun w hw => rd_own hw (by first | assumption | (repeat first | exact .head _ | apply List.Mem.tail)) | assumption) (by simp only [List.length_set, List.length_append, List.length_cons, List.length_nil, List.length_replicate, List.length_take, List.length_drop, List.length_map]; omega) rfl) (fun s56 => ?_) | refine sw_x rfl rfl rfl (e_append (i := 3) rfl (.cons rfl inferInstance (.cons rfl inferInstance (.nil))) rfl rfl (by first | exact fun w hw => Stb.cl (by assumption) hw | exact fun w hw => rd_own hw (by first | assumption | (repeat first | exact .head _ | apply List.Mem.tail)) | assumption) (by simp only [List.length_set, List.length_append, List.length_cons, List.length_nil, List.length_replicate, List.length_take, List.length_drop, List.length_map]; omega) rfl) (fun s56 => ?_) | refine sw_x rfl rfl rfl (e_append (i := 4) rfl (.cons rfl inferInstance (.cons rfl inferInstance (.nil))) rfl rfl (by first | exact fun w hw => Stb.cl (by assumption) hw | exact fun w hw => rd_own hw (by first | assumption | (repeat first | exact .head _ | apply List.Mem.tail)) | assumption) (by simp only [List.length_set, List.length_append, List.length_cons, List.length_nil, List.length_replicate, List.length_take, List.length_drop, List.length_map]; omega) rfl) (fun s56 => ?_) | refine sw_x rfl rfl rfl (e_append (i := 5) rfl (.cons rfl inferInstance (.cons rfl inferInstance (.nil))) rfl rfl (by first | exact fun w hw => Stb.cl (by assumption) hw | exact fun w hw => rd_own hw (by first | assumption | (repeat first | exact .head _ | apply List.Mem.tail)) | assumption) (by simp only [List.length_set, List.length_append, List.length_cons, List.length_nil, List.length_replicate, List.length_take, List.length_drop, List.length_map]; omega) rfl) (fun s56 => ?_) | refine sw_x rfl rfl rfl (e_append (i := 6) rfl (.cons rfl inferInstance (.cons rfl inferInstance (.nil))) rfl rfl (by first | exact fun w hw => Stb.cl (by assumption) hw | exact fun w hw => rd_own hw (by first | assumption | (repeat first | exact .head _ | apply List.Mem.tail)) | assumption) (by simp only [List.length_set, List.length_append, List.length_cons, List.length_nil, List.length_replicate, List.length_take, List.length_drop, List.length_map]; omega) rfl) (fun s56 => ?_) | refine sw_x rfl rfl rfl (e_append (i := 7) rfl (.cons rfl inferInstance (.cons rfl inferInstance (.nil))) rfl rfl (by first | exact fun w hw => Stb.cl (by assumption) hw | exact fun w hw => rd_own hw (by first | assumption | (repeat first | exact .head _ | apply List.Mem.tail)) | assumption) (by simp only [List.length_set, List.length_append, List.length_cons, List.length_nil, List.length_replicate, List.length_take, List.length_drop, List.length_map]; omega) rfl) (fun s56 => ?_) | refine sw_x rfl rfl rfl (e_append (i := 8) rfl (.cons rfl inferInstance (.cons rfl inferInstance (.nil))) rfl rfl (by first | exact fun w hw => Stb.cl (by assumption) hw | exact fun w hw => rd_own hw (by first | assumption | (repeat first | exact .head _ | apply List.Mem.tail)) | assumption) (by simp only [List.length_set, List.length_append, List.length_cons, List.length_nil, List.length_replicate, List.length_take, List.length_drop, List.length_map]; omega) rfl) (fun s56 => ?_) | refine sw_x rfl rfl rfl (e_append (i := 9) rfl (.cons rfl inferInstance (.cons rfl inferInstance (.nil))) rfl rfl (by first | exact fun w hw => Stb.cl (by assumption) hw | exact fun w hw => rd_own hw (by first | assumption | (repeat first | exact .head _ | apply List.Mem.tail)) | assumption) (by simp only [List.length_set, List.length_append, List.length_cons, List.length_nil, List.length_replicate, List.length_take, List.length_drop, List.length_map]; omega) rfl) (fun s56 => ?_) | refine sw_x rfl rfl rfl (e_append (i := 10) rfl (.cons rfl inferInstance (.cons rfl inferInstance (.nil))) rfl rfl (by first | exact fun w hw => Stb.cl (by assumption) hw | exact fun w hw => rd_own hw (by first | assumption | (repeat first | exact .head _ | apply List.Mem.tail)) | assumption) (by simp only [List.length_set, List.length_append, List.length_cons, List.length_nil, List.length_replicate, List.length_take, List.length_drop, List.length_map]; omega) rfl) (fun s56 => ?_) | refine sw_x rfl rfl rfl (e_append (i := 11) rfl (.cons rfl inferInstance (.cons rfl inferInstance (.nil))) rfl rfl (by first | exact fun w hw => Stb.cl (by assumption) hw | exact fun w hw => rd_own hw (by first | assumption | (repeat first | exact .head _ | apply List.Mem.tail)) | assumption) (by simp only [List.length_set, List.length_append, List.length_cons, List.length_nil, List.length_replicate, List.length_take, List.length_drop, List.length_map]; omega) rfl) (fun s56 => ?_) | refine sw_x rfl rfl rfl (e_append (i := 12) rfl (.cons rfl inferInstance (.cons rfl inferInstance (.nil))) rfl rfl (by first | exact fun w hw => Stb.cl (by assumption) hw | exact fun w hw => rd_own hw (by first | assumption | (repeat first | exact .head _ | apply List.Mem.tail)) | assumption) (by simp only [List.length_set, List.length_append, List.length_cons, List.length_nil, List.length_replicate, List.length_take, List.length_drop, List.length_map]; omega) rfl) (fun s56 => ?_) | refine sw_x rfl rfl rfl (e_append (i := 13) rfl (.cons rfl inferInstance (.cons rfl inferInstance (.nil))) rfl rfl (by first | exact fun w hw => Stb.cl (by assumption) hw | exact fun w hw => rd_own hw (by first | assumption | (repeat first | exact .head _ | apply List.Mem.tail)) | assumption) (by simp only [List.length_set, List.length_append, List.length_cons, List.length_nil, List.length_replicate, List.length_take, List.length_drop, List.length_map]; omega) rfl) (fun s56 => ?_) | refine sw_x rfl rfl rfl (e_append (i := 14) rfl (.cons rfl inferInstance (.cons rfl inferInstance (.nil))) rfl rfl (by first | exact fun w hw => Stb.cl (by assumption) hw | exact fun w hw => rd_own hw (by first | assumption | (repeat first | exact .head _ | apply List.Mem.tail)) | assumption) (by simp only [List.length_set, List.length_append, List.length_cons, List.length_nil, List.length_replicate, List.length_take, List.length_drop, List.length_map]; omega) rfl) (fun s56 => ?_) | refine sw_x rfl rfl rfl (e_append (i := 15) rfl (.cons rfl inferInstance (.cons rfl inferInstance (.nil))) rfl rfl (by first | exact fun w hw => Stb.cl (by assumption) hw | exact fun w hw => rd_own hw (by first | assumption | (repeat first | exact .head _ | apply List.Mem.tail)) | assumption) (by simp only [List.length_set, List.length_append, List.length_cons, List.length_nil, List.length_replicate, List.length_take, List.length_drop, List.length_map]; omega) rfl) (fun s56 => ?_)
        refine sw_step rfl rfl rfl (OpR.q (q_assign rfl rfl)) ?_
        refine sw_nil ?_
        refine post_blk ?_
        refine post_then ?_
        -- region 16
        refine cw_region ?_
        refine sw_step rfl rfl rfl (OpR.q (q_move rfl rfl)) ?_
        refine sw_step rfl rfl rfl (OpR.q (q_add rfl rfl rfl (by intro hc; first | omega | (simp only [List.length_set, List.length_append, List.length_cons, List.length_nil, List.length_replicate, List.length_take, List.length_drop, List.length_map]; omega) | (simp only [AllT.iff, List.all_cons, List.all_nil, id, Bool.and_eq_true, Bool.not_eq_true', decide_eq_true_eq, decide_eq_false_iff_not, and_true] at hc; first | omega | (simp only [List.length_set, List.length_append, List.length_cons, List.length_nil, List.length_replicate, List.length_take, List.length_drop, List.length_map]; omega)) | (exfalso; simp_all [AllT]; done)))) ?_
        refine sw_step rfl rfl rfl (OpR.q (q_assign rfl rfl)) ?_
        refine sw_nil ?_
        refine post_next (i + 1, s56) (by (repeat first | exact Le.nil | refine Le.cons rfl ?_ | refine Le.cons' rfl (by congr 1; first | omega | (simp only; omega)) ?_)) (fun w3 hw3 => ?_) (by simp only; omega) (by simp only; omega)
        simp only [sqRow_succ k r i hi']
        exact hw3.tail
      · skip
        have hi' : i = k := by simp at h6; omega
        have htk : (sqRow k r).take i = sqRow k r := List.take_of_length_le (by omega)
        rw [htk]
        refine cw_exit ?_
        refine post_then_x ?_
        refine post_then_x ?_
        refine post_blk_eq ?_
        refine post_then ?_
        -- region 18
        refine cw_region ?_
        refine sw_step rfl rfl rfl (OpR.q (q_move rfl rfl)) ?_
        refine sw_step rfl rfl rfl (OpR.q (q_move rfl rfl)) ?_
        refine sw_x rfl rfl rfl (e_build1 (α := SlV) rfl rfl rfl rfl) (fun s59 => ?_)
        first | refine sw_x rfl rfl rfl (e_append (i := 0) rfl (.cons rfl inferInstance (.cons rfl inferInstance (.nil))) rfl rfl (by first | exact fun w hw => Stb.cl (by assumption) hw | exact fun w hw => rd_own hw (by first | assumption | (repeat first | exact .head _ | apply List.Mem.tail)) | assumption) (by simp only [List.length_set, List.length_append, List.length_cons, List.length_nil, List.length_replicate, List.length_take, List.length_drop, List.length_map]; omega) rfl) (fun s60 => ?_) | refine sw_x rfl rfl rfl (e_append (i := 1) rfl (.cons rfl inferInstance (.cons rfl inferInstance (.nil))) rfl rfl (by first | exact fun w hw => Stb.cl (by assumption) hw | exact fun w hw => rd_own hw (by first | assumption | (repeat first | exact .head _ | apply List.Mem.tail)) | assumption) (by simp only [List.length_set, List.length_append, List.length_cons, List.length_nil, List.length_replicate, List.length_take, List.length_drop, List.length_map]; omega) rfl) (fun s60 => ?_) | refine sw_x rfl rfl rfl (e_append (i := 2) rfl (.cons rfl inferInstance (.cons rfl inferInstance (.nil))) rfl rfl (by first | exact fun w hw => Stb.cl (by assumption) hw | exact fun w hw => rd_own hw (by first | assumption | (repeat first | exact .head _ | apply List.Mem.tail)) | assumption) (by simp only [List.length_set, List.length_append, List.length_cons, List.length_nil, List.length_replicate, List.length_take, List.length_drop, List.length_map]; omega) rfl) (fun s60 => ?_) | refine sw_x rfl rfl rfl (e_append (i := 3) rfl (.cons rfl inferInstance (.cons rfl inferInstance (.nil))) rfl rfl (by first | exact fun w hw => Stb.cl (by assumption) hw | exact fun w hw => rd_own hw (by first | assumption | (repeat first | exact .head _ | apply List.Mem.tail)) | assumption) (by simp only [List.length_set, List.length_append, List.length_cons, List.length_nil, List.length_replicate, List.length_take, List.length_drop, List.length_map]; omega) rfl) (fun s60 => ?_) | refine sw_x rfl rfl rfl (e_append (i := 4) rfl (.cons rfl inferInstance (.cons rfl inferInstance (.nil))) rfl rfl (by first | exact fun w hw => Stb.cl (by assumption) hw | exact fun w hw => rd_own hw (by first | assumption | (repeat first | exact .head _ | apply List.Mem.tail)) | assumption) (by simp only [List.length_set, List.length_append, List.length_cons, List.length_nil, List.length_replicate, List.length_take, List.length_drop, List.length_map]; omega) rfl) (fun s60 => ?_) | refine sw_x rfl rfl rfl (e_append (i := 5) rfl (.cons rfl inferInstance (.cons rfl inferInstance (.nil))) rfl rfl (by first | exact fun w hw => Stb.cl (by assumption) hw | exact fun w hw => rd_own hw (by first | assumption | (repeat first | exact .head _ | apply List.Mem.tail)) | assumption) (by simp only [List.length_set, List.length_append, List.length_cons, List.length_nil, List.length_replicate, List.length_take, List.length_drop, List.length_map]; omega) rfl) (fun s60 => ?_) | refine sw_x rfl rfl rfl (e_append (i := 6) rfl (.cons rfl inferInstance (.cons rfl inferInstance (.nil))) rfl rfl (by first | exact fun w hw => Stb.cl (by assumption) hw | exact fun w hw => rd_own hw (by first | assumption | (repeat first | exact .head _ | apply List.Mem.tail)) | assumption) (by simp only [List.length_set, List.length_append, List.length_cons, List.length_nil, List.length_replicate, List.length_take, List.length_drop, List.length_map]; omega) rfl) (fun s60 => ?_) | refine sw_x rfl rfl rfl (e_append (i := 7) rfl (.cons rfl inferInstance (.cons rfl inferInstance (.nil))) rfl rfl (by first | exact fun w hw => Stb.cl (by assumption) hw | exact fun w hw => rd_own hw (by first | assumption | (repeat first | exact .head _ | apply List.Mem.tail)) | assumption) (by simp only [List.length_set, List.length_append, List.length_cons, List.length_nil, List.length_replicate, List.length_take, List.length_drop, List.length_map]; omega) rfl) (fun s60 => ?_) | refine sw_x rfl rfl rfl (e_append (i := 8) rfl (.cons rfl inferInstance (.cons rfl inferInstance (.nil))) rfl rfl (by first | exact fun w hw => Stb.cl (by assumption) hw | exact fun w hw => rd_own hw (by first | assumption | (repeat first | exact .head _ | apply List.Mem.tail)) | assumption) (by simp only [List.length_set, List.length_append, List.length_cons, List.length_nil, List.length_replicate, List.length_take, List.length_drop, List.length_map]; omega) rfl) (fun s60 => ?_) | refine sw_x rfl rfl rfl (e_append (i := 9) rfl (.cons rfl inferInstance (.cons rfl inferInstance (.nil))) rfl rfl (by first | exact fun w hw => Stb.cl (by assumption) hw | exact fun w hw => rd_own hw (by first | assumption | (repeat first | exact .head _ | apply List.Mem.tail)) | assumption) (by simp only [List.length_set, List.length_append, List.length_cons, List.length_nil, List.length_replicate, List.length_take, List.length_drop, List.length_map]; omega) rfl) (fun s60 => ?_) | refine sw_x rfl rfl rfl (e_append (i := 10) rfl (.cons rfl inferInstance (.cons rfl inferInstance (.nil))) rfl rfl (by first | exact fun w hw => Stb.cl (by assumption) hw | exact fun w hw => rd_own hw (by first | assumption | (repeat first | exact .head _ | apply List.Mem.tail)) | assumption) (by simp only [List.length_set, List.length_append, List.length_cons, List.length_nil, List.length_replicate, List.length_take, List.length_drop, List.length_map]; omega) rfl) (fun s60 => ?_) | refine sw_x rfl rfl rfl (e_append (i := 11) rfl (.cons rfl inferInstance (.cons rfl inferInstance (.nil))) rfl rfl (by first | exact fun w hw => Stb.cl (by assumption) hw | exact fun w hw => rd_own hw (by first | assumption | (repeat first | exact .head _ | apply List.Mem.tail)) | assumption) (by simp only [List.length_set, List.length_append, List.length_cons, List.length_nil, List.length_replicate, List.length_take, List.length_drop, List.length_map]; omega) rfl) (fun s60 => ?_) | refine sw_x rfl rfl rfl (e_append (i := 12) rfl (.cons rfl inferInstance (.cons rfl inferInstance (.nil))) rfl rfl (by first | exact fun w hw => Stb.cl (by assumption) hw | exact fun w hw => rd_own hw (by first | assumption | (repeat first | exact .head _ | apply List.Mem.tail)) | assumption) (by simp only [List.length_set, List.length_append, List.length_cons, List.length_nil, List.length_replicate, List.length_take, List.length_drop, List.length_map]; omega) rfl) (fun s60 => ?_) | refine sw_x rfl rfl rfl (e_append (i := 13) rfl (.cons rfl inferInstance (.cons rfl inferInstance (.nil))) rfl rfl (by first | exact fun w hw => Stb.cl (by assumption) hw | exact fun w hw => rd_own hw (by first | assumption | (repeat first | exact .head _ | apply List.Mem.tail)) | assumption) (by simp only [List.length_set, List.length_append, List.length_cons, List.length_nil, List.length_replicate, List.length_take, List.length_drop, List.length_map]; omega) rfl) (fun s60 => ?_) | refine sw_x rfl rfl rfl (e_append (i := 14) rfl (.cons rfl inferInstance (.cons rfl inferInstance (.nil))) rfl rfl (by first | exact fun w hw => Stb.cl (by assumption) hw | exact fun w hw => rd_own hw (by first | assumption | (repeat first | exact .head _ | apply List.Mem.tail)) | assumption) (by simp only [List.length_set, List.length_append, List.length_cons, List.length_nil, List.length_replicate, List.length_take, List.length_drop, List.length_map]; omega) rfl) (fun s60 => ?_) | refine sw_x rfl rfl rfl (e_append (i := 15) rfl (.cons rfl inferInstance (.cons rfl inferInstance (.nil))) rfl rfl (by first | exact fun w hw => Stb.cl (by assumption) hw | exact fun w hw => rd_own hw (by first | assumption | (repeat first | exact .head _ | apply List.Mem.tail)) | assumption) (by simp only [List.length_set, List.length_append, List.length_cons, List.length_nil, List.length_replicate, List.length_take, List.length_drop, List.length_map]; omega) rfl) (fun s60 => ?_)
        refine sw_step rfl rfl rfl (OpR.q (q_assign rfl rfl)) ?_
        refine sw_nil ?_
        refine post_blk ?_
        refine post_then ?_
        -- region 12
        refine cw_region ?_
        refine sw_step rfl rfl rfl (OpR.q (q_move rfl rfl)) ?_
        refine sw_step rfl rfl rfl (OpR.q (q_add rfl rfl rfl (by intro hc; first | omega | (simp only [List.length_set, List.length_append, List.length_cons, List.length_nil, List.length_replicate, List.length_take, List.length_drop, List.length_map]; omega) | (simp only [AllT.iff, List.all_cons, List.all_nil, id, Bool.and_eq_true, Bool.not_eq_true', decide_eq_true_eq, decide_eq_false_iff_not, and_true] at hc; first | omega | (simp only [List.length_set, List.length_append, List.length_cons, List.length_nil, List.length_replicate, List.length_take, List.length_drop, List.length_map]; omega)) | (exfalso; simp_all [AllT]; done)))) ?_
        refine sw_step rfl rfl rfl (OpR.q (q_assign rfl rfl)) ?_
        refine sw_nil ?_
        refine post_next (r + 1, s60, rs ++ [(s8, sqRow k r)]) (by (repeat first | exact Le.nil | refine Le.cons rfl ?_ | refine Le.cons' rfl (by congr 1; first | omega | (simp only; omega)) ?_)) (fun w3 hw3 => ?_) ⟨by simp only; omega, by simp [hrs, List.range_succ]⟩ (by simp only; omega)
        simp only [List.map_append, List.map_cons, List.map_nil, rowsA_snoc]
        exact hw3.tail.perm perm_rot
    · skip
      have hr' : r = k := by simp at h5; omega
      subst hr'
      have hrs0 : rs.map (·.2) = squareE r := hrs
      refine cw_exit ?_
      refine post_then_x ?_
      refine post_then_x ?_
      refine post_blk_eq ?_
      refine post_then ?_
      refine cw_seq ?_
      refine cw_seq ?_
      -- region 19
      refine cw_region ?_
      refine sw_step rfl rfl rfl (OpR.q (q_assign rfl rfl)) ?_
      refine sw_nil ?_
      refine post_then ?_
      refine cw_block ?_
      -- STOP at: loop
      refine cw_loop (S := Nat × SlV × List (SlV × List Int)) (fun y => [(0, [], .int .i64 r), (6, [], y.2.1.v), (10, [], .int .i64 y.1)])
        (fun y => Cl w [] (ownL 37 y.2.1.v ((rs ++ y.2.2).map (·.1)) :: rowsA (rs ++ y.2.2))) (fun y => y.1 ≤ r ∧ (r % 2 = 1 ∨ y.1 = 0) ∧ y.2.2.map (·.2) = ((squareE r).take y.1).map List.reverse) (fun y => r - y.1) (0, s6, []) ⟨Nat.zero_le _, .inr rfl, by simp⟩ (by (repeat first | exact Le.nil | refine Le.cons rfl ?_ | refine Le.cons' rfl (by congr 1; first | omega | (simp only; omega)) ?_)) (fun w2 h2 => ?_) ?_
      · rw [show rs ++ [] = rs by simp]
        exact (h2.perm (.swap _ _ _)).tail
      rintro ⟨c, s7, rs2⟩ ⟨hc, hpar, hrs2⟩
      dsimp only at hc hpar hrs2 ⊢
      have hrl2 : rs2.length = c := by
        have := congrArg List.length hrs2
        simpa [squareE, hc] using this
      refine cw_seq ?_
      refine cw_seq ?_
      -- region 20
      refine cw_region ?_
      refine sw_step rfl rfl rfl (OpR.q (q_move rfl rfl)) ?_
      refine sw_step rfl rfl rfl (OpR.q (q_move rfl rfl)) ?_
      refine sw_step rfl rfl rfl (OpR.q (q_lss rfl rfl rfl)) ?_
      refine sw_step rfl rfl rfl (OpR.q (q_move rfl rfl)) ?_
      refine sw_step rfl rfl rfl (OpR.q (q_move rfl rfl)) ?_
      refine sw_step rfl rfl rfl (OpR.q (q_rem rfl rfl rfl (by intro hc; first | omega | (simp only [List.length_set, List.length_append, List.length_cons, List.length_nil, List.length_replicate, List.length_take, List.length_drop, List.length_map]; omega) | (simp only [AllT.iff, List.all_cons, List.all_nil, id, Bool.and_eq_true, Bool.not_eq_true', decide_eq_true_eq, decide_eq_false_iff_not, and_true] at hc; first | omega | (simp only [List.length_set, List.length_append, List.length_cons, List.length_nil, List.length_replicate, List.length_take, List.length_drop, List.length_map]; omega)) | (exfalso; simp_all [AllT]; done)))) ?_
      refine sw_step rfl rfl rfl (OpR.q (q_eql rfl rfl rfl)) ?_
      refine sw_step rfl rfl rfl (OpR.q (q_and2 rfl rfl rfl)) ?_
      refine sw_nil ?_
      refine post_then ?_
      -- STOP at: cond
      refine cw_cond rfl (fun h7 => ?_) (fun h7 => ?_)
      · skip
        have h8 : c < r ∧ r % 2 = 1 := by simp only [Bool.and_eq_true, decide_eq_true_eq] at h7; omega
        obtain ⟨hc', hodd⟩ := h8
        have hin : nth rs c ∈ rs := by rw [nth_get (by omega)]; exact List.getElem_mem _
        have hfst : nth ((rs ++ rs2).map fun q : SlV × List Int => q.1) c = (nth rs c).1 := by rw [List.map_append, nth_append_l _ _ _ (by simp; omega), nth_get (by simp; omega), nth_get (by omega)]; simp
        have hrow : (nth rs c).2 = nth (squareE r) c := by
          have : nth (rs.map fun q : SlV × List Int => q.2) c = (nth rs c).2 := by rw [nth_get (by simp; omega), nth_get (by omega)]; simp
          rw [← this, hrs0]
        have hrl3 : (nth rs c).2.length = r := by
          rw [hrow, nth_get (by simp [squareE]; omega)]
          simp only [squareE, List.getElem_map, sqRow_len]; exact hzl
        have hmem : ownL 3 (nth ((rs ++ rs2).map fun q : SlV × List Int => q.1) c).v (nth rs c).2 ∈ rowsA (rs ++ rs2) := by
          rw [hfst]
          exact List.mem_map_of_mem (f := fun (r : SlV × List Int) => ownL 3 r.1.v r.2) (List.mem_append_left _ hin)
        generalize hRW : (nth rs c).2 = row at hmem hrow hrl3
        refine cw_skip ?_
        refine post_then ?_
        refine cw_seq ?_
        refine cw_block ?_
        refine cw_seq ?_
        -- region 22
        refine cw_region ?_
        refine sw_step rfl rfl rfl (OpR.q (q_assign rfl rfl)) ?_
        refine sw_nil ?_
        refine post_then ?_
        refine cw_seq ?_
        refine cw_seq ?_
        -- region 23
        refine cw_region ?_
        refine sw_step rfl rfl rfl (OpR.q (q_move rfl rfl)) ?_
        refine sw_step rfl rfl rfl (OpR.q (q_sub rfl rfl rfl (by intro hc; first | omega | (simp only [List.length_set, List.length_append, List.length_cons, List.length_nil, List.length_replicate, List.length_take, List.length_drop, List.length_map]; omega) | (simp only [AllT.iff, List.all_cons, List.all_nil, id, Bool.and_eq_true, Bool.not_eq_true', decide_eq_true_eq, decide_eq_false_iff_not, and_true] at hc; first | omega | (simp only [List.length_set, List.length_append, List.length_cons, List.length_nil, List.length_replicate, List.length_take, List.length_drop, List.length_map]; omega)) | (exfalso; simp_all [AllT]; done)))) ?_
        refine sw_step rfl rfl rfl (OpR.q (q_assign rfl rfl)) ?_
        refine sw_nil ?_
        refine post_then ?_
        refine cw_block ?_
        -- STOP at: loop
        refine cw_loop (S := Nat × SlV) (fun y => [(0, [], .int .i64 r), (6, [], s7.v), (10, [], .int .i64 c), (11, [], y.2.v), (12, [], .int .i64 ((r : Int) - 1 - y.1))]) (fun y => Cl w [] (ownL 3 y.2.v (row.reverse.take y.1) :: ownL 37 s7.v ((rs ++ rs2).map (·.1)) :: rowsA (rs ++ rs2))) (fun y => y.1 ≤ r) (fun y => r - y.1) (0, ⟨none, 0, 0⟩) (by simp) (by (repeat first | exact Le.nil | refine Le.cons rfl ?_ | refine Le.cons' rfl (by congr 1; first | omega | (simp only; omega)) ?_)) (fun _ h => h.addNil (α := Int) 3) ?_
        rintro ⟨j, s8⟩ hj
        dsimp only at hj ⊢
        have hal : ∀ w', Cl w [] (ownL 3 s8.v (row.reverse.take j) :: ownL 37 s7.v ((rs ++ rs2).map (·.1)) :: rowsA (rs ++ rs2)) w' → RdL (nth ((rs ++ rs2).map fun q : SlV × List Int => q.1) c).v row w' := fun w' h => rd_own h (.tail _ (.tail _ hmem))
        refine cw_seq ?_
        refine cw_seq ?_
        -- region 24
        refine cw_region ?_
        refine sw_step rfl rfl rfl (OpR.q (q_move rfl rfl)) ?_
        refine sw_step rfl rfl rfl (OpR.q (q_geq rfl rfl rfl)) ?_
        refine sw_nil ?_
        refine post_then ?_
        -- STOP at: cond
        refine cw_cond rfl (fun h9 => ?_) (fun h9 => ?_)
        · skip
          have hj' : j < r := by simp only [decide_eq_true_eq] at h9; omega
          have e : ((r : Int) - 1 - j).toNat = row.length - 1 - j := by omega
          refine cw_skip ?_
          refine post_then ?_
          refine cw_seq ?_
          refine cw_block ?_
          -- region 26
          refine cw_region ?_
          refine sw_step rfl rfl rfl (OpR.q (q_move rfl rfl)) ?_
          refine sw_step rfl rfl rfl (OpR.q (q_move rfl rfl)) ?_
          refine sw_step rfl rfl rfl (OpR.q (q_move rfl rfl)) ?_
          first | refine sw_step rfl rfl rfl (OpR.q (q_indexN rfl rfl rfl (by first | exact fun w hw => Stb.cl (by assumption) hw | exact fun w hw => rd_own hw (by first | assumption | (repeat first | exact .head _ | apply List.Mem.tail)) | assumption) (by intro hc; first | omega | (simp only [List.length_set, List.length_append, List.length_cons, List.length_nil, List.length_replicate, List.length_take, List.length_drop, List.length_map]; omega) | (simp only [AllT.iff, List.all_cons, List.all_nil, id, Bool.and_eq_true, Bool.not_eq_true', decide_eq_true_eq, decide_eq_false_iff_not, and_true] at hc; first | omega | (simp only [List.length_set, List.length_append, List.length_cons, List.length_nil, List.length_replicate, List.length_take, List.length_drop, List.length_map]; omega)) | (exfalso; simp_all [AllT]; done)))) ?_ | refine sw_step rfl rfl rfl (OpR.q (q_index rfl rfl rfl (by first | exact fun w hw => Stb.cl (by assumption) hw | exact fun w hw => rd_own hw (by first | assumption | (repeat first | exact .head _ | apply List.Mem.tail)) | assumption) (by intro hc; first | omega | (simp only [List.length_set, List.length_append, List.length_cons, List.length_nil, List.length_replicate, List.length_take, List.length_drop, List.length_map]; omega) | (simp only [AllT.iff, List.all_cons, List.all_nil, id, Bool.and_eq_true, Bool.not_eq_true', decide_eq_true_eq, decide_eq_false_iff_not, and_true] at hc; first | omega | (simp only [List.length_set, List.length_append, List.length_cons, List.length_nil, List.length_replicate, List.length_take, List.length_drop, List.length_map]; omega)) | (exfalso; simp_all [AllT]; done)))) ?_
          first | refine sw_step rfl rfl rfl (OpR.q (q_loadC rfl rfl (by first | assumption | (repeat first | exact .head _ | apply List.Mem.tail)) rfl)) ?_ | refine sw_step rfl rfl rfl (OpR.q (q_loadA rfl rfl (by first | assumption | (repeat first | exact .head _ | apply List.Mem.tail)) rfl)) ?_ | refine sw_step rfl rfl rfl (OpR.q (q_loadEl rfl rfl rfl (by first | exact fun w hw => Stb.cl (by assumption) hw | exact fun w hw => rd_own hw (by first | assumption | (repeat first | exact .head _ | apply List.Mem.tail)) | assumption) (by intro hc; first | omega | (simp only [List.length_set, List.length_append, List.length_cons, List.length_nil, List.length_replicate, List.length_take, List.length_drop, List.length_map]; omega) | (simp only [AllT.iff, List.all_cons, List.all_nil, id, Bool.and_eq_true, Bool.not_eq_true', decide_eq_true_eq, decide_eq_false_iff_not, and_true] at hc; first | omega | (simp only [List.length_set, List.length_append, List.length_cons, List.length_nil, List.length_replicate, List.length_take, List.length_drop, List.length_map]; omega)) | (exfalso; simp_all [AllT]; done)))) ?_ | refine sw_step rfl rfl rfl (OpR.q (q_loadF rfl rfl rfl (by first | exact fun w hw => Stb.cl (by assumption) hw | exact fun w hw => rd_own hw (by first | assumption | (repeat first | exact .head _ | apply List.Mem.tail)) | assumption) (by intro hc; first | omega | (simp only [List.length_set, List.length_append, List.length_cons, List.length_nil, List.length_replicate, List.length_take, List.length_drop, List.length_map]; omega) | (simp only [AllT.iff, List.all_cons, List.all_nil, id, Bool.and_eq_true, Bool.not_eq_true', decide_eq_true_eq, decide_eq_false_iff_not, and_true] at hc; first | omega | (simp only [List.length_set, List.length_append, List.length_cons, List.length_nil, List.length_replicate, List.length_take, List.length_drop, List.length_map]; omega)) | (exfalso; simp_all [AllT]; done)) rfl)) ?_ | refine sw_step rfl rfl rfl (OpR.q (q_loadS rfl rfl (fun w hw => Stb.cl (by assumption) hw) rfl)) ?_
          refine sw_step rfl rfl rfl (OpR.q (q_move rfl rfl)) ?_
          first | refine sw_step rfl rfl rfl (OpR.q (q_indexN rfl rfl rfl (by first | exact fun w hw => Stb.cl (by assumption) hw | exact fun w hw => rd_own hw (by first | assumption | (repeat first | exact .head _ | apply List.Mem.tail)) | assumption) (by intro hc; first | omega | (simp only [List.length_set, List.length_append, List.length_cons, List.length_nil, List.length_replicate, List.length_take, List.length_drop, List.length_map]; omega) | (simp only [AllT.iff, List.all_cons, List.all_nil, id, Bool.and_eq_true, Bool.not_eq_true', decide_eq_true_eq, decide_eq_false_iff_not, and_true] at hc; first | omega | (simp only [List.length_set, List.length_append, List.length_cons, List.length_nil, List.length_replicate, List.length_take, List.length_drop, List.length_map]; omega)) | (exfalso; simp_all [AllT]; done)))) ?_ | refine sw_step rfl rfl rfl (OpR.q (q_index rfl rfl rfl (by first | exact fun w hw => Stb.cl (by assumption) hw | exact fun w hw => rd_own hw (by first | assumption | (repeat first | exact .head _ | apply List.Mem.tail)) | assumption) (by intro hc; first | omega | (simp only [List.length_set, List.length_append, List.length_cons, List.length_nil, List.length_replicate, List.length_take, List.length_drop, List.length_map]; omega) | (simp only [AllT.iff, List.all_cons, List.all_nil, id, Bool.and_eq_true, Bool.not_eq_true', decide_eq_true_eq, decide_eq_false_iff_not, and_true] at hc; first | omega | (simp only [List.length_set, List.length_append, List.length_cons, List.length_nil, List.length_replicate, List.length_take, List.length_drop, List.length_map]; omega)) | (exfalso; simp_all [AllT]; done)))) ?_
          first | refine sw_step rfl rfl rfl (OpR.q (q_loadC rfl rfl (by first | assumption | (repeat first | exact .head _ | apply List.Mem.tail)) rfl)) ?_ | refine sw_step rfl rfl rfl (OpR.q (q_loadA rfl rfl (by first | assumption | (repeat first | exact .head _ | apply List.Mem.tail)) rfl)) ?_ | refine sw_step rfl rfl rfl (OpR.q (q_loadEl rfl rfl rfl (by first | exact fun w hw => Stb.cl (by assumption) hw | exact fun w hw => rd_own hw (by first | assumption | (repeat first | exact .head _ | apply List.Mem.tail)) | assumption) (by intro hc; first | omega | (simp only [List.length_set, List.length_append, List.length_cons, List.length_nil, List.length_replicate, List.length_take, List.length_drop, List.length_map]; omega) | (simp only [AllT.iff, List.all_cons, List.all_nil, id, Bool.and_eq_true, Bool.not_eq_true', decide_eq_true_eq, decide_eq_false_iff_not, and_true] at hc; first | omega | (simp only [List.length_set, List.length_append, List.length_cons, List.length_nil, List.length_replicate, List.length_take, List.length_drop, List.length_map]; omega)) | (exfalso; simp_all [AllT]; done)))) ?_ | refine sw_step rfl rfl rfl (OpR.q (q_loadF rfl rfl rfl (by first | exact fun w hw => Stb.cl (by assumption) hw | exact fun w hw => rd_own hw (by first | assumption | (repeat first | exact .head _ | apply List.Mem.tail)) | assumption) (by intro hc; first | omega | (simp only [List.length_set, List.length_append, List.length_cons, List.length_nil, List.length_replicate, List.length_take, List.length_drop, List.length_map]; omega) | (simp only [AllT.iff, List.all_cons, List.all_nil, id, Bool.and_eq_true, Bool.not_eq_true', decide_eq_true_eq, decide_eq_false_iff_not, and_true] at hc; first | omega | (simp only [List.length_set, List.length_append, List.length_cons, List.length_nil, List.length_replicate, List.length_take, List.length_drop, List.length_map]; omega)) | (exfalso; simp_all [AllT]; done)) rfl)) ?_ | refine sw_step rfl rfl rfl (OpR.q (q_loadS rfl rfl (fun w hw => Stb.cl (by assumption) hw) rfl)) ?_
          refine sw_x rfl rfl rfl (e_build1 (α := Int) rfl rfl rfl rfl) (fun s85 => ?_)
          first | refine sw_x rfl rfl rfl (e_append (i := 0) rfl (.cons rfl inferInstance (.cons rfl inferInstance (.nil))) rfl rfl (by first | exact fun w hw => Stb.cl (by assumption) hw | exact fun w hw => rd_own hw (by first | assumption | (repeat first | exact .head _ | apply List.Mem.tail)) | assumption) (by simp only [List.length_set, List.length_append, List.length_cons, List.length_nil, List.length_replicate, List.length_take, List.length_drop, List.length_map]; omega) rfl) (fun s86 => ?_) | refine sw_x rfl rfl rfl (e_append (i := 1) rfl (.cons rfl inferInstance (.cons rfl inferInstance (.nil))) rfl rfl (by first | exact fun w hw => Stb.cl (by assumption) hw | exact fun w hw => rd_own hw (by first | assumption | (repeat first | exact .head _ | apply List.Mem.tail)) | assumption) (by simp only [List.length_set, List.length_append, List.length_cons, List.length_nil, List.length_replicate, List.length_take, List.length_drop, List.length_map]; omega) rfl) (fun s86 => ?_) | refine sw_x rfl rfl rfl (e_append (i := 2) rfl (.cons rfl inferInstance (.cons rfl inferInstance (.nil))) rfl rfl (by first | exact fun w hw => Stb.cl (by assumption) hw | exact fun w hw => rd_own hw (by first | assumption | (repeat first | exact .head _ | apply List.Mem.tail)) | assumption) (by simp only [List.length_set, List.length_append, List.length_cons, List.length_nil, List.length_replicate, List.length_take, List.length_drop, List.length_map]; omega) rfl) (fun s86 => ?_) | refine sw_x rfl rfl rfl (e_append (i := 3) rfl (.cons rfl inferInstance (.cons rfl inferInstance (.nil))) rfl rfl (by first | exact fun w hw => Stb.cl (by assumption) hw | exact fun w hw => rd_own hw (by first | assumption | (repeat first | exact .head _ | apply List.Mem.tail)) | assumption) (by simp only [List.length_set, List.length_append, List.length_cons, List.length_nil, List.length_replicate, List.length_take, List.length_drop, List.length_map]; omega) rfl) (fun s86 => ?_) | refine sw_x rfl rfl rfl (e_append (i := 4) rfl (.cons rfl inferInstance (.cons rfl inferInstance (.nil))) rfl rfl (by first | exact fun w hw => Stb.cl (by assumption) hw | exact fun w hw => rd_own hw (by first | assumption | (repeat first | exact .head _ | apply List.Mem.tail)) | assumption) (by simp only [List.length_set, List.length_append, List.length_cons, List.length_nil, List.length_replicate, List.length_take, List.length_drop, List.length_map]; omega) rfl) (fun s86 => ?_) | refine sw_x rfl rfl rfl (e_append (i := 5) rfl (.cons rfl inferInstance (.cons rfl inferInstance (.nil))) rfl rfl (by first | exact fun w hw => Stb.cl (by assumption) hw | exact fun w hw => rd_own hw (by first | assumption | (repeat first | exact .head _ | apply List.Mem.tail)) | assumption) (by simp only [List.length_set, List.length_append, List.length_cons, List.length_nil, List.length_replicate, List.length_take, List.length_drop, List.length_map]; omega) rfl) (fun s86 => ?_) | refine sw_x rfl rfl rfl (e_append (i := 6) rfl (.cons rfl inferInstance (.cons rfl inferInstance (.nil))) rfl rfl (by first | exact fun w hw => Stb.cl (by assumption) hw | exact fun w hw => rd_own hw (by first | assumption | (repeat first | exact .head _ | apply List.Mem.tail)) | assumption) (by simp only [List.length_set, List.length_append, List.length_cons, List.length_nil, List.length_replicate, List.length_take, List.length_drop, List.length_map]; omega) rfl) (fun s86 => ?_) | refine sw_x rfl rfl rfl (e_append (i := 7) rfl (.cons rfl inferInstance (.cons rfl inferInstance (.nil))) rfl rfl (by first | exact fun w hw => Stb.cl (by assumption) hw | exact fun w hw => rd_own hw (by first | assumption | (repeat first | exact .head _ | apply List.Mem.tail)) | assumption) (by simp only [List.length_set, List.length_append, List.length_cons, List.length_nil, List.length_replicate, List.length_take, List.length_drop, List.length_map]; omega) rfl) (fun s86 => ?_) | refine sw_x rfl rfl rfl (e_append (i := 8) rfl (.cons rfl inferInstance (.cons rfl inferInstance (.nil))) rfl rfl (by first | exact fun w hw => Stb.cl (by assumption) hw | exact fun w hw => rd_own hw (by first | assumption | (repeat first | exact .head _ | apply List.Mem.tail)) | assumption) (by simp only [List.length_set, List.length_append, List.length_cons, List.length_nil, List.length_replicate, List.length_take, List.length_drop, List.length_map]; omega) rfl) (fun s86 => ?_) | refine sw_x rfl rfl rfl (e_append (i := 9) rfl (.cons rfl inferInstance (.cons rfl inferInstance (.nil))) rfl rfl (by first | exact fun w hw => Stb.cl (by assumption) hw | exact fun w hw => rd_own hw (by first | assumption | (repeat first | exact .head _ | apply List.Mem.tail)) | assumption) (by simp only [List.length_set, List.length_append, List.length_cons, List.length_nil, List.length_replicate, List.length_take, List.length_drop, List.length_map]; omega) rfl) (fun s86 => ?_) | refine sw_x rfl rfl rfl (e_append (i := 10) rfl (.cons rfl inferInstance (.cons rfl inferInstance (.nil))) rfl rfl (by first | exact fun w hw => Stb.cl (by assumption) hw | exact fun w hw => rd_own hw (by first | assumption | (repeat first | exact .head _ | apply List.Mem.tail)) | assumption) (by simp only [List.length_set, List.length_append, List.length_cons, List.length_nil, List.length_replicate, List.length_take, List.length_drop, List.length_map]; omega) rfl) (fun s86 => ?_) | refine sw_x rfl rfl rfl (e_append (i := 11) rfl (.cons rfl inferInstance (.cons rfl inferInstance (.nil))) rfl rfl (by first | exact fun w hw => Stb.cl (by assumption) hw | exact fun w hw => rd_own hw (by first | assumption | (repeat first | exact .head _ | apply List.Mem.tail)) | assumption) (by simp only [List.length_set, List.length_append, List.length_cons, List.length_nil, List.length_replicate, List.length_take, List.length_drop, List.length_map]; omega) rfl) (fun s86 => ?_) | refine sw_x rfl rfl rfl (e_append (i := 12) rfl (.cons rfl inferInstance (.cons rfl inferInstance (.nil))) rfl rfl (by first | exact fun w hw => Stb.cl (by assumption) hw | exact fun w hw => rd_own hw (by first | assumption | (repeat first | exact .head _ | apply List.Mem.tail)) | assumption) (by simp only [List.length_set, List.length_append, List.length_cons, List.length_nil, List.length_replicate, List.length_take, List.length_drop, List.length_map]; omega) rfl) (fun s86 => ?_) | refine sw_x rfl rfl rfl (e_append (i := 13) rfl (.cons rfl inferInstance (.cons rfl inferInstance (.nil))) rfl rfl (by first | exact fun w hw => Stb.cl (by assumption) hw | exact fun w hw => rd_own hw (by first | assumption | (repeat first | exact .head _ | apply List.Mem.tail)) | assumption) (by simp only [List.length_set, List.length_append, List.length_cons, List.length_nil, List.length_replicate, List.length_take, List.length_drop, List.length_map]; omega) rfl) (fun s86 => ?_) | refine sw_x rfl rfl rfl (e_append (i := 14) rfl (.cons rfl inferInstance (.cons rfl inferInstance (.nil))) rfl rfl (by first | exact fun w hw => Stb.cl (by assumption) hw | exact fun w hw => rd_own hw (by first | assumption | (repeat first | exact .head _ | apply List.Mem.tail)) | assumption) (by simp only [List.length_set, List.length_append, List.length_cons, List.length_nil, List.length_replicate, List.length_take, List.length_drop, List.length_map]; omega) rfl) (fun s86 => ?_) | refine sw_x rfl rfl rfl (e_append (i := 15) rfl (.cons rfl inferInstance (.cons rfl inferInstance (.nil))) rfl rfl (by first | exact fun w hw => Stb.cl (by assumption) hw | exact fun w hw => rd_own hw (by first | assumption | (repeat first | exact .head _ | apply List.Mem.tail)) | assumption) (by simp only [List.length_set, List.length_append, List.length_cons, List.length_nil, List.length_replicate, List.length_take, List.length_drop, List.length_map]; omega) rfl) (fun s86 => ?_)
          refine sw_step rfl rfl rfl (OpR.q (q_assign rfl rfl)) ?_
          refine sw_nil ?_
          refine post_blk ?_
          refine post_then ?_
          -- region 25
          refine cw_region ?_
          refine sw_step rfl rfl rfl (OpR.q (q_move rfl rfl)) ?_
          refine sw_step rfl rfl rfl (OpR.q (q_sub rfl rfl rfl (by intro hc; first | omega | (simp only [List.length_set, List.length_append, List.length_cons, List.length_nil, List.length_replicate, List.length_take, List.length_drop, List.length_map]; omega) | (simp only [AllT.iff, List.all_cons, List.all_nil, id, Bool.and_eq_true, Bool.not_eq_true', decide_eq_true_eq, decide_eq_false_iff_not, and_true] at hc; first | omega | (simp only [List.length_set, List.length_append, List.length_cons, List.length_nil, List.length_replicate, List.length_take, List.length_drop, List.length_map]; omega)) | (exfalso; simp_all [AllT]; done)))) ?_
          refine sw_step rfl rfl rfl (OpR.q (q_assign rfl rfl)) ?_
          refine sw_nil ?_
          refine post_next (j + 1, s86) (by (repeat first | exact Le.nil | refine Le.cons rfl ?_ | refine Le.cons' rfl (by congr 1; first | omega | (simp only; omega)) ?_)) (fun w3 hw3 => ?_) (by simp only; omega) (by simp only; omega)
          simp only [revTake_succ row j (by omega), ← e]
          exact hw3.tail
        · skip
          have hj' : j = r := by simp only [decide_eq_false_iff_not] at h9; omega
          have htk : row.reverse.take j = row.reverse := List.take_of_length_le (by simp; omega)
          rw [htk]
          refine cw_exit ?_
          refine post_then_x ?_
          refine post_then_x ?_
          refine post_blk_eq ?_
          refine post_then ?_
          -- region 27
          refine cw_region ?_
          refine sw_step rfl rfl rfl (OpR.q (q_move rfl rfl)) ?_
          refine sw_step rfl rfl rfl (OpR.q (q_move rfl rfl)) ?_
          refine sw_x rfl rfl rfl (e_build1 (α := SlV) rfl rfl rfl rfl) (fun s89 => ?_)
          first | refine sw_x rfl rfl rfl (e_append (i := 0) rfl (.cons rfl inferInstance (.cons rfl inferInstance (.nil))) rfl rfl (by first | exact fun w hw => Stb.cl (by assumption) hw | exact fun w hw => rd_own hw (by first | assumption | (repeat first | exact .head _ | apply List.Mem.tail)) | assumption) (by simp only [List.length_set, List.length_append, List.length_cons, List.length_nil, List.length_replicate, List.length_take, List.length_drop, List.length_map]; omega) rfl) (fun s90 => ?_) | refine sw_x rfl rfl rfl (e_append (i := 1) rfl (.cons rfl inferInstance (.cons rfl inferInstance (.nil))) rfl rfl (by first | exact fun w hw => Stb.cl (by assumption) hw | exact fun w hw => rd_own hw (by first | assumption | (repeat first | exact .head _ | apply List.Mem.tail)) | assumption) (by simp only [List.length_set, List.length_append, List.length_cons, List.length_nil, List.length_replicate, List.length_take, List.length_drop, List.length_map]; omega) rfl) (fun s90 => ?_) | refine sw_x rfl rfl rfl (e_append (i := 2) rfl (.cons rfl inferInstance (.cons rfl inferInstance (.nil))) rfl rfl (by first | exact fun w hw => Stb.cl (by assumption) hw | exact fun w hw => rd_own hw (by first | assumption | (repeat first | exact .head _ | apply List.Mem.tail)) | assumption) (by simp only [List.length_set, List.length_append, List.length_cons, List.length_nil, List.length_replicate, List.length_take, List.length_drop, List.length_map]; omega) rfl) (fun s90 => ?_) | refine sw_x rfl rfl rfl (e_append (i := 3) rfl (.cons rfl inferInstance (.cons rfl inferInstance (.nil))) rfl rfl (by first | exact fun w hw => Stb.cl (by assumption) hw | exact fun w hw => rd_own hw (by first | assumption | (repeat first | exact .head _ | apply List.Mem.tail)) | assumption) (by simp only [List.length_set, List.length_append, List.length_cons, List.length_nil, List.length_replicate, List.length_take, List.length_drop, List.length_map]; omega) rfl) (fun s90 => ?_) | refine sw_x rfl rfl rfl (e_append (i := 4) rfl (.cons rfl inferInstance (.cons rfl inferInstance (.nil))) rfl rfl (by first | exact fun w hw => Stb.cl (by assumption) hw | exact fun w hw => rd_own hw (by first | assumption | (repeat first | exact .head _ | apply List.Mem.tail)) | assumption) (by simp only [List.length_set, List.length_append, List.length_cons, List.length_nil, List.length_replicate, List.length_take, List.length_drop, List.length_map]; omega) rfl) (fun s90 => ?_) | refine sw_x rfl rfl rfl (e_append (i := 5) rfl (.cons rfl inferInstance (.cons rfl inferInstance (.nil))) rfl rfl (by first | exact fun w hw => Stb.cl (by assumption) hw | exact fun w hw => rd_own hw (by first | assumption | (repeat first | exact .head _ | apply List.Mem.tail)) | assumption) (by simp only [List.length_set, List.length_append, List.length_cons, List.length_nil, List.length_replicate, List.length_take, List.length_drop, List.length_map]; omega) rfl) (fun s90 => ?_) | refine sw_x rfl rfl rfl (e_append (i := 6) rfl (.cons rfl inferInstance (.cons rfl inferInstance (.nil))) rfl rfl (by first | exact fun w hw => Stb.cl (by assumption) hw | exact fun w hw => rd_own hw (by first | assumption | (repeat first | exact .head _ | apply List.Mem.tail)) | assumption) (by simp only [List.length_set, List.length_append, List.length_cons, List.length_nil, List.length_replicate, List.length_take, List.length_drop, List.length_map]; omega) rfl) (fun s90 => ?_) | refine sw_x rfl rfl rfl (e_append (i := 7) rfl (.cons rfl inferInstance (.cons rfl inferInstance (.nil))) rfl rfl (by first | exact fun w hw => Stb.cl (by assumption) hw | exact fun w hw => rd_own hw (by first | assumption | (repeat first | exact .head _ | apply List.Mem.tail)) | assumption) (by simp only [List.length_set, List.length_append, List.length_cons, List.length_nil, List.length_replicate, List.length_take, List.length_drop, List.length_map]; omega) rfl) (fun s90 => ?_) | refine sw_x rfl rfl rfl (e_append (i := 8) rfl (.cons rfl inferInstance (.cons rfl inferInstance (.nil))) rfl rfl (by first | exact fun w hw => Stb.cl (by assumption) hw | exact fun w hw => rd_own hw (by first | assumption | (repeat first | exact .head _ | apply List.Mem.tail)) | assumption) (by simp only [List.length_set, List.length_append, List.length_cons, List.length_nil, List.length_replicate, List.length_take, List.length_drop, List.length_map]; omega) rfl) (fun s90 => ?_) | refine sw_x rfl rfl rfl (e_append (i := 9) rfl (.cons rfl inferInstance (.cons rfl inferInstance (.nil))) rfl rfl (by first | exact fun w hw => Stb.cl (by assumption) hw | exact fun w hw => rd_own hw (by first | assumption | (repeat first | exact .head _ | apply List.Mem.tail)) | assumption) (by simp only [List.length_set, List.length_append, List.length_cons, List.length_nil, List.length_replicate, List.length_take, List.length_drop, List.length_map]; omega) rfl) (fun s90 => ?_) | refine sw_x rfl rfl rfl (e_append (i := 10) rfl (.cons rfl inferInstance (.cons rfl inferInstance (.nil))) rfl rfl (by first | exact fun w hw => Stb.cl (by assumption) hw | exact fun w hw => rd_own hw (by first | assumption | (repeat first | exact .head _ | apply List.Mem.tail)) | assumption) (by simp only [List.length_set, List.length_append, List.length_cons, List.length_nil, List.length_replicate, List.length_take, List.length_drop, List.length_map]; omega) rfl) (fun s90 => ?_) | refine sw_x rfl rfl rfl (e_append (i := 11) rfl (.cons rfl inferInstance (.cons rfl inferInstance (.nil))) rfl rfl (by first | exact fun w hw => Stb.cl (by assumption) hw | exact fun w hw => rd_own hw (by first | assumption | (repeat first | exact .head _ | apply List.Mem.tail)) | assumption) (by simp only [List.length_set, List.length_append, List.length_cons, List.length_nil, List.length_replicate, List.length_take, List.length_drop, List.length_map]; omega) rfl) (fun s90 => ?_) | refine sw_x rfl rfl rfl (e_append (i := 12) rfl (.cons rfl inferInstance (.cons rfl inferInstance (.nil))) rfl rfl (by first | exact fun w hw => Stb.cl (by assumption) hw | exact fun w hw => rd_own hw (by first | assumption | (repeat first | exact .head _ | apply List.Mem.tail)) | assumption) (by simp only [List.length_set, List.length_append, List.length_cons, List.length_nil, List.length_replicate, List.length_take, List.length_drop, List.length_map]; omega) rfl) (fun s90 => ?_) | refine sw_x rfl rfl rfl (e_append (i := 13) rfl (.cons rfl inferInstance (.cons rfl inferInstance (.nil))) rfl rfl (by first | exact fun w hw => Stb.cl (by assumption) hw | exact fun w hw => rd_own hw (by first | assumption | (repeat first | exact .head _ | apply List.Mem.tail)) | assumption) (by simp only [List.length_set, List.length_append, List.length_cons, List.length_nil, List.length_replicate, List.length_take, List.length_drop, List.length_map]; omega) rfl) (fun s90 => ?_) | refine sw_x rfl rfl rfl (e_append (i := 14) rfl (.cons rfl inferInstance (.cons rfl inferInstance (.nil))) rfl rfl (by first | exact fun w hw => Stb.cl (by assumption) hw | exact fun w hw => rd_own hw (by first | assumption | (repeat first | exact .head _ | apply List.Mem.tail)) | assumption) (by simp only [List.length_set, List.length_append, List.length_cons, List.length_nil, List.length_replicate, List.length_take, List.length_drop, List.length_map]; omega) rfl) (fun s90 => ?_) | refine sw_x rfl rfl rfl (e_append (i := 15) rfl (.cons rfl inferInstance (.cons rfl inferInstance (.nil))) rfl rfl (by first | exact fun w hw => Stb.cl (by assumption) hw | exact fun w hw => rd_own hw (by first | assumption | (repeat first | exact .head _ | apply List.Mem.tail)) | assumption) (by simp only [List.length_set, List.length_append, List.length_cons, List.length_nil, List.length_replicate, List.length_take, List.length_drop, List.length_map]; omega) rfl) (fun s90 => ?_)
          refine sw_step rfl rfl rfl (OpR.q (q_assign rfl rfl)) ?_
          refine sw_nil ?_
          refine post_blk ?_
          refine post_then ?_
          -- region 21
          refine cw_region ?_
          refine sw_step rfl rfl rfl (OpR.q (q_move rfl rfl)) ?_
          refine sw_step rfl rfl rfl (OpR.q (q_add rfl rfl rfl (by intro hc; first | omega | (simp only [List.length_set, List.length_append, List.length_cons, List.length_nil, List.length_replicate, List.length_take, List.length_drop, List.length_map]; omega) | (simp only [AllT.iff, List.all_cons, List.all_nil, id, Bool.and_eq_true, Bool.not_eq_true', decide_eq_true_eq, decide_eq_false_iff_not, and_true] at hc; first | omega | (simp only [List.length_set, List.length_append, List.length_cons, List.length_nil, List.length_replicate, List.length_take, List.length_drop, List.length_map]; omega)) | (exfalso; simp_all [AllT]; done)))) ?_
          refine sw_step rfl rfl rfl (OpR.q (q_assign rfl rfl)) ?_
          refine sw_nil ?_
          refine post_next (c + 1, s90, rs2 ++ [(s8, row.reverse)]) (by (repeat first | exact Le.nil | refine Le.cons rfl ?_ | refine Le.cons' rfl (by congr 1; first | omega | (simp only; omega)) ?_)) (fun w3 hw3 => ?_) ⟨by simp only; omega, .inl hodd, ?_⟩ (by simp only; omega)
          · have h3 := hw3.tail
            simp only [← List.append_assoc, rowsA_snoc]
            rw [show (rs ++ rs2 ++ [(s8, row.reverse)]).map (·.1) = (rs ++ rs2).map (·.1) ++ [s8] by simp]
            exact h3.perm perm_rot2
          · dsimp only
            rw [List.map_append, hrs2, List.take_add_one, List.getElem?_eq_getElem (by simp [squareE]; omega), List.map_append, hrow, nth_get (by simp [squareE]; omega)]
            simp
      · skip
        have h8 : ¬ (c < r ∧ r % 2 = 1) := by
          intro ⟨a1, a2⟩
          simp only [Bool.and_eq_false_iff, decide_eq_false_iff_not] at h7; omega
        refine cw_exit ?_
        refine post_then_x ?_
        refine post_then_x ?_
        refine post_blk_eq ?_
        refine post_then ?_
        refine cw_seq ?_
        -- region 28
        refine cw_region ?_
        refine sw_step rfl rfl rfl (OpR.q (q_move rfl rfl)) ?_
        refine sw_step rfl rfl rfl (OpR.q (q_assign rfl rfl)) ?_
        refine sw_nil ?_
        refine post_then ?_
        refine cw_ret ?_
        refine post_ret1 rfl (resOk_tmp rfl) ?_
        refine fun w' hw => ⟨(s7, rs ++ rs2), rfl, ?_, hw⟩
        rw [List.map_append, hrs0, hrs2, squareR]
        by_cases hodd : r % 2 = 1
        · rw [if_pos hodd, List.take_of_length_le (by simp [squareE]; omega)]
        · rw [if_neg hodd, show c = 0 by omega]; rfl
end Go.Proofs.Ytekikelejncgeaa
