import Derived.Test.YtekikelejncgeaaUC
set_option autoImplicit false
set_option linter.unusedSimpArgs false
set_option linter.unusedVariables false
set_option maxRecDepth 100000
namespace Go.Proofs.Ytekikelejncgeaa
open Go.Sx
open Enc (enc val)

/-! ### house.Square of any number of voices -/
def squareR (n : Nat) : List (List Int) := squareE n ++ if n % 2 = 1 then (squareE n).map List.reverse else []
theorem perm_rot2 {A B : Asn} {T : List Asn} : (A :: B :: T).Perm (B :: (T ++ [A])) :=
  (List.Perm.swap B A _).trans (.cons _ (List.perm_append_singleton A T).symm)
theorem square_spec (n : Nat) (hn : 1 ≤ n ∧ n ≤ 60) (w : World) :
    Calls Try.prog 39 #[.int .i64 n] w fun e w' => ∃ y : SlV × List (SlV × List Int), e = .returned (.tuple #[y.1.v, .int .i64 0]) ∧ y.2.map (·.2) = squareR n ∧ Cl w [] (ownL 37 y.1.v (y.2.map (·.1)) :: rowsA y.2) w' := by
  refine calls_cw (vs := [_]) Try.func39 rfl Try.ntmps39 rfl (Cl.start0 w) ?_
  refine cw_seq ?_
  -- region 0
  refine cw_region ?_
  refine sw_step rfl rfl rfl (OpR.q (q_assign rfl rfl)) ?_
  refine sw_step rfl rfl rfl (OpR.q (q_assign rfl rfl)) ?_
  refine sw_nil ?_
  refine post_then ?_
  refine cw_seq ?_
  refine cw_seq ?_
  -- region 1
  refine cw_region ?_
  refine sw_step rfl rfl rfl (OpR.q (q_move rfl rfl)) ?_
  refine sw_step rfl rfl rfl (q_call (CanCall.mk Try.call52) rfl (.cons rfl inferInstance (.cons rfl inferInstance (.cons rfl inferInstance (.nil)))) (fun _ w hw => callq hw (within_spec _ _ _ w))) ?_
  refine sw_step rfl rfl rfl (OpR.q (q_not rfl rfl)) ?_
  refine sw_nil ?_
  refine post_then ?_
  -- STOP at: cond
  refine cw_cond rfl (fun h => ?_) (fun h => ?_)
  · skip
    simp [inB] at h; omega
  · skip
    refine cw_skip ?_
    refine post_then ?_
    refine cw_seq ?_
    -- region 3
    refine cw_region ?_
    refine sw_x rfl rfl rfl (e_build1 (α := Int) rfl rfl rfl rfl) (fun s18 => ?_)
    refine sw_step rfl rfl rfl (OpR.q (q_assign rfl rfl)) ?_
    refine sw_nil ?_
    refine post_then ?_
    refine cw_seq ?_
    refine cw_seq ?_
    -- region 4
    refine cw_region ?_
    refine sw_step rfl rfl rfl (OpR.q (q_move rfl rfl)) ?_
    refine sw_step rfl rfl rfl (OpR.q (q_sub rfl rfl rfl (by intro hc; first | omega | (simp only [List.length_set, List.length_append, List.length_cons, List.length_nil, List.length_replicate, List.length_take, List.length_drop, List.length_map]; omega) | (simp only [AllT.iff, List.all_cons, List.all_nil, id, Bool.and_eq_true, Bool.not_eq_true', decide_eq_true_eq, decide_eq_false_iff_not, and_true] at hc; first | omega | (simp only [List.length_set, List.length_append, List.length_cons, List.length_nil, List.length_replicate, List.length_take, List.length_drop, List.length_map]; omega)) | (exfalso; simp_all [AllT]; done)))) ?_
    refine sw_step rfl rfl rfl (OpR.q (q_assign rfl rfl)) ?_
    refine sw_step rfl rfl rfl (OpR.q (q_assign rfl rfl)) ?_
    refine sw_nil ?_
    refine post_then ?_
    refine cw_block ?_
    -- STOP at: loop
    refine cw_loop (S := Nat × SlV) (fun y => [(0, [], .int .i64 n), (3, [], .int .i64 0), (4, [], y.2.v), (5, [], .int .i64 ((y.1 : Int) + 1)), (6, [], .int .i64 ((n : Int) - 1 - y.1))]) (fun y => Cl w [] [ownL 3 y.2.v (zigTo n y.1)]) (fun y => y.1 ≤ n / 2) (fun y => n / 2 - y.1) (0, s18) (by simp) (Le.cons rfl (Le.cons rfl (Le.cons rfl (Le.cons' rfl (by simp) (Le.cons' rfl (by simp) Le.nil))))) (fun _ h => h) ?_
    rintro ⟨k, s⟩ hk
    dsimp only at hk ⊢
    obtain ⟨z1, z2⟩ := zigTo_bd n k (by omega)
    refine cw_seq ?_
    refine cw_seq ?_
    -- region 5
    refine cw_region ?_
    refine sw_step rfl rfl rfl (OpR.q (q_move rfl rfl)) ?_
    refine sw_step rfl rfl rfl (OpR.q (q_move rfl rfl)) ?_
    refine sw_step rfl rfl rfl (OpR.q (q_leq rfl rfl rfl)) ?_
    refine sw_nil ?_
    refine post_then ?_
    -- STOP at: cond
    refine cw_cond rfl (fun h2 => ?_) (fun h2 => ?_)
    · skip
      have h3 : k < n / 2 := by simp at h2; omega
      refine cw_skip ?_
      refine post_then ?_
      refine cw_seq ?_
      refine cw_block ?_
      refine cw_seq ?_
      -- region 7
      refine cw_region ?_
      refine sw_step rfl rfl rfl (OpR.q (q_move rfl rfl)) ?_
      refine sw_step rfl rfl rfl (OpR.q (q_move rfl rfl)) ?_
      refine sw_x rfl rfl rfl (e_build1 (α := Int) rfl rfl rfl rfl) (fun s30 => ?_)
      first | refine sw_x rfl rfl rfl (e_append (i := 0) rfl (.cons rfl inferInstance (.cons rfl inferInstance (.nil))) rfl rfl (by first | exact fun w hw => Stb.cl (by assumption) hw | exact fun w hw => rd_own hw (by first | assumption | (repeat first | exact .head _ | apply List.Mem.tail)) | assumption) (by simp only [List.length_set, List.length_append, List.length_cons, List.length_nil, List.length_replicate, List.length_take, List.length_drop, List.length_map]; omega) rfl) (fun s31 => ?_) | refine sw_x rfl rfl rfl (e_append (i := 1) rfl (.cons rfl inferInstance (.cons rfl inferInstance (.nil))) rfl rfl (by first | exact fun w hw => Stb.cl (by assumption) hw | exact fun w hw => rd_own hw (by first | assumption | (repeat first | exact .head _ | apply List.Mem.tail)) | assumption) (by simp only [List.length_set, List.length_append, List.length_cons, List.length_nil, List.length_replicate, List.length_take, List.length_drop, List.length_map]; omega) rfl) (fun s31 => ?_) | refine sw_x rfl rfl rfl (e_append (i := 2) rfl (.cons rfl inferInstance (.cons rfl inferInstance (.nil))) rfl rfl (by first | exact fun w hw => Stb.cl (by assumption) hw | exact fun w hw => rd_own hw (by first | assumption | (repeat first | exact .head _ | apply List.Mem.tail)) | assumption) (by simp only [List.length_set, List.length_append, List.length_cons, List.length_nil, List.length_replicate, List.length_take, List.length_drop, List.length_map]; omega) rfl) (fun s31 => ?_) | refine sw_x rfl rfl rfl (e_append (i := 3) rfl (.cons rfl inferInstance (.cons rfl inferInstance (.nil))) rfl rfl (by first | exact fun w hw => Stb.cl (by assumption) hw | exact fun w hw => rd_own hw (by first | assumption | (repeat first | exact .head _ | apply List.Mem.tail)) | assumption) (by simp only [List.length_set, List.length_append, List.length_cons, List.length_nil, List.length_replicate, List.length_take, List.length_drop, List.length_map]; omega) rfl) (fun s31 => ?_) | refine sw_x rfl rfl rfl (e_append (i := 4) rfl (.cons rfl inferInstance (.cons rfl inferInstance (.nil))) rfl rfl (by first | exact fun w hw => Stb.cl (by assumption) hw | exact fun w hw => rd_own hw (by first | assumption | (repeat first | exact .head _ | apply List.Mem.tail)) | assumption) (by simp only [List.length_set, List.length_append, List.length_cons, List.length_nil, List.length_replicate, List.length_take, List.length_drop, List.length_map]; omega) rfl) (fun s31 => ?_) | refine sw_x rfl rfl rfl (e_append (i := 5) rfl (.cons rfl inferInstance (.cons rfl inferInstance (.nil))) rfl rfl (by first | exact fun w hw => Stb.cl (by assumption) hw | exact fun w hw => rd_own hw (by first | assumption | (repeat first | exact .head _ | apply List.Mem.tail)) | assumption) (by simp only [List.length_set, List.length_append, List.length_cons, List.length_nil, List.length_replicate, List.length_take, List.length_drop, List.length_map]; omega) rfl) (fun s31 => ?_) | refine sw_x rfl rfl rfl (e_append (i := 6) rfl (.cons rfl inferInstance (.cons rfl inferInstance (.nil))) rfl rfl (by first | exact fun w hw => Stb.cl (by assumption) hw | exact fun w hw => rd_own hw (by first | assumption | (repeat first | exact .head _ | apply List.Mem.tail)) | assumption) (by simp only [List.length_set, List.length_append, List.length_cons, List.length_nil, List.length_replicate, List.length_take, List.length_drop, List.length_map]; omega) rfl) (fun s31 => ?_) | refine sw_x rfl rfl rfl (e_append (i := 7) rfl (.cons rfl inferInstance (.cons rfl inferInstance (.nil))) rfl rfl (by first | exact fun w hw => Stb.cl (by assumption) hw | exact fun w hw => rd_own hw (by first | assumption | (repeat first | exact .head _ | apply List.Mem.tail)) | assumption) (by simp only [List.length_set, List.length_append, List.length_cons, List.length_nil, List.length_replicate, List.length_take, List.length_drop, List.length_map]; omega) rfl) (fun s31 => ?_) | refine sw_x rfl rfl rfl (e_append (i := 8) rfl (.cons rfl inferInstance (.cons rfl inferInstance (.nil))) rfl rfl (by first | exact fun w hw => Stb.cl (by assumption) hw | exact fun w hw => rd_own hw (by first | assumption | (repeat first | exact .head _ | apply List.Mem.tail)) | assumption) (by simp only [List.length_set, List.length_append, List.length_cons, List.length_nil, List.length_replicate, List.length_take, List.length_drop, List.length_map]; omega) rfl) (fun s31 => ?_) | refine sw_x rfl rfl rfl (e_append (i := 9) rfl (.cons rfl inferInstance (.cons rfl inferInstance (.nil))) rfl rfl (by first | exact fun w hw => Stb.cl (by assumption) hw | exact fun w hw => rd_own hw (by first | assumption | (repeat first | exact .head _ | apply List.Mem.tail)) | assumption) (by simp only [List.length_set, List.length_append, List.length_cons, List.length_nil, List.length_replicate, List.length_take, List.length_drop, List.length_map]; omega) rfl) (fun s31 => ?_) | refine sw_x rfl rfl rfl (e_append (i := 10) rfl (.cons rfl inferInstance (.cons rfl inferInstance (.nil))) rfl rfl (by first | exact fun w hw => Stb.cl (by assumption) hw | exact fun w hw => rd_own hw (by first | assumption | (repeat first | exact .head _ | apply List.Mem.tail)) | assumption) (by simp only [List.length_set, List.length_append, List.length_cons, List.length_nil, List.length_replicate, List.length_take, List.length_drop, List.length_map]; omega) rfl) (fun s31 => ?_) | refine sw_x rfl rfl rfl (e_append (i := 11) rfl (.cons rfl inferInstance (.cons rfl inferInstance (.nil))) rfl rfl (by first | exact fun w hw => Stb.cl (by assumption) hw | exact fun w hw => rd_own hw (by first | assumption | (repeat first | exact .head _ | apply List.Mem.tail)) | assumption) (by simp only [List.length_set, List.length_append, List.length_cons, List.length_nil, List.length_replicate, List.length_take, List.length_drop, List.length_map]; omega) rfl) (fun s31 => ?_) | refine sw_x rfl rfl rfl (e_append (i := 12) rfl (.cons rfl inferInstance (.cons rfl inferInstance (.nil))) rfl rfl (by first | exact fun w hw => Stb.cl (by assumption) hw | exact fun w hw => rd_own hw (by first | assumption | (repeat first | exact .head _ | apply List.Mem.tail)) | assumption) (by simp only [List.length_set, List.length_append, List.length_cons, List.length_nil, List.length_replicate, List.length_take, List.length_drop, List.length_map]; omega) rfl) (fun s31 => ?_) | refine sw_x rfl rfl rfl (e_append (i := 13) rfl (.cons rfl inferInstance (.cons rfl inferInstance (.nil))) rfl rfl (by first | exact fun w hw => Stb.cl (by assumption) hw | exact fun w hw => rd_own hw (by first | assumption | (repeat first | exact .head _ | apply List.Mem.tail)) | assumption) (by simp only [List.length_set, List.length_append, List.length_cons, List.length_nil, List.length_replicate, List.length_take, List.length_drop, List.length_map]; omega) rfl) (fun s31 => ?_) | refine sw_x rfl rfl rfl (e_append (i := 14) rfl (.cons rfl inferInstance (.cons rfl inferInstance (.nil))) rfl rfl (by first | exact fun w hw => Stb.cl (by assumption) hw | exact fun w hw => rd_own hw (by first | assumption | (repeat first | exact .head _ | apply List.Mem.tail)) | assumption) (by simp only [List.length_set, List.length_append, List.length_cons, List.length_nil, List.length_replicate, List.length_take, List.length_drop, List.length_map]; omega) rfl) (fun s31 => ?_) | refine sw_x rfl rfl rfl (e_append (i := 15) rfl (.cons rfl inferInstance (.cons rfl inferInstance (.nil))) rfl rfl (by first | exact fun w hw => Stb.cl (by assumption) hw | exact fun w hw => rd_own hw (by first | assumption | (repeat first | exact .head _ | apply List.Mem.tail)) | assumption) (by simp only [List.length_set, List.length_append, List.length_cons, List.length_nil, List.length_replicate, List.length_take, List.length_drop, List.length_map]; omega) rfl) (fun s31 => ?_)
      refine sw_step rfl rfl rfl (OpR.q (q_assign rfl rfl)) ?_
      refine sw_nil ?_
      refine post_then ?_
      refine cw_seq ?_
      -- region 8
      refine cw_region ?_
      refine sw_step rfl rfl rfl (OpR.q (q_move rfl rfl)) ?_
      refine sw_step rfl rfl rfl (OpR.q (q_move rfl rfl)) ?_
      refine sw_step rfl rfl rfl (OpR.q (q_lss rfl rfl rfl)) ?_
      refine sw_nil ?_
      refine post_then ?_
      -- STOP at: cond
      refine cw_cond rfl (fun h4 => ?_) (fun h4 => ?_)
      · skip
        have h5 : (k : Int) + 1 < n - 1 - k := by simpa using h4
        -- region 9
        refine cw_region ?_
        refine sw_step rfl rfl rfl (OpR.q (q_move rfl rfl)) ?_
        refine sw_step rfl rfl rfl (OpR.q (q_move rfl rfl)) ?_
        refine sw_x rfl rfl rfl (e_build1 (α := Int) rfl rfl rfl rfl) (fun s37 => ?_)
        first | refine sw_x rfl rfl rfl (e_append (i := 0) rfl (.cons rfl inferInstance (.cons rfl inferInstance (.nil))) rfl rfl (by first | exact fun w hw => Stb.cl (by assumption) hw | exact fun w hw => rd_own hw (by first | assumption | (repeat first | exact .head _ | apply List.Mem.tail)) | assumption) (by simp only [List.length_set, List.length_append, List.length_cons, List.length_nil, List.length_replicate, List.length_take, List.length_drop, List.length_map]; omega) rfl) (fun s38 => ?_) | refine sw_x rfl rfl rfl (e_append (i := 1) rfl (.cons rfl inferInstance (.cons rfl inferInstance (.nil))) rfl rfl (by first | exact fun w hw => Stb.cl (by assumption) hw | exact fun w hw => rd_own hw (by first | assumption | (repeat first | exact .head _ | apply List.Mem.tail)) | assumption) (by simp only [List.length_set, List.length_append, List.length_cons, List.length_nil, List.length_replicate, List.length_take, List.length_drop, List.length_map]; omega) rfl) (fun s38 => ?_) | refine sw_x rfl rfl rfl (e_append (i := 2) rfl (.cons rfl inferInstance (.cons rfl inferInstance (.nil))) rfl rfl (by first | exact fun w hw => Stb.cl (by assumption) hw | exact fun w hw => rd_own hw (by first | assumption | (repeat first | exact .head _ | apply List.Mem.tail)) | assumption) (by simp only [List.length_set, List.length_append, List.length_cons, List.length_nil, List.length_replicate, List.length_take, List.length_drop, List.length_map]; omega) rfl) (fun s38 => ?_) | refine sw_x rfl rfl rfl (e_append (i := 3) rfl (.cons rfl inferInstance (.cons rfl inferInstance (.nil))) rfl rfl (by first | exact fun w hw => Stb.cl (by assumption) hw | exact fun w hw => rd_own hw (by first | assumption | (repeat first | exact .head _ | apply List.Mem.tail)) | assumption) (by simp only [List.length_set, List.length_append, List.length_cons, List.length_nil, List.length_replicate, List.length_take, List.length_drop, List.length_map]; omega) rfl) (fun s38 => ?_) | refine sw_x rfl rfl rfl (e_append (i := 4) rfl (.cons rfl inferInstance (.cons rfl inferInstance (.nil))) rfl rfl (by first | exact fun w hw => Stb.cl (by assumption) hw | exact fun w hw => rd_own hw (by first | assumption | (repeat first | exact .head _ | apply List.Mem.tail)) | assumption) (by simp only [List.length_set, List.length_append, List.length_cons, List.length_nil, List.length_replicate, List.length_take, List.length_drop, List.length_map]; omega) rfl) (fun s38 => ?_) | refine sw_x rfl rfl rfl (e_append (i := 5) rfl (.cons rfl inferInstance (.cons rfl inferInstance (.nil))) rfl rfl (by first | exact fun w hw => Stb.cl (by assumption) hw | exact fun w hw => rd_own hw (by first | assumption | (repeat first | exact .head _ | apply List.Mem.tail)) | assumption) (by simp only [List.length_set, List.length_append, List.length_cons, List.length_nil, List.length_replicate, List.length_take, List.length_drop, List.length_map]; omega) rfl) (fun s38 => ?_) | refine sw_x rfl rfl rfl (e_append (i := 6) rfl (.cons rfl inferInstance (.cons rfl inferInstance (.nil))) rfl rfl (by first | exact fun w hw => Stb.cl (by assumption) hw | exact fun w hw => rd_own hw (by first | assumption | (repeat first | exact .head _ | apply List.Mem.tail)) | assumption) (by simp only [List.length_set, List.length_append, List.length_cons, List.length_nil, List.length_replicate, List.length_take, List.length_drop, List.length_map]; omega) rfl) (fun s38 => ?_) | refine sw_x rfl rfl rfl (e_append (i := 7) rfl (.cons rfl inferInstance (.cons rfl inferInstance (.nil))) rfl rfl (by first | exact fun w hw => Stb.cl (by assumption) hw | exact fun w hw => rd_own hw (by first | assumption | (repeat first | exact .head _ | apply List.Mem.tail)) | assumption) (by simp only [List.length_set, List.length_append, List.length_cons, List.length_nil, List.length_replicate, List.length_take, List.length_drop, List.length_map]; omega) rfl) (fun s38 => ?_) | refine sw_x rfl rfl rfl (e_append (i := 8) rfl (.cons rfl inferInstance (.cons rfl inferInstance (.nil))) rfl rfl (by first | exact fun w hw => Stb.cl (by assumption) hw | exact fun w hw => rd_own hw (by first | assumption | (repeat first | exact .head _ | apply List.Mem.tail)) | assumption) (by simp only [List.length_set, List.length_append, List.length_cons, List.length_nil, List.length_replicate, List.length_take, List.length_drop, List.length_map]; omega) rfl) (fun s38 => ?_) | refine sw_x rfl rfl rfl (e_append (i := 9) rfl (.cons rfl inferInstance (.cons rfl inferInstance (.nil))) rfl rfl (by first | exact fun w hw => Stb.cl (by assumption) hw | exact fun w hw => rd_own hw (by first | assumption | (repeat first | exact .head _ | apply List.Mem.tail)) | assumption) (by simp only [List.length_set, List.length_append, List.length_cons, List.length_nil, List.length_replicate, List.length_take, List.length_drop, List.length_map]; omega) rfl) (fun s38 => ?_) | refine sw_x rfl rfl rfl (e_append (i := 10) rfl (.cons rfl inferInstance (.cons rfl inferInstance (.nil))) rfl rfl (by first | exact fun w hw => Stb.cl (by assumption) hw | exact fun w hw => rd_own hw (by first | assumption | (repeat first | exact .head _ | apply List.Mem.tail)) | assumption) (by simp only [List.length_set, List.length_append, List.length_cons, List.length_nil, List.length_replicate, List.length_take, List.length_drop, List.length_map]; omega) rfl) (fun s38 => ?_) | refine sw_x rfl rfl rfl (e_append (i := 11) rfl (.cons rfl inferInstance (.cons rfl inferInstance (.nil))) rfl rfl (by first | exact fun w hw => Stb.cl (by assumption) hw | exact fun w hw => rd_own hw (by first | assumption | (repeat first | exact .head _ | apply List.Mem.tail)) | assumption) (by simp only [List.length_set, List.length_append, List.length_cons, List.length_nil, List.length_replicate, List.length_take, List.length_drop, List.length_map]; omega) rfl) (fun s38 => ?_) | refine sw_x rfl rfl rfl (e_append (i := 12) rfl (.cons rfl inferInstance (.cons rfl inferInstance (.nil))) rfl rfl (by first | exact fun w hw => Stb.cl (by assumption) hw | exact fun w hw => rd_own hw (by first | assumption | (repeat first | exact .head _ | apply List.Mem.tail)) | assumption) (by simp only [List.length_set, List.length_append, List.length_cons, List.length_nil, List.length_replicate, List.length_take, List.length_drop, List.length_map]; omega) rfl) (fun s38 => ?_) | refine sw_x rfl rfl rfl (e_append (i := 13) rfl (.cons rfl inferInstance (.cons rfl inferInstance (.nil))) rfl rfl (by first | exact fun w hw => Stb.cl (by assumption) hw | exact fun w hw => rd_own hw (by first | assumption | (repeat first | exact .head _ | apply List.Mem.tail)) | assumption) (by simp only [List.length_set, List.length_append, List.length_cons, List.length_nil, List.length_replicate, List.length_take, List.length_drop, List.length_map]; omega) rfl) (fun s38 => ?_) | refine sw_x rfl rfl rfl (e_append (i := 14) rfl (.cons rfl inferInstance (.cons rfl inferInstance (.nil))) rfl rfl (by first | exact fun w hw => Stb.cl (by assumption) hw | exact fun w hw => rd_own hw (by first | assumption | (repeat first | exact .head _ | apply List.Mem.tail)) | assumption) (by simp only [List.length_set, List.length_append, List.length_cons, List.length_nil, List.length_replicate, List.length_take, List.length_drop, List.length_map]; omega) rfl) (fun s38 => ?_) | refine sw_x rfl rfl rfl (e_append (i := 15) rfl (.cons rfl inferInstance (.cons rfl inferInstance (.nil))) rfl rfl (by first | exact fun w hw => Stb.cl (by assumption) hw | exact fun w hw => rd_own hw (by first | assumption | (repeat first | exact .head _ | apply List.Mem.tail)) | assumption) (by simp only [List.length_set, List.length_append, List.length_cons, List.length_nil, List.length_replicate, List.length_take, List.length_drop, List.length_map]; omega) rfl) (fun s38 => ?_)
        refine sw_step rfl rfl rfl (OpR.q (q_assign rfl rfl)) ?_
        refine sw_nil ?_
        refine post_blk ?_
        refine post_then ?_
        -- region 6
        refine cw_region ?_
        refine sw_step rfl rfl rfl (OpR.q (q_move rfl rfl)) ?_
        refine sw_step rfl rfl rfl (OpR.q (q_add rfl rfl rfl (by intro hc; first | omega | (simp only [List.length_set, List.length_append, List.length_cons, List.length_nil, List.length_replicate, List.length_take, List.length_drop, List.length_map]; omega) | (simp only [AllT.iff, List.all_cons, List.all_nil, id, Bool.and_eq_true, Bool.not_eq_true', decide_eq_true_eq, decide_eq_false_iff_not, and_true] at hc; first | omega | (simp only [List.length_set, List.length_append, List.length_cons, List.length_nil, List.length_replicate, List.length_take, List.length_drop, List.length_map]; omega)) | (exfalso; simp_all [AllT]; done)))) ?_
        refine sw_step rfl rfl rfl (OpR.q (q_move rfl rfl)) ?_
        refine sw_step rfl rfl rfl (OpR.q (q_sub rfl rfl rfl (by intro hc; first | omega | (simp only [List.length_set, List.length_append, List.length_cons, List.length_nil, List.length_replicate, List.length_take, List.length_drop, List.length_map]; omega) | (simp only [AllT.iff, List.all_cons, List.all_nil, id, Bool.and_eq_true, Bool.not_eq_true', decide_eq_true_eq, decide_eq_false_iff_not, and_true] at hc; first | omega | (simp only [List.length_set, List.length_append, List.length_cons, List.length_nil, List.length_replicate, List.length_take, List.length_drop, List.length_map]; omega)) | (exfalso; simp_all [AllT]; done)))) ?_
        refine sw_step rfl rfl rfl (OpR.q (q_assign rfl rfl)) ?_
        refine sw_step rfl rfl rfl (OpR.q (q_assign rfl rfl)) ?_
        refine sw_nil ?_
        refine post_next (k + 1, s38) (by (repeat first | exact Le.nil | refine Le.cons rfl ?_ | refine Le.cons' rfl (by congr 1; first | omega | (simp only; omega)) ?_)) (fun w3 hw3 => ?_) (by simp only; omega) (by simp only; omega)
        simp only [zigTo, if_pos h5]
        have e : zigTo n k ++ [(k : Int) + 1, n - 1 - k] = zigTo n k ++ [(k : Int) + 1] ++ [(n : Int) - 1 - k] := by simp
        rw [e]
        exact (fun w h => Cl.sel (by (repeat first | exact Sel.nil _ | refine Sel.take 0 rfl ?_ | refine Sel.take 1 rfl ?_ | refine Sel.take 2 rfl ?_ | refine Sel.take 3 rfl ?_ | refine Sel.take 4 rfl ?_ | refine Sel.take 5 rfl ?_ | refine Sel.take 6 rfl ?_ | refine Sel.take 7 rfl ?_ | refine Sel.take 8 rfl ?_ | refine Sel.take 9 rfl ?_ | refine Sel.take 10 rfl ?_ | refine Sel.take 11 rfl ?_)) w h) _ hw3
      · skip
        have h5 : ¬ (k : Int) + 1 < n - 1 - k := by simpa using h4
        refine cw_skip ?_
        refine post_blk ?_
        refine post_then ?_
        -- region 6
        refine cw_region ?_
        refine sw_step rfl rfl rfl (OpR.q (q_move rfl rfl)) ?_
        refine sw_step rfl rfl rfl (OpR.q (q_add rfl rfl rfl (by intro hc; first | omega | (simp only [List.length_set, List.length_append, List.length_cons, List.length_nil, List.length_replicate, List.length_take, List.length_drop, List.length_map]; omega) | (simp only [AllT.iff, List.all_cons, List.all_nil, id, Bool.and_eq_true, Bool.not_eq_true', decide_eq_true_eq, decide_eq_false_iff_not, and_true] at hc; first | omega | (simp only [List.length_set, List.length_append, List.length_cons, List.length_nil, List.length_replicate, List.length_take, List.length_drop, List.length_map]; omega)) | (exfalso; simp_all [AllT]; done)))) ?_
        refine sw_step rfl rfl rfl (OpR.q (q_move rfl rfl)) ?_
        refine sw_step rfl rfl rfl (OpR.q (q_sub rfl rfl rfl (by intro hc; first | omega | (simp only [List.length_set, List.length_append, List.length_cons, List.length_nil, List.length_replicate, List.length_take, List.length_drop, List.length_map]; omega) | (simp only [AllT.iff, List.all_cons, List.all_nil, id, Bool.and_eq_true, Bool.not_eq_true', decide_eq_true_eq, decide_eq_false_iff_not, and_true] at hc; first | omega | (simp only [List.length_set, List.length_append, List.length_cons, List.length_nil, List.length_replicate, List.length_take, List.length_drop, List.length_map]; omega)) | (exfalso; simp_all [AllT]; done)))) ?_
        refine sw_step rfl rfl rfl (OpR.q (q_assign rfl rfl)) ?_
        refine sw_step rfl rfl rfl (OpR.q (q_assign rfl rfl)) ?_
        refine sw_nil ?_
        refine post_next (k + 1, s31) (by (repeat first | exact Le.nil | refine Le.cons rfl ?_ | refine Le.cons' rfl (by congr 1; first | omega | (simp only; omega)) ?_)) (fun w3 hw3 => ?_) (by simp only; omega) (by simp only; omega)
        simp only [zigTo, if_neg h5]
        exact (fun w h => Cl.sel (by (repeat first | exact Sel.nil _ | refine Sel.take 0 rfl ?_ | refine Sel.take 1 rfl ?_ | refine Sel.take 2 rfl ?_ | refine Sel.take 3 rfl ?_ | refine Sel.take 4 rfl ?_ | refine Sel.take 5 rfl ?_ | refine Sel.take 6 rfl ?_ | refine Sel.take 7 rfl ?_ | refine Sel.take 8 rfl ?_ | refine Sel.take 9 rfl ?_ | refine Sel.take 10 rfl ?_ | refine Sel.take 11 rfl ?_)) w h) _ hw3
    · skip
      have h3 : k = n / 2 := by simp at h2; omega
      subst h3
      refine cw_exit ?_
      refine post_then_x ?_
      refine post_then_x ?_
      refine post_blk_eq ?_
      refine post_then ?_
      refine cw_seq ?_
      -- region 10
      refine cw_region ?_
      refine sw_step rfl rfl rfl (OpR.q (q_assign rfl rfl)) ?_
      refine sw_nil ?_
      refine post_then ?_
      refine cw_seq ?_
      refine cw_seq ?_
      -- region 11
      refine cw_region ?_
      refine sw_step rfl rfl rfl (OpR.q (q_move rfl rfl)) ?_
      refine sw_step rfl rfl rfl (OpR.q (q_move rfl rfl)) ?_
      refine sw_nil ?_
      refine post_then ?_
      refine cw_block ?_
      -- STOP at: loop
      have z1' : (zig n).length ≤ 61 := by have := z1; simp only [zig]; omega
      have z2' : ∀ k, 0 ≤ nth (zig n) k ∧ nth (zig n) k ≤ 60 := nth_bd (by omega) fun v hv => by have := z2 v hv; omega
      refine cw_loop (S := Nat × SlV × List (SlV × List Int)) (fun y => [(0, [], .int .i64 n), (3, [], .int .i64 0), (4, [], s.v), (7, [], y.2.1.v), (39, [], .int .i64 n), (40, [], .int .i64 y.1)]) (fun y => Cl w [] (ownL 37 y.2.1.v (y.2.2.map (·.1)) :: ownL 3 s.v (zig n) :: rowsA y.2.2)) (fun y => y.1 ≤ n ∧ y.2.2.map (·.2) = (List.range y.1).map (sqRow n)) (fun y => n - y.1) (0, ⟨none, 0, 0⟩, []) (by simp) (by (repeat first | exact Le.nil | refine Le.cons rfl ?_ | refine Le.cons' rfl (by congr 1; first | omega | (simp only; omega)) ?_)) (fun _ h => h.addNil (α := SlV) 37) ?_
      rintro ⟨r, s7, rs⟩ ⟨hr, hrs⟩
      dsimp only at hr hrs ⊢
      have hrl : rs.length = r := by have := congrArg List.length hrs; simpa using this
      refine cw_seq ?_
      -- region 12
      refine cw_region ?_
      refine sw_step rfl rfl rfl (OpR.q (q_lss rfl rfl rfl)) ?_
      refine sw_nil ?_
      refine post_then ?_
      refine cw_seq ?_
      -- STOP at: cond
      refine cw_cond rfl (fun h5 => ?_) (fun h5 => ?_)
      · skip
        have hr' : r < n := by simp at h5; omega
        refine cw_skip ?_
        refine post_then ?_
        refine cw_seq ?_
        refine cw_block ?_
        refine cw_seq ?_
        -- region 13
        refine cw_region ?_
        refine sw_step rfl rfl rfl (OpR.q (q_move rfl rfl)) ?_
        refine sw_step rfl rfl rfl (OpR.q (q_assign rfl rfl)) ?_
        refine sw_nil ?_
        refine post_then ?_
        refine cw_seq ?_
        -- region 14
        refine cw_region ?_
        refine sw_step rfl rfl rfl (OpR.q (q_assign rfl rfl)) ?_
        refine sw_nil ?_
        refine post_then ?_
        refine cw_seq ?_
        refine cw_seq ?_
        -- region 15
        refine cw_region ?_
        refine sw_step rfl rfl rfl (OpR.q (q_move rfl rfl)) ?_
        first | refine sw_step rfl rfl rfl (OpR.q (q_len rfl (.cons rfl inferInstance (.nil)) (by first | exact fun w hw => Stb.cl (by assumption) hw | exact fun w hw => rd_own hw (by first | assumption | (repeat first | exact .head _ | apply List.Mem.tail)) | assumption))) ?_ | refine sw_step rfl rfl rfl (OpR.q (q_lenV rfl (.cons rfl inferInstance (.nil)))) ?_
        refine sw_step rfl rfl rfl (OpR.q (q_move rfl rfl)) ?_
        refine sw_nil ?_
        refine post_then ?_
        refine cw_block ?_
        -- STOP at: loop
        refine cw_loop (S := Nat × SlV) (fun y => [(0, [], .int .i64 n), (3, [], .int .i64 0), (4, [], s.v), (7, [], s7.v), (8, [], .int .i64 r), (9, [], y.2.v), (39, [], .int .i64 n), (40, [], .int .i64 r), (43, [], s.v), (44, [], .int .i64 (zig n).length), (45, [], .int .i64 y.1)]) (fun y => Cl w [] (ownL 3 y.2.v ((sqRow n r).take y.1) :: ownL 37 s7.v (rs.map (·.1)) :: ownL 3 s.v (zig n) :: rowsA rs)) (fun y => y.1 ≤ (zig n).length) (fun y => (zig n).length - y.1) (0, ⟨none, 0, 0⟩) (by simp) (by (repeat first | exact Le.nil | refine Le.cons rfl ?_ | refine Le.cons' rfl (by congr 1; first | omega | (simp only; omega)) ?_)) (fun _ h => h.addNil (α := Int) 3) ?_
        rintro ⟨i, s9⟩ hi
        dsimp only at hi ⊢
        have hz := z2' i
        have hl9 := sqRow_len n r
        refine cw_seq ?_
        -- region 16
        refine cw_region ?_
        refine sw_step rfl rfl rfl (OpR.q (q_lss rfl rfl rfl)) ?_
        refine sw_nil ?_
        refine post_then ?_
        refine cw_seq ?_
        -- STOP at: cond
        refine cw_cond rfl (fun h6 => ?_) (fun h6 => ?_)
        · skip
          have hi' : i < (zig n).length := by simp at h6; omega
          refine cw_skip ?_
          refine post_then ?_
          refine cw_seq ?_
          refine cw_block ?_
          refine cw_seq ?_
          -- region 17
          refine cw_region ?_
          first | refine sw_step rfl rfl rfl (OpR.q (q_indexN rfl rfl rfl (by first | exact fun w hw => Stb.cl (by assumption) hw | exact fun w hw => rd_own hw (by first | assumption | (repeat first | exact .head _ | apply List.Mem.tail)) | assumption) (by intro hc; first | omega | (simp only [List.length_set, List.length_append, List.length_cons, List.length_nil, List.length_replicate, List.length_take, List.length_drop, List.length_map]; omega) | (simp only [AllT.iff, List.all_cons, List.all_nil, id, Bool.and_eq_true, Bool.not_eq_true', decide_eq_true_eq, decide_eq_false_iff_not, and_true] at hc; first | omega | (simp only [List.length_set, List.length_append, List.length_cons, List.length_nil, List.length_replicate, List.length_take, List.length_drop, List.length_map]; omega)) | (exfalso; simp_all [AllT]; done)))) ?_ | refine sw_step rfl rfl rfl (OpR.q (q_index rfl rfl rfl (by first | exact fun w hw => Stb.cl (by assumption) hw | exact fun w hw => rd_own hw (by first | assumption | (repeat first | exact .head _ | apply List.Mem.tail)) | assumption) (by intro hc; first | omega | (simp only [List.length_set, List.length_append, List.length_cons, List.length_nil, List.length_replicate, List.length_take, List.length_drop, List.length_map]; omega) | (simp only [AllT.iff, List.all_cons, List.all_nil, id, Bool.and_eq_true, Bool.not_eq_true', decide_eq_true_eq, decide_eq_false_iff_not, and_true] at hc; first | omega | (simp only [List.length_set, List.length_append, List.length_cons, List.length_nil, List.length_replicate, List.length_take, List.length_drop, List.length_map]; omega)) | (exfalso; simp_all [AllT]; done)))) ?_
          first | refine sw_step rfl rfl rfl (OpR.q (q_loadC rfl rfl (by first | assumption | (repeat first | exact .head _ | apply List.Mem.tail)) rfl)) ?_ | refine sw_step rfl rfl rfl (OpR.q (q_loadA rfl rfl (by first | assumption | (repeat first | exact .head _ | apply List.Mem.tail)) rfl)) ?_ | refine sw_step rfl rfl rfl (OpR.q (q_loadEl rfl rfl rfl (by first | exact fun w hw => Stb.cl (by assumption) hw | exact fun w hw => rd_own hw (by first | assumption | (repeat first | exact .head _ | apply List.Mem.tail)) | assumption) (by intro hc; first | omega | (simp only [List.length_set, List.length_append, List.length_cons, List.length_nil, List.length_replicate, List.length_take, List.length_drop, List.length_map]; omega) | (simp only [AllT.iff, List.all_cons, List.all_nil, id, Bool.and_eq_true, Bool.not_eq_true', decide_eq_true_eq, decide_eq_false_iff_not, and_true] at hc; first | omega | (simp only [List.length_set, List.length_append, List.length_cons, List.length_nil, List.length_replicate, List.length_take, List.length_drop, List.length_map]; omega)) | (exfalso; simp_all [AllT]; done)))) ?_ | refine sw_step rfl rfl rfl (OpR.q (q_loadF rfl rfl rfl (by first | exact fun w hw => Stb.cl (by assumption) hw | exact fun w hw => rd_own hw (by first | assumption | (repeat first | exact .head _ | apply List.Mem.tail)) | assumption) (by intro hc; first | omega | (simp only [List.length_set, List.length_append, List.length_cons, List.length_nil, List.length_replicate, List.length_take, List.length_drop, List.length_map]; omega) | (simp only [AllT.iff, List.all_cons, List.all_nil, id, Bool.and_eq_true, Bool.not_eq_true', decide_eq_true_eq, decide_eq_false_iff_not, and_true] at hc; first | omega | (simp only [List.length_set, List.length_append, List.length_cons, List.length_nil, List.length_replicate, List.length_take, List.length_drop, List.length_map]; omega)) | (exfalso; simp_all [AllT]; done)) rfl)) ?_ | refine sw_step rfl rfl rfl (OpR.q (q_loadS rfl rfl (fun w hw => Stb.cl (by assumption) hw) rfl)) ?_
          refine sw_step rfl rfl rfl (OpR.q (q_assign rfl rfl)) ?_
          refine sw_nil ?_
          refine post_then ?_
          -- region 18
          refine cw_region ?_
          refine sw_step rfl rfl rfl (OpR.q (q_move rfl rfl)) ?_
          refine sw_step rfl rfl rfl (OpR.q (q_move rfl rfl)) ?_
          refine sw_step rfl rfl rfl (OpR.q (q_move rfl rfl)) ?_
          refine sw_step rfl rfl rfl (OpR.q (q_add rfl rfl rfl (by intro hc; first | omega | (simp only [List.length_set, List.length_append, List.length_cons, List.length_nil, List.length_replicate, List.length_take, List.length_drop, List.length_map]; omega) | (simp only [AllT.iff, List.all_cons, List.all_nil, id, Bool.and_eq_true, Bool.not_eq_true', decide_eq_true_eq, decide_eq_false_iff_not, and_true] at hc; first | omega | (simp only [List.length_set, List.length_append, List.length_cons, List.length_nil, List.length_replicate, List.length_take, List.length_drop, List.length_map]; omega)) | (exfalso; simp_all [AllT]; done)))) ?_
          refine sw_step rfl rfl rfl (OpR.q (q_move rfl rfl)) ?_
          refine sw_step rfl rfl rfl (OpR.q (q_rem rfl rfl rfl (by intro hc; first | omega | (simp only [List.length_set, List.length_append, List.length_cons, List.length_nil, List.length_replicate, List.length_take, List.length_drop, List.length_map]; omega) | (simp only [AllT.iff, List.all_cons, List.all_nil, id, Bool.and_eq_true, Bool.not_eq_true', decide_eq_true_eq, decide_eq_false_iff_not, and_true] at hc; first | omega | (simp only [List.length_set, List.length_append, List.length_cons, List.length_nil, List.length_replicate, List.length_take, List.length_drop, List.length_map]; omega)) | (exfalso; simp_all [AllT]; done)))) ?_
          refine sw_x rfl rfl rfl (e_build1 (α := Int) rfl rfl rfl rfl) (fun s55 => ?_)
          first | refine sw_x rfl rfl rfl (e_append (i := 0) rfl (.cons rfl inferInstance (.cons rfl inferInstance (.nil))) rfl rfl (by first | exact fun w hw => Stb.cl (by assumption) hw | exact fun w hw => rd_own hw (by first | assumption | (repeat first | exact .head _ | apply List.Mem.tail)) | assumption) (by simp only [List.length_set, List.length_append, List.length_cons, List.length_nil, List.length_replicate, List.length_take, List.length_drop, List.length_map]; omega) rfl) (fun s56 => ?_) | refine sw_x rfl rfl rfl (e_append (i := 1) rfl (.cons rfl inferInstance (.cons rfl inferInstance (.nil))) rfl rfl (by first | exact fun w hw => Stb.cl (by assumption) hw | exact fun w hw => rd_own hw (by first | assumption | (repeat first | exact .head _ | apply List.Mem.tail)) | assumption) (by simp only [List.length_set, List.length_append, List.length_cons, List.length_nil, List.length_replicate, List.length_take, List.length_drop, List.length_map]; omega) rfl) (fun s56 => ?_) | refine sw_x rfl rfl rfl (e_append (i := 2) rfl (.cons rfl inferInstance (.cons rfl inferInstance (.nil))) rfl rfl (by first | exact fun w hw => Stb.cl (by assumption) hw | exact fun w hw => rd_own hw (by first | assumption | (repeat first | exact .head _ | apply List.Mem.tail)) | assumption) (by simp only [List.length_set, List.length_append, List.length_cons, List.length_nil, List.length_replicate, List.length_take, List.length_drop, List.length_map]; omega) rfl) (fun s56 => ?_) | refine sw_x rfl rfl rfl (e_append (i := 3) rfl (.cons rfl inferInstance (.cons rfl inferInstance (.nil))) rfl rfl (by first | exact fun w hw => Stb.cl (by assumption) hw | exact fun w hw => rd_own hw (by first | assumption | (repeat first | exact .head _ | apply List.Mem.tail)) | assumption) (by simp only [List.length_set, List.length_append, List.length_cons, List.length_nil, List.length_replicate, List.length_take, List.length_drop, List.length_map]; omega) rfl) (fun s56 => ?_) | refine sw_x rfl rfl rfl (e_append (i := 4) rfl (.cons rfl inferInstance (.cons rfl inferInstance (.nil))) rfl rfl (by first | exact fun w hw => Stb.cl (by assumption) hw | exact fun w hw => rd_own hw (by first | assumption | (repeat first | exact .head _ | apply List.Mem.tail)) | assumption) (by simp only [List.length_set, List.length_append, List.length_cons, List.length_nil, List.length_replicate, List.length_take, List.length_drop, List.length_map]; omega) rfl) (fun s56 => ?_) | refine sw_x rfl rfl rfl (e_append (i := 5) rfl (.cons rfl inferInstance (.cons rfl inferInstance (.nil))) rfl rfl (by first | exact fun w hw => Stb.cl (by assumption) hw | exact fun w hw => rd_own hw (by first | assumption | (repeat first | exact .head _ | apply List.Mem.tail)) | assumption) (by simp only [List.length_set, List.length_append, List.length_cons, List.length_nil, List.length_replicate, List.length_take, List.length_drop, List.length_map]; omega) rfl) (fun s56 => ?_) | refine sw_x rfl rfl rfl (e_append (i := 6) rfl (.cons rfl inferInstance (.cons rfl inferInstance (.nil))) rfl rfl (by first | exact fun w hw => Stb.cl (by assumption) hw | exact fun w hw => rd_own hw (by first | assumption | (repeat first | exact .head _ | apply List.Mem.tail)) | assumption) (by simp only [List.length_set, List.length_append, List.length_cons, List.length_nil, List.length_replicate, List.length_take, List.length_drop, List.length_map]; omega) rfl) (fun s56 => ?_) | refine sw_x rfl rfl rfl (e_append (i := 7) rfl (.cons rfl inferInstance (.cons rfl inferInstance (.nil))) rfl rfl (by first | exact fun w hw => Stb.cl (by assumption) hw | exact fun w hw => rd_own hw (by first | assumption | (repeat first | exact .head _ | apply List.Mem.tail)) | assumption) (by simp only [List.length_set, List.length_append, List.length_cons, List.length_nil, List.length_replicate, List.length_take, List.length_drop, List.length_map]; omega) rfl) (fun s56 => ?_) | refine sw_x rfl rfl rfl (e_append (i := 8) rfl (.cons rfl inferInstance (.cons rfl inferInstance (.nil))) rfl rfl (by first | exact fun w hw => Stb.cl (by assumption) hw | exact fun w hw => rd_own hw (by first | assumption | (repeat first | exact .head _ | apply List.Mem.tail)) | assumption) (by simp only [List.length_set, List.length_append, List.length_cons, List.length_nil, List.length_replicate, List.length_take, List.length_drop, List.length_map]; omega) rfl) (fun s56 => ?_) | refine sw_x rfl rfl rfl (e_append (i := 9) rfl (.cons rfl inferInstance (.cons rfl inferInstance (.nil))) rfl rfl (by first | exact fun w hw => Stb.cl (by assumption) hw | exact fun w hw => rd_own hw (by first | assumption | (repeat first | exact .head _ | apply List.Mem.tail)) | assumption) (by simp only [List.length_set, List.length_append, List.length_cons, List.length_nil, List.length_replicate, List.length_take, List.length_drop, List.length_map]; omega) rfl) (fun s56 => ?_) | refine sw_x rfl rfl rfl (e_append (i := 10) rfl (.cons rfl inferInstance (.cons rfl inferInstance (.nil))) rfl rfl (by first | exact fun w hw => Stb.cl (by assumption) hw | exact fun w hw => rd_own hw (by first | assumption | (repeat first | exact .head _ | apply List.Mem.tail)) | assumption) (by simp only [List.length_set, List.length_append, List.length_cons, List.length_nil, List.length_replicate, List.length_take, List.length_drop, List.length_map]; omega) rfl) (fun s56 => ?_) | refine sw_x rfl rfl rfl (e_append (i := 11) rfl (.cons rfl inferInstance (.cons rfl inferInstance (.nil))) rfl rfl (by first | exact fun w hw => Stb.cl (by assumption) hw | exact fun w hw => rd_own hw (by first | assumption | (repeat first | exact .head _ | apply List.Mem.tail)) | assumption) (by simp only [List.length_set, List.length_append, List.length_cons, List.length_nil, List.length_replicate, List.length_take, List.length_drop, List.length_map]; omega) rfl) (fun s56 => ?_) | refine sw_x rfl rfl rfl (e_append (i := 12) rfl (.cons rfl inferInstance (.cons rfl inferInstance (.nil))) rfl rfl (by first | exact fun w hw => Stb.cl (by assumption) hw | exact fun w hw => rd_own hw (by first | assumption | (repeat first | exact .head _ | apply List.Mem.tail)) | assumption) (by simp only [List.length_set, List.length_append, List.length_cons, List.length_nil, List.length_replicate, List.length_take, List.length_drop, List.length_map]; omega) rfl) (fun s56 => ?_) | refine sw_x rfl rfl rfl (e_append (i := 13) rfl (.cons rfl inferInstance (.cons rfl inferInstance (.nil))) rfl rfl (by first | exact fun w hw => Stb.cl (by assumption) hw | exact fun w hw => rd_own hw (by first | assumption | (repeat first | exact .head _ | apply List.Mem.tail)) | assumption) (by simp only [List.length_set, List.length_append, List.length_cons, List.length_nil, List.length_replicate, List.length_take, List.length_drop, List.length_map]; omega) rfl) (fun s56 => ?_) | refine sw_x rfl rfl rfl (e_append (i := 14) rfl (.cons rfl inferInstance (.cons rfl inferInstance (.nil))) rfl rfl (by first | exact fun w hw => Stb.cl (by assumption) hw | exact fun w hw => rd_own hw (by first | assumption | (repeat first | exact .head _ | apply List.Mem.tail)) | assumption) (by simp only [List.length_set, List.length_append, List.length_cons, List.length_nil, List.length_replicate, List.length_take, List.length_drop, List.length_map]; omega) rfl) (fun s56 => ?_) | refine sw_x rfl rfl rfl (e_append (i := 15) rfl (.cons rfl inferInstance (.cons rfl inferInstance (.nil))) rfl rfl (by first | exact fun w hw => Stb.cl (by assumption) hw | exact fun w hw => rd_own hw (by first | assumption | (repeat first | exact .head _ | apply List.Mem.tail)) | assumption) (by simp only [List.length_set, List.length_append, List.length_cons, List.length_nil, List.length_replicate, List.length_take, List.length_drop, List.length_map]; omega) rfl) (fun s56 => ?_)
          refine sw_step rfl rfl rfl (OpR.q (q_assign rfl rfl)) ?_
          refine sw_nil ?_
          refine post_blk ?_
          refine post_then ?_
          -- region 19
          refine cw_region ?_
          refine sw_step rfl rfl rfl (OpR.q (q_add rfl rfl rfl (by intro hc; first | omega | (simp only [List.length_set, List.length_append, List.length_cons, List.length_nil, List.length_replicate, List.length_take, List.length_drop, List.length_map]; omega) | (simp only [AllT.iff, List.all_cons, List.all_nil, id, Bool.and_eq_true, Bool.not_eq_true', decide_eq_true_eq, decide_eq_false_iff_not, and_true] at hc; first | omega | (simp only [List.length_set, List.length_append, List.length_cons, List.length_nil, List.length_replicate, List.length_take, List.length_drop, List.length_map]; omega)) | (exfalso; simp_all [AllT]; done)))) ?_
          refine sw_step rfl rfl rfl (OpR.q (q_move rfl rfl)) ?_
          refine sw_nil ?_
          refine post_next (i + 1, s56) (by (repeat first | exact Le.nil | refine Le.cons rfl ?_ | refine Le.cons' rfl (by congr 1; first | omega | (simp only; omega)) ?_)) (fun w3 hw3 => ?_) (by simp only; omega) (by simp only; omega)
          simp only [sqRow_succ n r i hi']
          exact hw3.tail
        · skip
          have hi' : i = (zig n).length := by simp at h6; omega
          subst hi'
          rw [← sqRow_len n r, List.take_length]
          refine cw_exit ?_
          refine post_then_x ?_
          refine post_then_x ?_
          refine post_blk_eq ?_
          refine post_then ?_
          -- region 20
          refine cw_region ?_
          refine sw_step rfl rfl rfl (OpR.q (q_move rfl rfl)) ?_
          refine sw_step rfl rfl rfl (OpR.q (q_move rfl rfl)) ?_
          refine sw_x rfl rfl rfl (e_build1 (α := SlV) rfl rfl rfl rfl) (fun s60 => ?_)
          first | refine sw_x rfl rfl rfl (e_append (i := 0) rfl (.cons rfl inferInstance (.cons rfl inferInstance (.nil))) rfl rfl (by first | exact fun w hw => Stb.cl (by assumption) hw | exact fun w hw => rd_own hw (by first | assumption | (repeat first | exact .head _ | apply List.Mem.tail)) | assumption) (by simp only [List.length_set, List.length_append, List.length_cons, List.length_nil, List.length_replicate, List.length_take, List.length_drop, List.length_map]; omega) rfl) (fun s61 => ?_) | refine sw_x rfl rfl rfl (e_append (i := 1) rfl (.cons rfl inferInstance (.cons rfl inferInstance (.nil))) rfl rfl (by first | exact fun w hw => Stb.cl (by assumption) hw | exact fun w hw => rd_own hw (by first | assumption | (repeat first | exact .head _ | apply List.Mem.tail)) | assumption) (by simp only [List.length_set, List.length_append, List.length_cons, List.length_nil, List.length_replicate, List.length_take, List.length_drop, List.length_map]; omega) rfl) (fun s61 => ?_) | refine sw_x rfl rfl rfl (e_append (i := 2) rfl (.cons rfl inferInstance (.cons rfl inferInstance (.nil))) rfl rfl (by first | exact fun w hw => Stb.cl (by assumption) hw | exact fun w hw => rd_own hw (by first | assumption | (repeat first | exact .head _ | apply List.Mem.tail)) | assumption) (by simp only [List.length_set, List.length_append, List.length_cons, List.length_nil, List.length_replicate, List.length_take, List.length_drop, List.length_map]; omega) rfl) (fun s61 => ?_) | refine sw_x rfl rfl rfl (e_append (i := 3) rfl (.cons rfl inferInstance (.cons rfl inferInstance (.nil))) rfl rfl (by first | exact fun w hw => Stb.cl (by assumption) hw | exact fun w hw => rd_own hw (by first | assumption | (repeat first | exact .head _ | apply List.Mem.tail)) | assumption) (by simp only [List.length_set, List.length_append, List.length_cons, List.length_nil, List.length_replicate, List.length_take, List.length_drop, List.length_map]; omega) rfl) (fun s61 => ?_) | refine sw_x rfl rfl rfl (e_append (i := 4) rfl (.cons rfl inferInstance (.cons rfl inferInstance (.nil))) rfl rfl (by first | exact fun w hw => Stb.cl (by assumption) hw | exact fun w hw => rd_own hw (by first | assumption | (repeat first | exact .head _ | apply List.Mem.tail)) | assumption) (by simp only [List.length_set, List.length_append, List.length_cons, List.length_nil, List.length_replicate, List.length_take, List.length_drop, List.length_map]; omega) rfl) (fun s61 => ?_) | refine sw_x rfl rfl rfl (e_append (i := 5) rfl (.cons rfl inferInstance (.cons rfl inferInstance (.nil))) rfl rfl (by first | exact fun w hw => Stb.cl (by assumption) hw | exact fun w hw => rd_own hw (by first | assumption | (repeat first | exact .head _ | apply List.Mem.tail)) | assumption) (by simp only [List.length_set, List.length_append, List.length_cons, List.length_nil, List.length_replicate, List.length_take, List.length_drop, List.length_map]; omega) rfl) (fun s61 => ?_) | refine sw_x rfl rfl rfl (e_append (i := 6) rfl (.cons rfl inferInstance (.cons rfl inferInstance (.nil))) rfl rfl (by first | exact fun w hw => Stb.cl (by assumption) hw | exact fun w hw => rd_own hw (by first | assumption | (repeat first | exact .head _ | apply List.Mem.tail)) | assumption) (by simp only [List.length_set, List.length_append, List.length_cons, List.length_nil, List.length_replicate, List.length_take, List.length_drop, List.length_map]; omega) rfl) (fun s61 => ?_) | refine sw_x rfl rfl rfl (e_append (i := 7) rfl (.cons rfl inferInstance (.cons rfl inferInstance (.nil))) rfl rfl (by first | exact fun w hw => Stb.cl (by assumption) hw | exact fun w hw => rd_own hw (by first | assumption | (repeat first | exact .head _ | apply List.Mem.tail)) | assumption) (by simp only [List.length_set, List.length_append, List.length_cons, List.length_nil, List.length_replicate, List.length_take, List.length_drop, List.length_map]; omega) rfl) (fun s61 => ?_) | refine sw_x rfl rfl rfl (e_append (i := 8) rfl (.cons rfl inferInstance (.cons rfl inferInstance (.nil))) rfl rfl (by first | exact fun w hw => Stb.cl (by assumption) hw | exact fun w hw => rd_own hw (by first | assumption | (repeat first | exact .head _ | apply List.Mem.tail)) | assumption) (by simp only [List.length_set, List.length_append, List.length_cons, List.length_nil, List.length_replicate, List.length_take, List.length_drop, List.length_map]; omega) rfl) (fun s61 => ?_) | refine sw_x rfl rfl rfl (e_append (i := 9) rfl (.cons rfl inferInstance (.cons rfl inferInstance (.nil))) rfl rfl (by first | exact fun w hw => Stb.cl (by assumption) hw | exact fun w hw => rd_own hw (by first | assumption | (repeat first | exact .head _ | apply List.Mem.tail)) | assumption) (by simp only [List.length_set, List.length_append, List.length_cons, List.length_nil, List.length_replicate, List.length_take, List.length_drop, List.length_map]; omega) rfl) (fun s61 => ?_) | refine sw_x rfl rfl rfl (e_append (i := 10) rfl (.cons rfl inferInstance (.cons rfl inferInstance (.nil))) rfl rfl (by first | exact fun w hw => Stb.cl (by assumption) hw | exact fun w hw => rd_own hw (by first | assumption | (repeat first | exact .head _ | apply List.Mem.tail)) | assumption) (by simp only [List.length_set, List.length_append, List.length_cons, List.length_nil, List.length_replicate, List.length_take, List.length_drop, List.length_map]; omega) rfl) (fun s61 => ?_) | refine sw_x rfl rfl rfl (e_append (i := 11) rfl (.cons rfl inferInstance (.cons rfl inferInstance (.nil))) rfl rfl (by first | exact fun w hw => Stb.cl (by assumption) hw | exact fun w hw => rd_own hw (by first | assumption | (repeat first | exact .head _ | apply List.Mem.tail)) | assumption) (by simp only [List.length_set, List.length_append, List.length_cons, List.length_nil, List.length_replicate, List.length_take, List.length_drop, List.length_map]; omega) rfl) (fun s61 => ?_) | refine sw_x rfl rfl rfl (e_append (i := 12) rfl (.cons rfl inferInstance (.cons rfl inferInstance (.nil))) rfl rfl (by first | exact fun w hw => Stb.cl (by assumption) hw | exact fun w hw => rd_own hw (by first | assumption | (repeat first | exact .head _ | apply List.Mem.tail)) | assumption) (by simp only [List.length_set, List.length_append, List.length_cons, List.length_nil, List.length_replicate, List.length_take, List.length_drop, List.length_map]; omega) rfl) (fun s61 => ?_) | refine sw_x rfl rfl rfl (e_append (i := 13) rfl (.cons rfl inferInstance (.cons rfl inferInstance (.nil))) rfl rfl (by first | exact fun w hw => Stb.cl (by assumption) hw | exact fun w hw => rd_own hw (by first | assumption | (repeat first | exact .head _ | apply List.Mem.tail)) | assumption) (by simp only [List.length_set, List.length_append, List.length_cons, List.length_nil, List.length_replicate, List.length_take, List.length_drop, List.length_map]; omega) rfl) (fun s61 => ?_) | refine sw_x rfl rfl rfl (e_append (i := 14) rfl (.cons rfl inferInstance (.cons rfl inferInstance (.nil))) rfl rfl (by first | exact fun w hw => Stb.cl (by assumption) hw | exact fun w hw => rd_own hw (by first | assumption | (repeat first | exact .head _ | apply List.Mem.tail)) | assumption) (by simp only [List.length_set, List.length_append, List.length_cons, List.length_nil, List.length_replicate, List.length_take, List.length_drop, List.length_map]; omega) rfl) (fun s61 => ?_) | refine sw_x rfl rfl rfl (e_append (i := 15) rfl (.cons rfl inferInstance (.cons rfl inferInstance (.nil))) rfl rfl (by first | exact fun w hw => Stb.cl (by assumption) hw | exact fun w hw => rd_own hw (by first | assumption | (repeat first | exact .head _ | apply List.Mem.tail)) | assumption) (by simp only [List.length_set, List.length_append, List.length_cons, List.length_nil, List.length_replicate, List.length_take, List.length_drop, List.length_map]; omega) rfl) (fun s61 => ?_)
          refine sw_step rfl rfl rfl (OpR.q (q_assign rfl rfl)) ?_
          refine sw_nil ?_
          refine post_blk ?_
          refine post_then ?_
          -- region 21
          refine cw_region ?_
          refine sw_step rfl rfl rfl (OpR.q (q_add rfl rfl rfl (by intro hc; first | omega | (simp only [List.length_set, List.length_append, List.length_cons, List.length_nil, List.length_replicate, List.length_take, List.length_drop, List.length_map]; omega) | (simp only [AllT.iff, List.all_cons, List.all_nil, id, Bool.and_eq_true, Bool.not_eq_true', decide_eq_true_eq, decide_eq_false_iff_not, and_true] at hc; first | omega | (simp only [List.length_set, List.length_append, List.length_cons, List.length_nil, List.length_replicate, List.length_take, List.length_drop, List.length_map]; omega)) | (exfalso; simp_all [AllT]; done)))) ?_
          refine sw_step rfl rfl rfl (OpR.q (q_move rfl rfl)) ?_
          refine sw_nil ?_
          refine post_next (r + 1, s61, rs ++ [(s9, sqRow n r)]) (by (repeat first | exact Le.nil | refine Le.cons rfl ?_ | refine Le.cons' rfl (by congr 1; first | omega | (simp only; omega)) ?_)) (fun w3 hw3 => ?_) ⟨by simp only; omega, by simp [hrs, List.range_succ]⟩ (by simp only; omega)
          simp only [List.map_append, List.map_cons, List.map_nil, rowsA_snoc]
          exact hw3.tail.perm perm_rot
      · skip
        have hr' : r = n := by simp at h5; omega
        subst hr'
        refine cw_exit ?_
        refine post_then_x ?_
        refine post_then_x ?_
        refine post_blk_eq ?_
        refine post_then ?_
        refine cw_seq ?_
        refine cw_seq ?_
        -- region 22
        refine cw_region ?_
        refine sw_step rfl rfl rfl (OpR.q (q_move rfl rfl)) ?_
        refine sw_step rfl rfl rfl (OpR.q (q_rem rfl rfl rfl (by intro hc; first | omega | (simp only [List.length_set, List.length_append, List.length_cons, List.length_nil, List.length_replicate, List.length_take, List.length_drop, List.length_map]; omega) | (simp only [AllT.iff, List.all_cons, List.all_nil, id, Bool.and_eq_true, Bool.not_eq_true', decide_eq_true_eq, decide_eq_false_iff_not, and_true] at hc; first | omega | (simp only [List.length_set, List.length_append, List.length_cons, List.length_nil, List.length_replicate, List.length_take, List.length_drop, List.length_map]; omega)) | (exfalso; simp_all [AllT]; done)))) ?_
        refine sw_step rfl rfl rfl (OpR.q (q_eql rfl rfl rfl)) ?_
        refine sw_nil ?_
        refine post_then ?_
        -- STOP at: cond
        have hlz : ∀ q ∈ rs, q.2.length ≤ 61 := fun q hq => by
          have : q.2 ∈ rs.map (·.2) := List.mem_map_of_mem hq
          rw [hrs] at this
          simp only [List.mem_map, List.mem_range] at this
          obtain ⟨a, _, ha⟩ := this
          rw [← ha, sqRow_len]; exact z1'
        refine cw_cond rfl (fun h6 => ?_) (fun h6 => ?_)
        · skip
          have hodd : r % 2 = 1 := by simp only [decide_eq_true_eq] at h6; omega
          refine cw_seq ?_
          -- region 23
          refine cw_region ?_
          refine sw_step rfl rfl rfl (OpR.q (q_move rfl rfl)) ?_
          refine sw_step rfl rfl rfl (OpR.q (q_move rfl rfl)) ?_
          refine sw_step rfl rfl rfl (OpR.q (q_move rfl rfl)) ?_
          -- STOP at: t69  := slice 65 t66 none (some t67) (some t68 :65
          refine sw_step rfl rfl rfl (OpR.q (q_sliceF (l := rs.map (·.1)) rfl rfl rfl rfl (fun w hw => rd_own hw (.head _)) (fun _ => by simp [hrl]))) ?_
          first | refine sw_step rfl rfl rfl (OpR.q (q_len rfl (.cons rfl inferInstance (.nil)) (by first | exact fun w hw => Stb.cl (by assumption) hw | exact fun w hw => rd_own hw (by first | assumption | (repeat first | exact .head _ | apply List.Mem.tail)) | assumption))) ?_ | refine sw_step rfl rfl rfl (OpR.q (q_lenV rfl (.cons rfl inferInstance (.nil)))) ?_
          refine sw_step rfl rfl rfl (OpR.q (q_move rfl rfl)) ?_
          refine sw_nil ?_
          refine post_then ?_
          refine cw_block ?_
          -- STOP at: loop
          refine cw_loop (S := Nat × SlV × List (SlV × List Int)) (fun y => [(0, [], .int .i64 r), (3, [], .int .i64 0), (7, [], y.2.1.v), (69, [], (s7.cut (rs.map (·.1)).length).v), (70, [], .int .i64 ((rs.map (·.1)).length : Nat)), (71, [], .int .i64 y.1)])
            (fun y => Cl w [] (keepA 37 y.2.1 ((rs ++ y.2.2).map (·.1)) s7 (rs.map (·.1)) :: rowsA (rs ++ y.2.2))) (fun y => y.1 ≤ r ∧ y.2.2.map (·.2) = ((squareE r).take y.1).map List.reverse) (fun y => r - y.1) (0, s7, []) ⟨Nat.zero_le _, by simp⟩ (by (repeat first | exact Le.nil | refine Le.cons rfl ?_ | refine Le.cons' rfl (by congr 1; first | omega | (simp only; omega)) ?_)) (fun w2 h2 => ?_) ?_
          · have h3 : Cl w [] (ownL 37 s7.v (rs.map (·.1)) :: rowsA rs) w2 := (h2.perm (.swap _ _ _)).tail
            rw [show rs ++ [] = rs by simp]
            exact keep_start (rd_lens (rd_own h3 (.head _))).1 h3
          rintro ⟨c, s8, rs2⟩ ⟨hc, hrs2⟩
          dsimp only at hc hrs2 ⊢
          have hrl2 : rs2.length = c := by
            have := congrArg List.length hrs2
            simpa [squareE, hc] using this
          have hal : ∀ w', Cl w [] (keepA 37 s8 ((rs ++ rs2).map (·.1)) s7 (rs.map (·.1)) :: rowsA (rs ++ rs2)) w' → RdL (s7.cut (rs.map (·.1)).length).v (rs.map (·.1)) w' := fun w' h => rd_cut (keep_rd0 h (.head _))
          refine cw_seq ?_
          -- region 24
          refine cw_region ?_
          refine sw_step rfl rfl rfl (OpR.q (q_lss rfl rfl rfl)) ?_
          refine sw_nil ?_
          refine post_then ?_
          refine cw_seq ?_
          -- STOP at: cond
          refine cw_cond rfl (fun h7 => ?_) (fun h7 => ?_)
          · skip
            have hc' : c < r := by simp only [decide_eq_true_eq, List.length_map] at h7; omega
            have hin : nth rs c ∈ rs := by rw [nth_get (by omega)]; exact List.getElem_mem _
            have hmem : ownL 3 (nth (rs.map fun q : SlV × List Int => q.1) c).v (nth rs c).2 ∈ rowsA (rs ++ rs2) := by
              have : nth (rs.map fun q : SlV × List Int => q.1) c = (nth rs c).1 := by rw [nth_get (by simp; omega), nth_get (by omega)]; simp
              rw [this]
              exact List.mem_map_of_mem (f := fun (r : SlV × List Int) => ownL 3 r.1.v r.2) (List.mem_append_left _ hin)
            have hl61 := hlz _ hin
            have hrow : (nth rs c).2 = nth (squareE r) c := by
              have : nth (rs.map fun q : SlV × List Int => q.2) c = (nth rs c).2 := by rw [nth_get (by simp; omega), nth_get (by omega)]; simp
              rw [← this, hrs]; rfl
            refine cw_skip ?_
            refine post_then ?_
            refine cw_seq ?_
            refine cw_block ?_
            refine cw_seq ?_
            -- region 25
            refine cw_region ?_
            first | refine sw_step rfl rfl rfl (OpR.q (q_indexN rfl rfl rfl (by first | exact fun w hw => Stb.cl (by assumption) hw | exact fun w hw => rd_own hw (by first | assumption | (repeat first | exact .head _ | apply List.Mem.tail)) | assumption) (by intro hc; first | omega | (simp only [List.length_set, List.length_append, List.length_cons, List.length_nil, List.length_replicate, List.length_take, List.length_drop, List.length_map]; omega) | (simp only [AllT.iff, List.all_cons, List.all_nil, id, Bool.and_eq_true, Bool.not_eq_true', decide_eq_true_eq, decide_eq_false_iff_not, and_true] at hc; first | omega | (simp only [List.length_set, List.length_append, List.length_cons, List.length_nil, List.length_replicate, List.length_take, List.length_drop, List.length_map]; omega)) | (exfalso; simp_all [AllT]; done)))) ?_ | refine sw_step rfl rfl rfl (OpR.q (q_index rfl rfl rfl (by first | exact fun w hw => Stb.cl (by assumption) hw | exact fun w hw => rd_own hw (by first | assumption | (repeat first | exact .head _ | apply List.Mem.tail)) | assumption) (by intro hc; first | omega | (simp only [List.length_set, List.length_append, List.length_cons, List.length_nil, List.length_replicate, List.length_take, List.length_drop, List.length_map]; omega) | (simp only [AllT.iff, List.all_cons, List.all_nil, id, Bool.and_eq_true, Bool.not_eq_true', decide_eq_true_eq, decide_eq_false_iff_not, and_true] at hc; first | omega | (simp only [List.length_set, List.length_append, List.length_cons, List.length_nil, List.length_replicate, List.length_take, List.length_drop, List.length_map]; omega)) | (exfalso; simp_all [AllT]; done)))) ?_
            first | refine sw_step rfl rfl rfl (OpR.q (q_loadC rfl rfl (by first | assumption | (repeat first | exact .head _ | apply List.Mem.tail)) rfl)) ?_ | refine sw_step rfl rfl rfl (OpR.q (q_loadA rfl rfl (by first | assumption | (repeat first | exact .head _ | apply List.Mem.tail)) rfl)) ?_ | refine sw_step rfl rfl rfl (OpR.q (q_loadEl rfl rfl rfl (by first | exact fun w hw => Stb.cl (by assumption) hw | exact fun w hw => rd_own hw (by first | assumption | (repeat first | exact .head _ | apply List.Mem.tail)) | assumption) (by intro hc; first | omega | (simp only [List.length_set, List.length_append, List.length_cons, List.length_nil, List.length_replicate, List.length_take, List.length_drop, List.length_map]; omega) | (simp only [AllT.iff, List.all_cons, List.all_nil, id, Bool.and_eq_true, Bool.not_eq_true', decide_eq_true_eq, decide_eq_false_iff_not, and_true] at hc; first | omega | (simp only [List.length_set, List.length_append, List.length_cons, List.length_nil, List.length_replicate, List.length_take, List.length_drop, List.length_map]; omega)) | (exfalso; simp_all [AllT]; done)))) ?_ | refine sw_step rfl rfl rfl (OpR.q (q_loadF rfl rfl rfl (by first | exact fun w hw => Stb.cl (by assumption) hw | exact fun w hw => rd_own hw (by first | assumption | (repeat first | exact .head _ | apply List.Mem.tail)) | assumption) (by intro hc; first | omega | (simp only [List.length_set, List.length_append, List.length_cons, List.length_nil, List.length_replicate, List.length_take, List.length_drop, List.length_map]; omega) | (simp only [AllT.iff, List.all_cons, List.all_nil, id, Bool.and_eq_true, Bool.not_eq_true', decide_eq_true_eq, decide_eq_false_iff_not, and_true] at hc; first | omega | (simp only [List.length_set, List.length_append, List.length_cons, List.length_nil, List.length_replicate, List.length_take, List.length_drop, List.length_map]; omega)) | (exfalso; simp_all [AllT]; done)) rfl)) ?_ | refine sw_step rfl rfl rfl (OpR.q (q_loadS rfl rfl (fun w hw => Stb.cl (by assumption) hw) rfl)) ?_
            refine sw_step rfl rfl rfl (OpR.q (q_assign rfl rfl)) ?_
            refine sw_nil ?_
            refine post_then ?_
            refine cw_seq ?_
            -- region 26
            refine cw_region ?_
            refine sw_step rfl rfl rfl (OpR.q (q_move rfl rfl)) ?_
            -- STOP at: t76  := call {callee=(value F71), args=[t75], argTypes=[37]} :37
            refine sw_x rfl rfl rfl (e_call (CanCall.mk Try.call71) rfl (.cons rfl inferInstance (.nil)) (fun w hw => clone_spec (nth (rs.map fun q : SlV × List Int => q.1) c) (nth rs c).2 w (stb_own hw (.tail _ hmem)) (by omega))) (fun s76 => ?_)
            refine sw_imp fun _ => ?_
            refine sw_step rfl rfl rfl (OpR.q (q_assign rfl rfl)) ?_
            refine sw_nil ?_
            refine post_then ?_
            refine cw_seq ?_
            -- region 27
            refine cw_region ?_
            refine sw_step rfl rfl rfl (OpR.q (q_move rfl rfl)) ?_
            -- STOP at: t78  := call {callee=(value F72), args=[t77], argTypes=[37]} :0
            refine sw_x rfl rfl rfl (e_callH (A := [ownL 3 s76.v (nth rs c).2]) (F := keepA 37 s8 ((rs ++ rs2).map (·.1)) s7 (rs.map (·.1)) :: rowsA (rs ++ rs2)) (CanCall.mk Try.call72) rfl rfl (.cons rfl inferInstance (.nil)) (.refl _) (fun w bs h1 h2 h3 _ _ => reverse_spec s76 (nth rs c).2 (by omega) w bs h1 h2 h3)) (fun u78 => ?_)
            refine sw_imp fun _ => ?_
            refine sw_nil ?_
            refine post_then ?_
            -- region 28
            refine cw_region ?_
            refine sw_step rfl rfl rfl (OpR.q (q_move rfl rfl)) ?_
            refine sw_step rfl rfl rfl (OpR.q (q_move rfl rfl)) ?_
            refine sw_x rfl rfl rfl (e_build1 (α := SlV) rfl rfl rfl rfl) (fun s81 => ?_)
            -- STOP at: t82  := call {callee=(builtin append), args=[t79, t81], argTypes=[65, 65]} :65
            refine sw_x rfl rfl rfl (e_appendK (i := 2) rfl (.cons rfl inferInstance (.cons rfl inferInstance (.nil))) rfl rfl (by exact fun w hw => rd_own hw (by exact .head _)) (by simp only [List.length_append, List.length_map, List.length_cons, List.length_nil]; omega) rfl) (fun s82 => ?_)
            refine sw_step rfl rfl rfl (OpR.q (q_assign rfl rfl)) ?_
            refine sw_nil ?_
            refine post_blk ?_
            refine post_then ?_
            -- region 29
            refine cw_region ?_
            refine sw_step rfl rfl rfl (OpR.q (q_add rfl rfl rfl (by intro hc; first | omega | (simp only [List.length_set, List.length_append, List.length_cons, List.length_nil, List.length_replicate, List.length_take, List.length_drop, List.length_map]; omega) | (simp only [AllT.iff, List.all_cons, List.all_nil, id, Bool.and_eq_true, Bool.not_eq_true', decide_eq_true_eq, decide_eq_false_iff_not, and_true] at hc; first | omega | (simp only [List.length_set, List.length_append, List.length_cons, List.length_nil, List.length_replicate, List.length_take, List.length_drop, List.length_map]; omega)) | (exfalso; simp_all [AllT]; done)))) ?_
            refine sw_step rfl rfl rfl (OpR.q (q_move rfl rfl)) ?_
            refine sw_nil ?_
            refine post_next (c + 1, s82, rs2 ++ [(s76, (nth rs c).2.reverse)]) (by (repeat first | exact Le.nil | refine Le.cons rfl ?_ | refine Le.cons' rfl (by congr 1; first | omega | (simp only; omega)) ?_)) (fun w3 hw3 => ?_) ⟨by simp only; omega, ?_⟩ (by simp only; omega)
            · have h3 := hw3.tail
              simp only [← List.append_assoc, rowsA_snoc]
              rw [show (rs ++ rs2 ++ [(s76, (nth rs c).2.reverse)]).map (·.1) = (rs ++ rs2).map (·.1) ++ [s76] by simp]
              exact h3.perm perm_rot2
            · dsimp only
              rw [List.map_append, hrs2, List.take_add_one, List.getElem?_eq_getElem (by simp [squareE]; omega), List.map_append, hrow, nth_get (by simp [squareE]; omega)]
              simp
          · skip
            have hc' : c = r := by simp only [decide_eq_false_iff_not, List.length_map] at h7; omega
            subst hc'
            refine cw_exit ?_
            refine post_then_x ?_
            refine post_then_x ?_
            refine post_blk_eq ?_
            refine post_then ?_
            refine cw_seq ?_
            -- region 30
            refine cw_region ?_
            refine sw_step rfl rfl rfl (OpR.q (q_move rfl rfl)) ?_
            refine sw_step rfl rfl rfl (OpR.q (q_assign rfl rfl)) ?_
            refine sw_step rfl rfl rfl (OpR.q (q_assign rfl rfl)) ?_
            refine sw_nil ?_
            refine post_then ?_
            refine cw_ret ?_
            refine post_ret2 rfl (resOk_tmp rfl) (resOk_tmp rfl) ?_
            refine fun w' hw => ⟨(s8, rs ++ rs2), rfl, ?_, keep_end hw⟩
            rw [List.map_append, hrs, hrs2, List.take_of_length_le (by simp [squareE])]
            simp only [squareR, if_pos hodd, squareE]
        · skip
          have hev : ¬ r % 2 = 1 := by simp only [decide_eq_false_iff_not] at h6; omega
          refine cw_skip ?_
          refine post_then ?_
          refine cw_seq ?_
          -- region 30
          refine cw_region ?_
          refine sw_step rfl rfl rfl (OpR.q (q_move rfl rfl)) ?_
          refine sw_step rfl rfl rfl (OpR.q (q_assign rfl rfl)) ?_
          refine sw_step rfl rfl rfl (OpR.q (q_assign rfl rfl)) ?_
          refine sw_nil ?_
          refine post_then ?_
          refine cw_ret ?_
          refine post_ret2 rfl (resOk_tmp rfl) (resOk_tmp rfl) ?_
          refine fun w' hw => ⟨(s7, rs), rfl, ?_, ?_⟩
          · rw [hrs]; simp only [squareR, if_neg hev, squareE, List.append_nil]
          · exact (hw.perm (.swap _ _ _)).tail
end Go.Proofs.Ytekikelejncgeaa
