import Derived.Test.YtekikelejncgeaaL
set_option autoImplicit false
set_option linter.unusedSimpArgs false
set_option linter.unusedVariables false
set_option maxRecDepth 100000
namespace Go.Proofs.Ytekikelejncgeaa
open Go.Sx
open Enc (enc val)

/-! ### squares -/
def rowsA (rs : List (SlV × List Int)) : List Asn := rs.map fun r => ownL 3 r.1.v r.2
theorem rowsA_snoc (rs : List (SlV × List Int)) (s : SlV) (c : List Int) : rowsA (rs ++ [(s, c)]) = rowsA rs ++ [ownL 3 s.v c] := by simp [rowsA]
def zigTo (n : Int) : Nat → List Int
  | 0 => [0]
  | k + 1 => zigTo n k ++ (if (k : Int) + 1 < n - 1 - k then [(k : Int) + 1, n - 1 - k] else [(k : Int) + 1])
theorem zigTo_bd (n : Nat) : ∀ k, 2 * k ≤ n + 1 → (zigTo n k).length ≤ 2 * k + 1 ∧ ∀ v ∈ zigTo n k, 0 ≤ v ∧ v ≤ n
  | 0, _ => ⟨by simp [zigTo], fun v hv => by simp [zigTo] at hv; omega⟩
  | k + 1, h => by
    obtain ⟨h1, h2⟩ := zigTo_bd n k (by omega)
    refine ⟨?_, fun v hv => ?_⟩
    · simp only [zigTo, List.length_append]
      split <;> simp <;> omega
    · simp only [zigTo, List.mem_append] at hv
      rcases hv with hv | hv
      · exact h2 v hv
      · split at hv <;> simp at hv <;> omega
def zig (n : Nat) : List Int := zigTo n (n / 2)
def sqRow (n : Nat) (r : Nat) : List Int := (zig n).map fun v => (v + r) % n
def squareE (n : Nat) : List (List Int) := (List.range n).map (sqRow n)

theorem perm_rot {A B D : Asn} {T : List Asn} : (A :: B :: D :: T).Perm (B :: D :: (T ++ [A])) := by
  refine (List.Perm.swap B A _).trans (.cons _ ((List.Perm.swap D A _).trans (.cons _ ?_)))
  exact (List.perm_append_singleton A T).symm
theorem sqRow_len (n r : Nat) : (sqRow n r).length = (zig n).length := by simp [sqRow]
theorem sqRow_succ (n r i : Nat) (h : i < (zig n).length) : (sqRow n r).take (i + 1) = (sqRow n r).take i ++ [(nth (zig n) i + r) % n] := by
  rw [List.take_add_one, List.getElem?_eq_getElem (by rw [sqRow_len]; exact h)]
  simp [sqRow, nth_get h]
theorem squareEven_spec (n : Nat) (hn : 1 ≤ n ∧ n ≤ 60) (hev : n % 2 = 0) (w : World) :
    Calls Try.prog 39 #[.int .i64 n] w fun e w' => ∃ y : SlV × List (SlV × List Int), e = .returned (.tuple #[y.1.v, .int .i64 0]) ∧ y.2.map (·.2) = squareE n ∧ Cl w [] (ownL 37 y.1.v (y.2.map (·.1)) :: rowsA y.2) w' := by
  refine calls_cw (vs := [_]) Try.func39 rfl Try.ntmps39 rfl (Cl.start0 w) ?_
  refine cw_seq ?_
  -- region 0
  refine cw_region ?_
  refine sw_step rfl rfl rfl (OpR.q (q_assign rfl rfl)) ?_
  refine sw_step rfl rfl rfl (OpR.q (q_assign rfl rfl)) ?_
  refine sw_nil ?_
  refine post_then ?_
  refine cw_seq ?_
  refine cw_seq ?_
  -- region 1
  refine cw_region ?_
  refine sw_step rfl rfl rfl (OpR.q (q_move rfl rfl)) ?_
  refine sw_step rfl rfl rfl (q_call (CanCall.mk Try.call52) rfl (.cons rfl inferInstance (.cons rfl inferInstance (.cons rfl inferInstance (.nil)))) (fun _ w hw => callq hw (within_spec _ _ _ w))) ?_
  refine sw_step rfl rfl rfl (OpR.q (q_not rfl rfl)) ?_
  refine sw_nil ?_
  refine post_then ?_
  -- STOP at: cond
  refine cw_cond rfl (fun h => ?_) (fun h => ?_)
  · skip
    simp [inB] at h; omega
  · skip
    refine cw_skip ?_
    refine post_then ?_
    refine cw_seq ?_
    -- region 3
    refine cw_region ?_
    refine sw_x rfl rfl rfl (e_build1 (α := Int) rfl rfl rfl rfl) (fun s18 => ?_)
    refine sw_step rfl rfl rfl (OpR.q (q_assign rfl rfl)) ?_
    refine sw_nil ?_
    refine post_then ?_
    refine cw_seq ?_
    refine cw_seq ?_
    -- region 4
    refine cw_region ?_
    refine sw_step rfl rfl rfl (OpR.q (q_move rfl rfl)) ?_
    refine sw_step rfl rfl rfl (OpR.q (q_sub rfl rfl rfl (by intro hc; omega))) ?_
    refine sw_step rfl rfl rfl (OpR.q (q_assign rfl rfl)) ?_
    refine sw_step rfl rfl rfl (OpR.q (q_assign rfl rfl)) ?_
    refine sw_nil ?_
    refine post_then ?_
    refine cw_block ?_
    -- STOP at: loop
    refine cw_loop (S := Nat × SlV) (fun y => [(0, [], .int .i64 n), (3, [], .int .i64 0), (4, [], y.2.v), (5, [], .int .i64 ((y.1 : Int) + 1)), (6, [], .int .i64 ((n : Int) - 1 - y.1))]) (fun y => Cl w [] [ownL 3 y.2.v (zigTo n y.1)]) (fun y => y.1 ≤ n / 2) (fun y => n / 2 - y.1) (0, s18) (by simp) (Le.cons rfl (Le.cons rfl (Le.cons rfl (Le.cons' rfl (by simp) (Le.cons' rfl (by simp) Le.nil))))) (fun _ h => h) ?_
    rintro ⟨k, s⟩ hk
    dsimp only at hk ⊢
    obtain ⟨z1, z2⟩ := zigTo_bd n k (by omega)
    refine cw_seq ?_
    refine cw_seq ?_
    -- region 5
    refine cw_region ?_
    refine sw_step rfl rfl rfl (OpR.q (q_move rfl rfl)) ?_
    refine sw_step rfl rfl rfl (OpR.q (q_move rfl rfl)) ?_
    refine sw_step rfl rfl rfl (OpR.q (q_leq rfl rfl rfl)) ?_
    refine sw_nil ?_
    refine post_then ?_
    -- STOP at: cond
    refine cw_cond rfl (fun h2 => ?_) (fun h2 => ?_)
    · skip
      have h3 : k < n / 2 := by simp at h2; omega
      refine cw_skip ?_
      refine post_then ?_
      refine cw_seq ?_
      refine cw_block ?_
      refine cw_seq ?_
      -- region 7
      refine cw_region ?_
      refine sw_step rfl rfl rfl (OpR.q (q_move rfl rfl)) ?_
      refine sw_step rfl rfl rfl (OpR.q (q_move rfl rfl)) ?_
      refine sw_x rfl rfl rfl (e_build1 (α := Int) rfl rfl rfl rfl) (fun s30 => ?_)
      refine sw_x rfl rfl rfl (e_append (i := 1) rfl (.cons rfl inferInstance (.cons rfl inferInstance (.nil))) rfl rfl (by exact fun w hw => rd_own hw (by exact .head _)) (by simp only [List.length_set, List.length_append, List.length_cons, List.length_nil, List.length_replicate, List.length_take, List.length_drop, List.length_map]; omega) rfl) (fun s31 => ?_)
      refine sw_step rfl rfl rfl (OpR.q (q_assign rfl rfl)) ?_
      refine sw_nil ?_
      refine post_then ?_
      refine cw_seq ?_
      -- region 8
      refine cw_region ?_
      refine sw_step rfl rfl rfl (OpR.q (q_move rfl rfl)) ?_
      refine sw_step rfl rfl rfl (OpR.q (q_move rfl rfl)) ?_
      refine sw_step rfl rfl rfl (OpR.q (q_lss rfl rfl rfl)) ?_
      refine sw_nil ?_
      refine post_then ?_
      -- STOP at: cond
      refine cw_cond rfl (fun h4 => ?_) (fun h4 => ?_)
      · skip
        have h5 : (k : Int) + 1 < n - 1 - k := by simpa using h4
        -- region 9
        refine cw_region ?_
        refine sw_step rfl rfl rfl (OpR.q (q_move rfl rfl)) ?_
        refine sw_step rfl rfl rfl (OpR.q (q_move rfl rfl)) ?_
        refine sw_x rfl rfl rfl (e_build1 (α := Int) rfl rfl rfl rfl) (fun s37 => ?_)
        refine sw_x rfl rfl rfl (e_append (i := 2) rfl (.cons rfl inferInstance (.cons rfl inferInstance (.nil))) rfl rfl (by exact fun w hw => rd_own hw (by exact .head _)) (by simp only [List.length_set, List.length_append, List.length_cons, List.length_nil, List.length_replicate, List.length_take, List.length_drop, List.length_map]; omega) rfl) (fun s38 => ?_)
        refine sw_step rfl rfl rfl (OpR.q (q_assign rfl rfl)) ?_
        refine sw_nil ?_
        refine post_blk ?_
        refine post_then ?_
        -- region 6
        refine cw_region ?_
        refine sw_step rfl rfl rfl (OpR.q (q_move rfl rfl)) ?_
        refine sw_step rfl rfl rfl (OpR.q (q_add rfl rfl rfl (by intro hc; omega))) ?_
        refine sw_step rfl rfl rfl (OpR.q (q_move rfl rfl)) ?_
        refine sw_step rfl rfl rfl (OpR.q (q_sub rfl rfl rfl (by intro hc; omega))) ?_
        refine sw_step rfl rfl rfl (OpR.q (q_assign rfl rfl)) ?_
        refine sw_step rfl rfl rfl (OpR.q (q_assign rfl rfl)) ?_
        refine sw_nil ?_
        refine post_next (k + 1, s38) (by exact .cons rfl (.cons rfl (.cons rfl (.cons rfl (.cons' rfl (by congr 1; first | omega | (simp only; omega)) .nil))))) (fun w3 hw3 => ?_) (by simp only; omega) (by simp only; omega)
        simp only [zigTo, if_pos h5]
        have e : zigTo n k ++ [(k : Int) + 1, n - 1 - k] = zigTo n k ++ [(k : Int) + 1] ++ [(n : Int) - 1 - k] := by simp
        rw [e]
        exact (fun w h => Cl.sel (by exact .take 2 rfl (.nil _)) w h) _ hw3
      · skip
        have h5 : ¬ (k : Int) + 1 < n - 1 - k := by simpa using h4
        refine cw_skip ?_
        refine post_blk ?_
        refine post_then ?_
        -- region 6
        refine cw_region ?_
        refine sw_step rfl rfl rfl (OpR.q (q_move rfl rfl)) ?_
        refine sw_step rfl rfl rfl (OpR.q (q_add rfl rfl rfl (by intro hc; omega))) ?_
        refine sw_step rfl rfl rfl (OpR.q (q_move rfl rfl)) ?_
        refine sw_step rfl rfl rfl (OpR.q (q_sub rfl rfl rfl (by intro hc; omega))) ?_
        refine sw_step rfl rfl rfl (OpR.q (q_assign rfl rfl)) ?_
        refine sw_step rfl rfl rfl (OpR.q (q_assign rfl rfl)) ?_
        refine sw_nil ?_
        refine post_next (k + 1, s31) (by exact .cons rfl (.cons rfl (.cons rfl (.cons rfl (.cons' rfl (by congr 1; first | omega | (simp only; omega)) .nil))))) (fun w3 hw3 => ?_) (by simp only; omega) (by simp only; omega)
        simp only [zigTo, if_neg h5]
        exact (fun w h => Cl.sel (by exact .take 1 rfl (.nil _)) w h) _ hw3
    · skip
      have h3 : k = n / 2 := by simp at h2; omega
      subst h3
      refine cw_exit ?_
      refine post_then_x ?_
      refine post_then_x ?_
      refine post_blk_eq ?_
      refine post_then ?_
      refine cw_seq ?_
      -- region 10
      refine cw_region ?_
      refine sw_step rfl rfl rfl (OpR.q (q_assign rfl rfl)) ?_
      refine sw_nil ?_
      refine post_then ?_
      refine cw_seq ?_
      refine cw_seq ?_
      -- region 11
      refine cw_region ?_
      refine sw_step rfl rfl rfl (OpR.q (q_move rfl rfl)) ?_
      refine sw_step rfl rfl rfl (OpR.q (q_move rfl rfl)) ?_
      refine sw_nil ?_
      refine post_then ?_
      refine cw_block ?_
      -- STOP at: loop
      have z1' : (zig n).length ≤ 61 := by have := z1; simp only [zig]; omega
      have z2' : ∀ k, 0 ≤ nth (zig n) k ∧ nth (zig n) k ≤ 60 := nth_bd (by omega) fun v hv => by have := z2 v hv; omega
      refine cw_loop (S := Nat × SlV × List (SlV × List Int)) (fun y => [(0, [], .int .i64 n), (3, [], .int .i64 0), (4, [], s.v), (7, [], y.2.1.v), (39, [], .int .i64 n), (40, [], .int .i64 y.1)]) (fun y => Cl w [] (ownL 37 y.2.1.v (y.2.2.map (·.1)) :: ownL 3 s.v (zig n) :: rowsA y.2.2)) (fun y => y.1 ≤ n ∧ y.2.2.map (·.2) = (List.range y.1).map (sqRow n)) (fun y => n - y.1) (0, ⟨none, 0, 0⟩, []) (by simp) (by exact .cons rfl (.cons rfl (.cons rfl (.cons rfl (.cons rfl (.cons rfl .nil)))))) (fun _ h => h.addNil (α := SlV) 37) ?_
      rintro ⟨r, s7, rs⟩ ⟨hr, hrs⟩
      dsimp only at hr hrs ⊢
      have hrl : rs.length = r := by have := congrArg List.length hrs; simpa using this
      refine cw_seq ?_
      -- region 12
      refine cw_region ?_
      refine sw_step rfl rfl rfl (OpR.q (q_lss rfl rfl rfl)) ?_
      refine sw_nil ?_
      refine post_then ?_
      refine cw_seq ?_
      -- STOP at: cond
      refine cw_cond rfl (fun h5 => ?_) (fun h5 => ?_)
      · skip
        have hr' : r < n := by simp at h5; omega
        refine cw_skip ?_
        refine post_then ?_
        refine cw_seq ?_
        refine cw_block ?_
        refine cw_seq ?_
        -- region 13
        refine cw_region ?_
        refine sw_step rfl rfl rfl (OpR.q (q_move rfl rfl)) ?_
        refine sw_step rfl rfl rfl (OpR.q (q_assign rfl rfl)) ?_
        refine sw_nil ?_
        refine post_then ?_
        refine cw_seq ?_
        -- region 14
        refine cw_region ?_
        refine sw_step rfl rfl rfl (OpR.q (q_assign rfl rfl)) ?_
        refine sw_nil ?_
        refine post_then ?_
        refine cw_seq ?_
        refine cw_seq ?_
        -- region 15
        refine cw_region ?_
        refine sw_step rfl rfl rfl (OpR.q (q_move rfl rfl)) ?_
        refine sw_step rfl rfl rfl (OpR.q (q_len rfl (.cons rfl inferInstance (.nil)) (by exact fun w hw => rd_own hw (by exact .tail _ (.head _))))) ?_
        refine sw_step rfl rfl rfl (OpR.q (q_move rfl rfl)) ?_
        refine sw_nil ?_
        refine post_then ?_
        refine cw_block ?_
        -- STOP at: loop
        refine cw_loop (S := Nat × SlV) (fun y => [(0, [], .int .i64 n), (3, [], .int .i64 0), (4, [], s.v), (7, [], s7.v), (8, [], .int .i64 r), (9, [], y.2.v), (39, [], .int .i64 n), (40, [], .int .i64 r), (43, [], s.v), (44, [], .int .i64 (zig n).length), (45, [], .int .i64 y.1)]) (fun y => Cl w [] (ownL 3 y.2.v ((sqRow n r).take y.1) :: ownL 37 s7.v (rs.map (·.1)) :: ownL 3 s.v (zig n) :: rowsA rs)) (fun y => y.1 ≤ (zig n).length) (fun y => (zig n).length - y.1) (0, ⟨none, 0, 0⟩) (by simp) (by exact .cons rfl (.cons rfl (.cons rfl (.cons rfl (.cons rfl (.cons rfl (.cons rfl (.cons rfl (.cons rfl (.cons rfl (.cons rfl .nil))))))))))) (fun _ h => h.addNil (α := Int) 3) ?_
        rintro ⟨i, s9⟩ hi
        dsimp only at hi ⊢
        have hz := z2' i
        have hl9 := sqRow_len n r
        refine cw_seq ?_
        -- region 16
        refine cw_region ?_
        refine sw_step rfl rfl rfl (OpR.q (q_lss rfl rfl rfl)) ?_
        refine sw_nil ?_
        refine post_then ?_
        refine cw_seq ?_
        -- STOP at: cond
        refine cw_cond rfl (fun h6 => ?_) (fun h6 => ?_)
        · skip
          have hi' : i < (zig n).length := by simp at h6; omega
          refine cw_skip ?_
          refine post_then ?_
          refine cw_seq ?_
          refine cw_block ?_
          refine cw_seq ?_
          -- region 17
          refine cw_region ?_
          refine sw_step rfl rfl rfl (OpR.q (q_indexN rfl rfl rfl (by exact fun w hw => rd_own hw (by exact .tail _ (.tail _ (.head _)))) (by intro hc; omega))) ?_
          refine sw_step rfl rfl rfl (OpR.q (q_loadEl rfl rfl rfl (by exact fun w hw => rd_own hw (by exact .tail _ (.tail _ (.head _)))) (by intro hc; omega))) ?_
          refine sw_step rfl rfl rfl (OpR.q (q_assign rfl rfl)) ?_
          refine sw_nil ?_
          refine post_then ?_
          -- region 18
          refine cw_region ?_
          refine sw_step rfl rfl rfl (OpR.q (q_move rfl rfl)) ?_
          refine sw_step rfl rfl rfl (OpR.q (q_move rfl rfl)) ?_
          refine sw_step rfl rfl rfl (OpR.q (q_move rfl rfl)) ?_
          refine sw_step rfl rfl rfl (OpR.q (q_add rfl rfl rfl (by intro hc; omega))) ?_
          refine sw_step rfl rfl rfl (OpR.q (q_move rfl rfl)) ?_
          refine sw_step rfl rfl rfl (OpR.q (q_rem rfl rfl rfl (by intro hc; omega))) ?_
          refine sw_x rfl rfl rfl (e_build1 (α := Int) rfl rfl rfl rfl) (fun s55 => ?_)
          refine sw_x rfl rfl rfl (e_append (i := 1) rfl (.cons rfl inferInstance (.cons rfl inferInstance (.nil))) rfl rfl (by exact fun w hw => rd_own hw (by exact .head _)) (by simp only [List.length_set, List.length_append, List.length_cons, List.length_nil, List.length_replicate, List.length_take, List.length_drop, List.length_map]; omega) rfl) (fun s56 => ?_)
          refine sw_step rfl rfl rfl (OpR.q (q_assign rfl rfl)) ?_
          refine sw_nil ?_
          refine post_blk ?_
          refine post_then ?_
          -- region 19
          refine cw_region ?_
          refine sw_step rfl rfl rfl (OpR.q (q_add rfl rfl rfl (by intro hc; omega))) ?_
          refine sw_step rfl rfl rfl (OpR.q (q_move rfl rfl)) ?_
          refine sw_nil ?_
          refine post_next (i + 1, s56) (by exact .cons rfl (.cons rfl (.cons rfl (.cons rfl (.cons rfl (.cons rfl (.cons rfl (.cons rfl (.cons rfl (.cons rfl (.cons rfl .nil))))))))))) (fun w3 hw3 => ?_) (by simp only; omega) (by simp only; omega)
          simp only [sqRow_succ n r i hi']
          exact hw3.tail
        · skip
          have hi' : i = (zig n).length := by simp at h6; omega
          subst hi'
          rw [← sqRow_len n r, List.take_length]
          refine cw_exit ?_
          refine post_then_x ?_
          refine post_then_x ?_
          refine post_blk_eq ?_
          refine post_then ?_
          -- region 20
          refine cw_region ?_
          refine sw_step rfl rfl rfl (OpR.q (q_move rfl rfl)) ?_
          refine sw_step rfl rfl rfl (OpR.q (q_move rfl rfl)) ?_
          refine sw_x rfl rfl rfl (e_build1 (α := SlV) rfl rfl rfl rfl) (fun s60 => ?_)
          refine sw_x rfl rfl rfl (e_append (i := 2) rfl (.cons rfl inferInstance (.cons rfl inferInstance (.nil))) rfl rfl (by exact fun w hw => rd_own hw (by exact .head _)) (by simp only [List.length_set, List.length_append, List.length_cons, List.length_nil, List.length_replicate, List.length_take, List.length_drop, List.length_map]; omega) rfl) (fun s61 => ?_)
          refine sw_step rfl rfl rfl (OpR.q (q_assign rfl rfl)) ?_
          refine sw_nil ?_
          refine post_blk ?_
          refine post_then ?_
          -- region 21
          refine cw_region ?_
          refine sw_step rfl rfl rfl (OpR.q (q_add rfl rfl rfl (by intro hc; omega))) ?_
          refine sw_step rfl rfl rfl (OpR.q (q_move rfl rfl)) ?_
          refine sw_nil ?_
          refine post_next (r + 1, s61, rs ++ [(s9, sqRow n r)]) (by exact .cons rfl (.cons rfl (.cons rfl (.cons rfl (.cons rfl (.cons rfl .nil)))))) (fun w3 hw3 => ?_) ⟨by simp only; omega, by simp [hrs, List.range_succ]⟩ (by simp only; omega)
          simp only [List.map_append, List.map_cons, List.map_nil, rowsA_snoc]
          exact hw3.tail.perm perm_rot
      · skip
        have hr' : r = n := by simp at h5; omega
        subst hr'
        refine cw_exit ?_
        refine post_then_x ?_
        refine post_then_x ?_
        refine post_blk_eq ?_
        refine post_then ?_
        refine cw_seq ?_
        refine cw_seq ?_
        -- region 22
        refine cw_region ?_
        refine sw_step rfl rfl rfl (OpR.q (q_move rfl rfl)) ?_
        refine sw_step rfl rfl rfl (OpR.q (q_rem rfl rfl rfl (by intro hc; omega))) ?_
        refine sw_step rfl rfl rfl (OpR.q (q_eql rfl rfl rfl)) ?_
        refine sw_nil ?_
        refine post_then ?_
        -- STOP at: cond
        refine cw_cond rfl (fun h6 => ?_) (fun h6 => ?_)
        · skip
          simp at h6; omega
        · skip
          refine cw_skip ?_
          refine post_then ?_
          refine cw_seq ?_
          -- region 30
          refine cw_region ?_
          refine sw_step rfl rfl rfl (OpR.q (q_move rfl rfl)) ?_
          refine sw_step rfl rfl rfl (OpR.q (q_assign rfl rfl)) ?_
          refine sw_step rfl rfl rfl (OpR.q (q_assign rfl rfl)) ?_
          refine sw_nil ?_
          refine post_then ?_
          refine cw_ret ?_
          refine post_ret2 rfl (resOk_tmp rfl) (resOk_tmp rfl) ?_
          refine fun w' hw => ⟨(s7, rs), rfl, hrs, ?_⟩
          exact (hw.perm (.swap _ _ _)).tail
end Go.Proofs.Ytekikelejncgeaa
