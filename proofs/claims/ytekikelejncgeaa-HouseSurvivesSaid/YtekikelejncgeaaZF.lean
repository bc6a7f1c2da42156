import Derived.Test.YtekikelejncgeaaZE
set_option autoImplicit false
set_option linter.unusedSimpArgs false
set_option linter.unusedVariables false
set_option maxRecDepth 100000
namespace Go.Proofs.Ytekikelejncgeaa
open Go.Sx
open Enc (enc val)

/-! ### what is found at an offset -/
theorem equalBools_spec (av bv : Value) (a b : List Bool) (w : World) (ha : Stb w [] (RdL av a)) (hb : Stb w [] (RdL bv b)) : Calls Try.prog 81 #[av, bv] w fun e w' => e = .returned (.bool (decide (a = b))) ∧ Cl w [] [] w' := by
  have hL := rd_len ha.here
  have hL2 := rd_len hb.here
  refine calls_cw (vs := [_, _]) Try.func81 rfl Try.ntmps81 rfl (Cl.start0 w) ?_
  refine cw_seq ?_
  -- region 0
  refine cw_region ?_
  refine sw_step rfl rfl rfl (OpR.q (q_assign rfl rfl)) ?_
  refine sw_nil ?_
  refine post_then ?_
  refine cw_seq ?_
  refine cw_seq ?_
  -- region 1
  refine cw_region ?_
  refine sw_step rfl rfl rfl (OpR.q (q_move rfl rfl)) ?_
  first | refine sw_step rfl rfl rfl (OpR.q (q_len rfl (.cons rfl inferInstance (.nil)) (by first | exact fun w hw => Stb.cl (by assumption) hw | exact fun w hw => rd_own hw (by first | assumption | (repeat first | exact .head _ | apply List.Mem.tail)) | assumption))) ?_ | refine sw_step rfl rfl rfl (OpR.q (q_lenV rfl (.cons rfl inferInstance (.nil)))) ?_
  refine sw_step rfl rfl rfl (OpR.q (q_move rfl rfl)) ?_
  first | refine sw_step rfl rfl rfl (OpR.q (q_len rfl (.cons rfl inferInstance (.nil)) (by first | exact fun w hw => Stb.cl (by assumption) hw | exact fun w hw => rd_own hw (by first | assumption | (repeat first | exact .head _ | apply List.Mem.tail)) | assumption))) ?_ | refine sw_step rfl rfl rfl (OpR.q (q_lenV rfl (.cons rfl inferInstance (.nil)))) ?_
  refine sw_step rfl rfl rfl (OpR.q (q_neq rfl rfl rfl)) ?_
  refine sw_nil ?_
  refine post_then ?_
  -- STOP at: cond
  refine cw_cond rfl (fun h => ?_) (fun h => ?_)
  · skip
    have hne : a ≠ b := fun e => by subst e; simp at h
    refine cw_seq ?_
    -- region 2
    refine cw_region ?_
    refine sw_step rfl rfl rfl (OpR.q (q_assign rfl rfl)) ?_
    refine sw_nil ?_
    refine post_then ?_
    refine cw_ret ?_
    refine post_then_r ?_
    refine post_ret1 rfl (resOk_tmp rfl) ?_
    exact fun w' hw => ⟨by simp [hne], hw⟩
  · skip
    have hl : a.length = b.length := by simp at h; omega
    refine cw_skip ?_
    refine post_then ?_
    refine cw_seq ?_
    refine cw_seq ?_
    -- region 3
    refine cw_region ?_
    refine sw_step rfl rfl rfl (OpR.q (q_move rfl rfl)) ?_
    first | refine sw_step rfl rfl rfl (OpR.q (q_len rfl (.cons rfl inferInstance (.nil)) (by first | exact fun w hw => Stb.cl (by assumption) hw | exact fun w hw => rd_own hw (by first | assumption | (repeat first | exact .head _ | apply List.Mem.tail)) | assumption))) ?_ | refine sw_step rfl rfl rfl (OpR.q (q_lenV rfl (.cons rfl inferInstance (.nil)))) ?_
    refine sw_step rfl rfl rfl (OpR.q (q_move rfl rfl)) ?_
    refine sw_nil ?_
    refine post_then ?_
    refine cw_block ?_
    -- STOP at: loop
    refine cw_loop (S := Nat) (fun k => [(0, [], av), (1, [], bv), (12, [], .int .i64 a.length), (13, [], .int .i64 k)]) (fun _ => Cl w [] []) (fun k => k ≤ a.length ∧ ∀ j, j < k → nth a j = nth b j) (fun k => a.length - k) 0 ⟨by omega, fun j hj => by omega⟩ (by (repeat first | exact Le.nil | refine Le.cons rfl ?_ | refine Le.cons' rfl (by congr 1; first | omega | (simp only; omega)) ?_)) (fun _ h => h) ?_
    rintro k ⟨hk, hbe⟩
    refine cw_seq ?_
    -- region 4
    refine cw_region ?_
    refine sw_step rfl rfl rfl (OpR.q (q_lss rfl rfl rfl)) ?_
    refine sw_nil ?_
    refine post_then ?_
    refine cw_seq ?_
    -- STOP at: cond
    refine cw_cond rfl (fun h2 => ?_) (fun h2 => ?_)
    · skip
      have hk' : k < a.length := by simp only [decide_eq_true_eq] at h2; omega
      refine cw_skip ?_
      refine post_then ?_
      refine cw_seq ?_
      refine cw_block ?_
      refine cw_seq ?_
      -- region 5
      refine cw_region ?_
      refine sw_step rfl rfl rfl (OpR.q (q_move rfl rfl)) ?_
      refine sw_step rfl rfl rfl (OpR.q (q_assign rfl rfl)) ?_
      refine sw_nil ?_
      refine post_then ?_
      refine cw_seq ?_
      -- region 6
      refine cw_region_q mixed_Try (by kernel_rfl) ?_
      refine qw_step rfl rfl rfl (OpR.q (q_move rfl rfl)) ?_
      refine qw_step rfl rfl rfl (OpR.q (q_move rfl rfl)) ?_
      first | refine qw_step rfl rfl rfl (OpR.q (q_indexN rfl rfl rfl (by first | exact fun w hw => Stb.cl (by assumption) hw | exact fun w hw => rd_own hw (by first | assumption | (repeat first | exact .head _ | apply List.Mem.tail)) | assumption) (by intro hc; first | omega | (simp only [List.length_set, List.length_append, List.length_cons, List.length_nil, List.length_replicate, List.length_take, List.length_drop, List.length_map]; omega) | (simp only [AllT.iff, List.all_cons, List.all_nil, id, Bool.and_eq_true, Bool.not_eq_true', decide_eq_true_eq, decide_eq_false_iff_not, and_true] at hc; first | omega | (simp only [List.length_set, List.length_append, List.length_cons, List.length_nil, List.length_replicate, List.length_take, List.length_drop, List.length_map]; omega)) | (exfalso; simp_all [AllT]; done)))) ?_ | refine qw_step rfl rfl rfl (OpR.q (q_index rfl rfl rfl (by first | exact fun w hw => Stb.cl (by assumption) hw | exact fun w hw => rd_own hw (by first | assumption | (repeat first | exact .head _ | apply List.Mem.tail)) | assumption) (by intro hc; first | omega | (simp only [List.length_set, List.length_append, List.length_cons, List.length_nil, List.length_replicate, List.length_take, List.length_drop, List.length_map]; omega) | (simp only [AllT.iff, List.all_cons, List.all_nil, id, Bool.and_eq_true, Bool.not_eq_true', decide_eq_true_eq, decide_eq_false_iff_not, and_true] at hc; first | omega | (simp only [List.length_set, List.length_append, List.length_cons, List.length_nil, List.length_replicate, List.length_take, List.length_drop, List.length_map]; omega)) | (exfalso; simp_all [AllT]; done)))) ?_
      first | refine qw_step rfl rfl rfl (OpR.q (q_loadC rfl rfl (by first | assumption | (repeat first | exact .head _ | apply List.Mem.tail)) rfl)) ?_ | refine qw_step rfl rfl rfl (OpR.q (q_loadA rfl rfl (by first | assumption | (repeat first | exact .head _ | apply List.Mem.tail)) rfl)) ?_ | refine qw_step rfl rfl rfl (OpR.q (q_loadEl rfl rfl rfl (by first | exact fun w hw => Stb.cl (by assumption) hw | exact fun w hw => rd_own hw (by first | assumption | (repeat first | exact .head _ | apply List.Mem.tail)) | assumption) (by intro hc; first | omega | (simp only [List.length_set, List.length_append, List.length_cons, List.length_nil, List.length_replicate, List.length_take, List.length_drop, List.length_map]; omega) | (simp only [AllT.iff, List.all_cons, List.all_nil, id, Bool.and_eq_true, Bool.not_eq_true', decide_eq_true_eq, decide_eq_false_iff_not, and_true] at hc; first | omega | (simp only [List.length_set, List.length_append, List.length_cons, List.length_nil, List.length_replicate, List.length_take, List.length_drop, List.length_map]; omega)) | (exfalso; simp_all [AllT]; done)))) ?_ | refine qw_step rfl rfl rfl (OpR.q (q_loadF rfl rfl rfl (by first | exact fun w hw => Stb.cl (by assumption) hw | exact fun w hw => rd_own hw (by first | assumption | (repeat first | exact .head _ | apply List.Mem.tail)) | assumption) (by intro hc; first | omega | (simp only [List.length_set, List.length_append, List.length_cons, List.length_nil, List.length_replicate, List.length_take, List.length_drop, List.length_map]; omega) | (simp only [AllT.iff, List.all_cons, List.all_nil, id, Bool.and_eq_true, Bool.not_eq_true', decide_eq_true_eq, decide_eq_false_iff_not, and_true] at hc; first | omega | (simp only [List.length_set, List.length_append, List.length_cons, List.length_nil, List.length_replicate, List.length_take, List.length_drop, List.length_map]; omega)) | (exfalso; simp_all [AllT]; done)) rfl)) ?_ | refine qw_step rfl rfl rfl (OpR.q (q_loadS rfl rfl (fun w hw => Stb.cl (by assumption) hw) rfl)) ?_
      refine qw_step rfl rfl rfl (OpR.q (q_move rfl rfl)) ?_
      refine qw_step rfl rfl rfl (OpR.q (q_move rfl rfl)) ?_
      first | refine qw_step rfl rfl rfl (OpR.q (q_indexN rfl rfl rfl (by first | exact fun w hw => Stb.cl (by assumption) hw | exact fun w hw => rd_own hw (by first | assumption | (repeat first | exact .head _ | apply List.Mem.tail)) | assumption) (by intro hc; first | omega | (simp only [List.length_set, List.length_append, List.length_cons, List.length_nil, List.length_replicate, List.length_take, List.length_drop, List.length_map]; omega) | (simp only [AllT.iff, List.all_cons, List.all_nil, id, Bool.and_eq_true, Bool.not_eq_true', decide_eq_true_eq, decide_eq_false_iff_not, and_true] at hc; first | omega | (simp only [List.length_set, List.length_append, List.length_cons, List.length_nil, List.length_replicate, List.length_take, List.length_drop, List.length_map]; omega)) | (exfalso; simp_all [AllT]; done)))) ?_ | refine qw_step rfl rfl rfl (OpR.q (q_index rfl rfl rfl (by first | exact fun w hw => Stb.cl (by assumption) hw | exact fun w hw => rd_own hw (by first | assumption | (repeat first | exact .head _ | apply List.Mem.tail)) | assumption) (by intro hc; first | omega | (simp only [List.length_set, List.length_append, List.length_cons, List.length_nil, List.length_replicate, List.length_take, List.length_drop, List.length_map]; omega) | (simp only [AllT.iff, List.all_cons, List.all_nil, id, Bool.and_eq_true, Bool.not_eq_true', decide_eq_true_eq, decide_eq_false_iff_not, and_true] at hc; first | omega | (simp only [List.length_set, List.length_append, List.length_cons, List.length_nil, List.length_replicate, List.length_take, List.length_drop, List.length_map]; omega)) | (exfalso; simp_all [AllT]; done)))) ?_
      first | refine qw_step rfl rfl rfl (OpR.q (q_loadC rfl rfl (by first | assumption | (repeat first | exact .head _ | apply List.Mem.tail)) rfl)) ?_ | refine qw_step rfl rfl rfl (OpR.q (q_loadA rfl rfl (by first | assumption | (repeat first | exact .head _ | apply List.Mem.tail)) rfl)) ?_ | refine qw_step rfl rfl rfl (OpR.q (q_loadEl rfl rfl rfl (by first | exact fun w hw => Stb.cl (by assumption) hw | exact fun w hw => rd_own hw (by first | assumption | (repeat first | exact .head _ | apply List.Mem.tail)) | assumption) (by intro hc; first | omega | (simp only [List.length_set, List.length_append, List.length_cons, List.length_nil, List.length_replicate, List.length_take, List.length_drop, List.length_map]; omega) | (simp only [AllT.iff, List.all_cons, List.all_nil, id, Bool.and_eq_true, Bool.not_eq_true', decide_eq_true_eq, decide_eq_false_iff_not, and_true] at hc; first | omega | (simp only [List.length_set, List.length_append, List.length_cons, List.length_nil, List.length_replicate, List.length_take, List.length_drop, List.length_map]; omega)) | (exfalso; simp_all [AllT]; done)))) ?_ | refine qw_step rfl rfl rfl (OpR.q (q_loadF rfl rfl rfl (by first | exact fun w hw => Stb.cl (by assumption) hw | exact fun w hw => rd_own hw (by first | assumption | (repeat first | exact .head _ | apply List.Mem.tail)) | assumption) (by intro hc; first | omega | (simp only [List.length_set, List.length_append, List.length_cons, List.length_nil, List.length_replicate, List.length_take, List.length_drop, List.length_map]; omega) | (simp only [AllT.iff, List.all_cons, List.all_nil, id, Bool.and_eq_true, Bool.not_eq_true', decide_eq_true_eq, decide_eq_false_iff_not, and_true] at hc; first | omega | (simp only [List.length_set, List.length_append, List.length_cons, List.length_nil, List.length_replicate, List.length_take, List.length_drop, List.length_map]; omega)) | (exfalso; simp_all [AllT]; done)) rfl)) ?_ | refine qw_step rfl rfl rfl (OpR.q (q_loadS rfl rfl (fun w hw => Stb.cl (by assumption) hw) rfl)) ?_
      refine qw_step rfl rfl rfl (OpR.q (q_neq_b rfl rfl rfl Try.underlying4)) ?_
      refine qw_end ?_
      refine post_then ?_
      -- STOP at: cond
      refine cw_cond rfl (fun h3 => ?_) (fun h3 => ?_)
      · skip
        have hne : a ≠ b := fun e => by subst e; simp at h3
        refine cw_seq ?_
        -- region 7
        refine cw_region ?_
        refine sw_step rfl rfl rfl (OpR.q (q_assign rfl rfl)) ?_
        refine sw_nil ?_
        refine post_then ?_
        refine cw_ret ?_
        refine post_blk_r ?_
        refine post_then_r ?_
        refine post_then_r ?_
        refine post_blk_r ?_
        refine post_then_r ?_
        refine post_ret1 rfl (resOk_tmp rfl) ?_
        exact fun w' hw => ⟨by simp [hne], hw⟩
      · skip
        have he : nth a k = nth b k := by simpa using h3
        refine cw_skip ?_
        refine post_blk ?_
        refine post_then ?_
        -- region 8
        refine cw_region ?_
        refine sw_step rfl rfl rfl (OpR.q (q_add rfl rfl rfl (by intro hc; first | omega | (simp only [List.length_set, List.length_append, List.length_cons, List.length_nil, List.length_replicate, List.length_take, List.length_drop, List.length_map]; omega) | (simp only [AllT.iff, List.all_cons, List.all_nil, id, Bool.and_eq_true, Bool.not_eq_true', decide_eq_true_eq, decide_eq_false_iff_not, and_true] at hc; first | omega | (simp only [List.length_set, List.length_append, List.length_cons, List.length_nil, List.length_replicate, List.length_take, List.length_drop, List.length_map]; omega)) | (exfalso; simp_all [AllT]; done)))) ?_
        refine sw_step rfl rfl rfl (OpR.q (q_move rfl rfl)) ?_
        refine sw_nil ?_
        refine post_next (k + 1) (by (repeat first | exact Le.nil | refine Le.cons rfl ?_ | refine Le.cons' rfl (by congr 1; first | omega | (simp only; omega)) ?_)) (fun _ h => h) ⟨by omega, fun j hj => ?_⟩ (by omega)
        by_cases hjk : j = k
        · rw [hjk]; exact he
        · exact hbe j (by omega)
    · skip
      have hk' : k = a.length := by simp only [decide_eq_false_iff_not] at h2; omega
      subst hk'
      have he := eq_of_nth hl hbe
      refine cw_exit ?_
      refine post_then_x ?_
      refine post_then_x ?_
      refine post_blk_eq ?_
      refine post_then ?_
      refine cw_seq ?_
      -- region 9
      refine cw_region ?_
      refine sw_step rfl rfl rfl (OpR.q (q_assign rfl rfl)) ?_
      refine sw_nil ?_
      refine post_then ?_
      refine cw_ret ?_
      refine post_ret1 rfl (resOk_tmp rfl) ?_
      exact fun w' hw => ⟨by simp [he], hw⟩
def bitK (a : List Int) (m : Stamp) (f p : Nat) : Int := corrTo a (pc m p) (f + p * m.period.toNat) m.period.toNat
def badK (a : List Int) (m : Stamp) (thr : Int) (f p : Nat) : Bool := decide (bitK a m f p < thr) && decide (-bitK a m f p < thr)
def bitsTo (a : List Int) (m : Stamp) (thr : Int) (f : Nat) (k : Nat) : List Bool := (List.range k).map fun j => decide (thr ≤ bitK a m f (j + 1))
theorem bitsTo_len (a : List Int) (m : Stamp) (thr : Int) (f k : Nat) : (bitsTo a m thr f k).length = k := by simp [bitsTo]
theorem bitsTo_succ (a : List Int) (m : Stamp) (thr : Int) (f k : Nat) : bitsTo a m thr f (k + 1) = bitsTo a m thr f k ++ [decide (thr ≤ bitK a m f (k + 1))] := by simp [bitsTo, List.range_succ]
theorem bitsTo_nth (a : List Int) (m : Stamp) (thr : Int) (f k i : Nat) (h : i < k) : nth (bitsTo a m thr f k) i = decide (thr ≤ bitK a m f (i + 1)) := by rw [nth_get (by rw [bitsTo_len]; exact h)]; simp [bitsTo]
def msgOf (b : List Bool) : Nat → Int
  | 0 => 0
  | i + 1 => 2 * msgOf b i + (if nth b i = true then 1 else 0)
theorem msgOf_bd (b : List Bool) : ∀ i, 0 ≤ msgOf b i ∧ msgOf b i < 2 ^ i
  | 0 => by simp [msgOf]
  | i + 1 => by
    have ih := msgOf_bd b i
    simp only [msgOf, Int.pow_succ]
    split <;> omega
theorem msgOf_bd16 (b : List Bool) {i : Nat} (h : i ≤ 16) : 0 ≤ msgOf b i ∧ msgOf b i < 65536 := by
  have h1 := msgOf_bd b i
  have h2 := pow16 h
  omega
theorem msgOf_ok (b : List Bool) {m : Stamp} : okMsg m (msgOf b m.bits.toNat) = true := by
  have h1 := msgOf_bd b m.bits.toNat
  simp [okMsg]; exact h1
/-- What is found at f, if the frame fits. -/
def anyBad (a : List Int) (m : Stamp) (thr : Int) (f k : Nat) : Bool := (List.range k).any fun j => badK a m thr f (j + 1)
theorem anyBad_false {a : List Int} {m : Stamp} {thr : Int} {f k : Nat} : anyBad a m thr f k = false ↔ ∀ j, j < k → badK a m thr f (j + 1) = false := by
  simp [anyBad]
theorem anyBad_true {a : List Int} {m : Stamp} {thr : Int} {f k j : Nat} (hj : j < k) (h : badK a m thr f (j + 1) = true) : anyBad a m thr f k = true := by
  simp only [anyBad, List.any_eq_true]
  exact ⟨j, List.mem_range.2 hj, h⟩
def foundAt (a : List Int) (m : Stamp) (thr : Int) (f : Nat) : Bool :=
  decide (thr ≤ bitK a m f 0) && !anyBad a m thr f (m.bits.toNat + 16) && decide (bitsTo a m thr f (m.bits.toNat + 16) = wordL m (msgOf (bitsTo a m thr f (m.bits.toNat + 16)) m.bits.toNat))
def msgAt (a : List Int) (m : Stamp) (thr : Int) (f : Nat) : Int := msgOf (bitsTo a m thr f (m.bits.toNat + 16)) m.bits.toNat
def findTo (a : List Int) (m : Stamp) (thr : Int) : Nat → List Find
  | 0 => []
  | k + 1 => findTo a m thr k ++ (if foundAt a m thr k = true then [⟨k, msgAt a m thr k⟩] else [])
theorem findTo_len (a : List Int) (m : Stamp) (thr : Int) : ∀ k, (findTo a m thr k).length ≤ k
  | 0 => by simp [findTo]
  | k + 1 => by
    have := findTo_len a m thr k
    simp only [findTo, List.length_append]
    split <;> simp <;> omega
/-- How many offsets a frame fits at. -/
def offs (a : List Int) (m : Stamp) : Nat := a.length + 1 - frameN m
def findL (a : List Int) (m : Stamp) (thr : Int) : List Find := findTo a m thr (offs a m)

/-- The samples are small. -/
def Small (a : List Int) : Prop := ∀ i, -4000000000 ≤ nth a i ∧ nth a i ≤ 4000000000
theorem small_of {a : List Int} (h : okS a = true) : Small a := fun i => by have := okS_nth h i; omega
theorem small_drop {a : List Int} (h : Small a) (lo : Nat) : Small ((a.take a.length).drop lo) := fun i => by
  by_cases hi : lo + i < a.length
  · rw [nth_sub a lo a.length i hi (Nat.le_refl _)]; exact h _
  · rw [nth_out _ _ (by simp; omega)]; decide
theorem bitK_bd {a : List Int} (h : Small a) {m : Stamp} (hm : rightS m = true) (f p : Nat) : -1024000000000 ≤ bitK a m f p ∧ bitK a m f p ≤ 1024000000000 := by
  have hb := rightS_bd hm
  exact corr_bd0 (pc_is m p) (by rw [pc_len hm]; omega) (by rw [pc_len hm]; exact Nat.le_refl _) h
/-- A correlation with a part of the wave, at offset o. -/
theorem corrAt {a c : List Int} {o P : Nat} (hl : c.length = P) (ho : o + P ≤ a.length) : corrTo ((a.take a.length).drop o) c 0 c.length = corrTo a c o P := by rw [hl, corr_sub (Nat.le_refl _) P ho]
theorem refCorrAt {sa cv : SlV} {a : List Int} {m : Stamp} (hm : rightS m = true) (p : Nat) {o : Nat} (ho : o + m.period.toNat ≤ a.length) (hs : Small a) {w : World} (ha : Stb w [] (RdL sa.v a)) (hc : Stb w [] (RdL cv.v (pc m p))) :
    Calls Try.prog 80 #[(sa.sub 1 o a.length).v, cv.v] w fun e w' => e = .returned (.int .i64 (corrTo a (pc m p) o m.period.toNat)) ∧ Cl w [] [] w' := by
  have hb := rightS_bd hm
  have h := refCorr_spec (sa.sub 1 o a.length).v cv.v ((a.take a.length).drop o) (pc m p) w (stb_sub ha (by omega) (Nat.le_refl _)) hc (by rw [pc_len hm]; simp; omega) (by rw [pc_len hm]; omega) (pc_is m p) (small_drop hs o)
  rwa [corrAt (pc_len hm p) ho] at h
theorem corrAtH {sa : SlV} {cv : Value} {a : List Int} {m : Stamp} (hm : rightS m = true) (p : Nat) {o : Nat} (ho : o + m.period.toNat ≤ a.length) (hs : Small a) {w : World} (ha : Stb w [] (RdL sa.v a)) (hc : Stb w [] (RdL cv (pc m p))) :
    Calls Try.prog 74 #[(sa.sub 1 o a.length).v, cv] w fun e w' => e = .returned (.int .i64 (corrTo a (pc m p) o m.period.toNat)) ∧ Cl w [] [] w' := by
  have hb := rightS_bd hm
  have h := corr_spec (sa.sub 1 o a.length).v cv ((a.take a.length).drop o) (pc m p) w (stb_sub ha (by omega) (Nat.le_refl _)) hc (by rw [pc_len hm]; simp; omega) (by rw [pc_len hm]; omega) (pc_is m p) (small_drop hs o)
  rwa [corrAt (pc_len hm p) ho] at h
theorem pcs_stb {m : Stamp} {s : SlV} {w w0 : World} {fp : List Nat} {H : List Asn} (hm : rightS m = true) (p : Nat) (hw : Cl w0 fp H w) (h : ownL 3 s.v (chipsL m.key (2 * m.period).toNat) ∈ H) : Stb w [] (RdL (pcs m.period.toNat (chipsL m.key (2 * m.period).toNat).length p s).v (pc m p)) :=
  ⟨fun w' k => pcs_rd hm p ((stb_own hw h).stb w' k)⟩
theorem offs_iff {a : List Int} {m : Stamp} (hm : rightS m = true) (f : Nat) : f + frameN m ≤ a.length ↔ f < offs a m := by
  have := frameN_bd hm
  unfold offs; omega
theorem per_in {m : Stamp} {p : Nat} (hp : p < m.bits.toNat + 17) {f L : Nat} (h : f + frameN m ≤ L) : f + p * m.period.toNat + m.period.toNat ≤ L := by
  have := per_le (m := m) p hp
  omega
theorem bitK0 (a : List Int) (key bits margin : Int) (P f : Nat) : bitK a ⟨key, P, bits, margin⟩ f 0 = corrTo a (pc ⟨key, P, bits, margin⟩ 0) f P := by
  show corrTo a (pc ⟨key, P, bits, margin⟩ 0) (f + 0 * P) P = _
  rw [Nat.zero_mul, Nat.add_zero]
theorem refBit0 {key bits margin : Int} {P : Nat} (hm : rightS ⟨key, P, bits, margin⟩ = true) {sa cv : SlV} {a : List Int} {f : Nat} (hf : f + frameN ⟨key, P, bits, margin⟩ ≤ a.length) (hs : Small a) {w : World} (ha : Stb w [] (RdL sa.v a)) (hc : Stb w [] (RdL cv.v (pc ⟨key, P, bits, margin⟩ 0))) :
    Calls Try.prog 80 #[(sa.sub 1 f a.length).v, cv.v] w fun e w' => e = .returned (.int .i64 (bitK a ⟨key, P, bits, margin⟩ f 0)) ∧ Cl w [] [] w' := by
  have h1 : f + 0 * P + P ≤ a.length := per_in (m := ⟨key, P, bits, margin⟩) (p := 0) (by omega) hf
  rw [bitK0]
  exact refCorrAt hm 0 (o := f) (by show f + P ≤ _; omega) hs ha hc
theorem refBit {key bits margin : Int} {P : Nat} (hm : rightS ⟨key, P, bits, margin⟩ = true) {sa cv : SlV} {a : List Int} {f p : Nat} (hp : p < bits.toNat + 17) (hf : f + frameN ⟨key, P, bits, margin⟩ ≤ a.length) (hs : Small a) {w : World} (ha : Stb w [] (RdL sa.v a)) (hc : Stb w [] (RdL cv.v (pc ⟨key, P, bits, margin⟩ p))) :
    Calls Try.prog 80 #[(sa.sub 1 (f + p * P) a.length).v, cv.v] w fun e w' => e = .returned (.int .i64 (bitK a ⟨key, P, bits, margin⟩ f p)) ∧ Cl w [] [] w' :=
  refCorrAt hm p (o := f + p * P) (per_in (m := ⟨key, P, bits, margin⟩) hp hf) hs ha hc
theorem houBit0 {key bits margin : Int} {P : Nat} (hm : rightS ⟨key, P, bits, margin⟩ = true) {sa : SlV} {cv : Value} {a : List Int} {f : Nat} (hf : f + frameN ⟨key, P, bits, margin⟩ ≤ a.length) (hs : Small a) {w : World} (ha : Stb w [] (RdL sa.v a)) (hc : Stb w [] (RdL cv (pc ⟨key, P, bits, margin⟩ 0))) :
    Calls Try.prog 74 #[(sa.sub 1 f a.length).v, cv] w fun e w' => e = .returned (.int .i64 (bitK a ⟨key, P, bits, margin⟩ f 0)) ∧ Cl w [] [] w' := by
  have h1 : f + 0 * P + P ≤ a.length := per_in (m := ⟨key, P, bits, margin⟩) (p := 0) (by omega) hf
  rw [bitK0]
  exact corrAtH hm 0 (o := f) (by show f + P ≤ _; omega) hs ha hc
theorem houBit {key bits margin : Int} {P : Nat} (hm : rightS ⟨key, P, bits, margin⟩ = true) {sa : SlV} {cv : Value} {a : List Int} {f p : Nat} (hp : p < bits.toNat + 17) (hf : f + frameN ⟨key, P, bits, margin⟩ ≤ a.length) (hs : Small a) {w : World} (ha : Stb w [] (RdL sa.v a)) (hc : Stb w [] (RdL cv (pc ⟨key, P, bits, margin⟩ p))) :
    Calls Try.prog 74 #[(sa.sub 1 (f + p * P) a.length).v, cv] w fun e w' => e = .returned (.int .i64 (bitK a ⟨key, P, bits, margin⟩ f p)) ∧ Cl w [] [] w' :=
  corrAtH hm p (o := f + p * P) (per_in (m := ⟨key, P, bits, margin⟩) hp hf) hs ha hc
end Go.Proofs.Ytekikelejncgeaa
