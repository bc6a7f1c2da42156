import Derived.Test.YtekikelejncgeaaUV
import Derived.Test.YtekikelejncgeaaT
import Derived.Test.YtekikelejncgeaaSxMore
set_option autoImplicit false
set_option linter.unusedSimpArgs false
set_option linter.unusedVariables false
set_option maxRecDepth 100000
namespace Go.Proofs.Ytekikelejncgeaa
open Go.Sx
open Enc (enc val)

/-! ### HouseTests -/
theorem neqC (a b : Chance) (w : World) : (binOp .neq 25 (val a) (val b)).run Try.prog w = .ok (.bool (!decide (a = b))) w := by
  obtain ⟨a1, a2⟩ := a
  obtain ⟨b1, b2⟩ := b
  simp only [Enc.val, Chance.mk.injEq]
  simp [go_sem]
  by_cases h1 : a1 = b1 <;> by_cases h2 : a2 = b2 <;> simp [h1, h2]
theorem refSigns_q (K N : Nat) (hw : K ≤ N) (hn : N ≤ 40) (w : World) : Calls Try.prog 17 #[.int .i64 K, .int .i64 N] w fun e w' => e = .returned (.int .i64 (signsTo K N N (N + 1))) ∧ Cl w [] [] w' := (refSigns_spec K N hw hn w).mono fun e w' ⟨_, he, _, hc⟩ => ⟨he, hc⟩
theorem refChance_q (c : Chance) (w : World) : Calls Try.prog 19 #[val c] w fun e w' => e = .returned (.bool (!badC c)) ∧ Cl w [] [] w' := (refChance_spec c w).mono fun e w' ⟨_, he, _, hc⟩ => ⟨he, hc⟩
def rightTo (p : List Chance) (num den : Int) (k : Nat) : Bool := (decide (0 < num) && decide (num < den) && decide (den ≤ 1000)) && !(p.take k).any badC
theorem wrapTwo {n : Nat} (h : n ≤ 40) : IntKind.i64.wrap (1 * 2 ^ ((n : Int)).toNat) = 2 ^ n := by
  have h5 : (2 : Int) ^ n ≤ 2 ^ 40 := two_pow_le h
  have h6 : (0 : Int) ≤ 2 ^ n := Int.pow_nonneg (by decide)
  rw [Int.one_mul, Int.toNat_natCast]
  simp only [IntKind.wrap, IntKind.signed, IntKind.bits]
  generalize (2 : Int) ^ n = z at h5 h6
  simp
  omega
theorem rightTo_succ {p : List Chance} {num den : Int} {k : Nat} (hk : k < p.length) : rightTo p num den (k + 1) = (rightTo p num den k && !badC (nth p k)) := by
  simp only [rightTo]
  rw [List.take_succ_eq_append_getElem hk, List.any_append, ← nth_get hk]
  simp [Bool.and_assoc]
theorem rightTo_all {p : List Chance} {num den : Int} (hl : p.length ≤ 50) : (rightTo p num den p.length = true → holmE p num den = 0 ∧ (1 ≤ num ∧ num < den ∧ den ≤ 1000) ∧ p.any badC = false) ∧ (rightTo p num den p.length = false → holmE p num den = 2) := by
  simp only [rightTo, List.take_length, holmE]
  rw [if_neg (by omega)]
  cases hb : p.any badC
  · constructor
    · intro h
      simp at h
      rw [if_neg (by simp; omega)]
      exact ⟨rfl, by omega, rfl⟩
    · intro h
      rw [if_pos]
      simp at h ⊢
      by_cases h1 : num < 1
      · exact .inl h1
      · by_cases h2 : den ≤ num
        · exact .inr (.inl h2)
        · exact .inr (.inr (h (by omega) (by omega)))
  · simp
theorem lawTests (sp : SlV) (p : List Chance) (wins n num den : Int) (w : World) (hp : Stb w [] (RdL sp.v p)) :
    Calls Try.prog 3 #[.int .i64 wins, .int .i64 n, sp.v, .int .i64 num, .int .i64 den] w fun e w' => e = .returned (.bool true) ∧ Cl w [] [] w' := by
  have hlen := rd_len hp.here
  obtain ⟨c1, hc1⟩ : ∃ c1 : Chance, (if signsOk wins n then (⟨signsTo wins n n.toNat (n.toNat + 1), 2 ^ n.toNat⟩ : Chance) else ⟨0, 0⟩) = c1 := ⟨_, rfl⟩
  refine calls_cw (vs := [_, _, _, _, _]) Try.func3 rfl Try.ntmps3 rfl (Cl.start0 w) ?_
  refine cw_seq ?_
  -- region 0
  refine cw_region ?_
  refine sw_step rfl rfl rfl (OpR.q (q_assign rfl rfl)) ?_
  refine sw_nil ?_
  refine post_then ?_
  refine cw_seq ?_
  refine cw_seq ?_
  -- region 1
  refine cw_region ?_
  refine sw_step rfl rfl rfl (OpR.q (q_move rfl rfl)) ?_
  first | refine sw_step rfl rfl rfl (OpR.q (q_len rfl (.cons rfl inferInstance (.nil)) (by first | exact fun w hw => Stb.cl (by assumption) hw | exact fun w hw => rd_own hw (by first | assumption | (repeat first | exact .head _ | apply List.Mem.tail)) | assumption))) ?_ | refine sw_step rfl rfl rfl (OpR.q (q_lenV rfl (.cons rfl inferInstance (.nil)))) ?_
  refine sw_step rfl rfl rfl (OpR.q (q_gtr rfl rfl rfl)) ?_
  refine sw_nil ?_
  refine post_then ?_
  -- STOP at: cond
  refine cw_cond rfl (fun h => ?_) (fun h => ?_)
  · skip
    refine cw_seq ?_
    -- region 2
    refine cw_region ?_
    refine sw_step rfl rfl rfl (q_call (CanCall.mk Try.call15) rfl (.nil) (fun _ w hw => callq hw (known_spec w))) ?_
    refine sw_step rfl rfl rfl (OpR.q (q_assign rfl rfl)) ?_
    refine sw_nil ?_
    refine post_then ?_
    refine cw_ret ?_
    refine post_then_r ?_
    refine post_ret1 rfl (resOk_tmp rfl) ?_
    exact fun w' hw => ⟨rfl, hw⟩
  · skip
    have hl : p.length ≤ 60 := by simp only [decide_eq_false_iff_not] at h; omega
    refine cw_skip ?_
    refine post_then ?_
    refine cw_seq ?_
    -- region 3
    refine cw_region ?_
    refine sw_step rfl rfl rfl (OpR.q (q_move rfl rfl)) ?_
    refine sw_step rfl rfl rfl (OpR.q (q_move rfl rfl)) ?_
    -- STOP at: t24  := call {callee=(value F16), args=[t22, t23], argTypes=[3, 3]} :27
    refine sw_x rfl rfl rfl (e_call (CanCall.mk Try.call16) rfl (.cons rfl inferInstance (.cons rfl inferInstance (.nil))) (fun w hw => signs_spec wins n w)) (fun u24 => ?_)
    refine sw_imp fun _ => ?_
    rw [hc1]
    refine sw_step rfl rfl rfl (OpR.q (q_move rfl rfl)) ?_
    first | refine sw_step rfl rfl rfl (OpR.q (q_extract rfl rfl rfl)) ?_ | refine sw_step rfl rfl rfl (OpR.q (q_extract rfl rfl (nextV_0 _))) ?_
    first | refine sw_step rfl rfl rfl (OpR.q (q_extract rfl rfl rfl)) ?_ | refine sw_step rfl rfl rfl (OpR.q (q_extract rfl rfl (nextV_0 _))) ?_
    refine sw_x rfl rfl rfl (e_alloc rfl) (fun b11 => ?_)
    first | refine sw_eff0 rfl rfl (e_store (i := 0) rfl rfl rfl rfl rfl rfl rfl rfl) ?_ | refine sw_eff0 rfl rfl (e_store (i := 1) rfl rfl rfl rfl rfl rfl rfl rfl) ?_ | refine sw_eff0 rfl rfl (e_store (i := 2) rfl rfl rfl rfl rfl rfl rfl rfl) ?_ | refine sw_eff0 rfl rfl (e_store (i := 3) rfl rfl rfl rfl rfl rfl rfl rfl) ?_ | refine sw_eff0 rfl rfl (e_store (i := 4) rfl rfl rfl rfl rfl rfl rfl rfl) ?_ | refine sw_eff0 rfl rfl (e_store (i := 5) rfl rfl rfl rfl rfl rfl rfl rfl) ?_ | refine sw_eff0 rfl rfl (e_store (i := 6) rfl rfl rfl rfl rfl rfl rfl rfl) ?_ | refine sw_eff0 rfl rfl (e_store (i := 7) rfl rfl rfl rfl rfl rfl rfl rfl) ?_ | refine sw_eff0 rfl rfl (e_store (i := 8) rfl rfl rfl rfl rfl rfl rfl rfl) ?_ | refine sw_eff0 rfl rfl (e_store (i := 9) rfl rfl rfl rfl rfl rfl rfl rfl) ?_ | refine sw_eff0 rfl rfl (e_store (i := 10) rfl rfl rfl rfl rfl rfl rfl rfl) ?_ | refine sw_eff0 rfl rfl (e_store (i := 11) rfl rfl rfl rfl rfl rfl rfl rfl) ?_ | refine sw_eff0 rfl rfl (e_store (i := 12) rfl rfl rfl rfl rfl rfl rfl rfl) ?_ | refine sw_eff0 rfl rfl (e_store (i := 13) rfl rfl rfl rfl rfl rfl rfl rfl) ?_ | refine sw_eff0 rfl rfl (e_store (i := 14) rfl rfl rfl rfl rfl rfl rfl rfl) ?_ | refine sw_eff0 rfl rfl (e_store (i := 15) rfl rfl rfl rfl rfl rfl rfl rfl) ?_ | refine sw_eff0 rfl rfl (e_storeEl1 (i := 0) rfl rfl rfl rfl rfl (by first | omega | (simp only [List.length_set, List.length_append, List.length_cons, List.length_nil, List.length_replicate, List.length_take, List.length_drop, List.length_map]; omega))) ?_ | refine sw_eff0 rfl rfl (e_storeEl1 (i := 1) rfl rfl rfl rfl rfl (by first | omega | (simp only [List.length_set, List.length_append, List.length_cons, List.length_nil, List.length_replicate, List.length_take, List.length_drop, List.length_map]; omega))) ?_ | refine sw_eff0 rfl rfl (e_storeEl1 (i := 2) rfl rfl rfl rfl rfl (by first | omega | (simp only [List.length_set, List.length_append, List.length_cons, List.length_nil, List.length_replicate, List.length_take, List.length_drop, List.length_map]; omega))) ?_ | refine sw_eff0 rfl rfl (e_storeEl1 (i := 3) rfl rfl rfl rfl rfl (by first | omega | (simp only [List.length_set, List.length_append, List.length_cons, List.length_nil, List.length_replicate, List.length_take, List.length_drop, List.length_map]; omega))) ?_ | refine sw_eff0 rfl rfl (e_storeEl1 (i := 4) rfl rfl rfl rfl rfl (by first | omega | (simp only [List.length_set, List.length_append, List.length_cons, List.length_nil, List.length_replicate, List.length_take, List.length_drop, List.length_map]; omega))) ?_ | refine sw_eff0 rfl rfl (e_storeEl1 (i := 5) rfl rfl rfl rfl rfl (by first | omega | (simp only [List.length_set, List.length_append, List.length_cons, List.length_nil, List.length_replicate, List.length_take, List.length_drop, List.length_map]; omega))) ?_ | refine sw_eff0 rfl rfl (e_storeEl1 (i := 6) rfl rfl rfl rfl rfl (by first | omega | (simp only [List.length_set, List.length_append, List.length_cons, List.length_nil, List.length_replicate, List.length_take, List.length_drop, List.length_map]; omega))) ?_ | refine sw_eff0 rfl rfl (e_storeEl1 (i := 7) rfl rfl rfl rfl rfl (by first | omega | (simp only [List.length_set, List.length_append, List.length_cons, List.length_nil, List.length_replicate, List.length_take, List.length_drop, List.length_map]; omega))) ?_ | refine sw_eff0 rfl rfl (e_storeEl1 (i := 8) rfl rfl rfl rfl rfl (by first | omega | (simp only [List.length_set, List.length_append, List.length_cons, List.length_nil, List.length_replicate, List.length_take, List.length_drop, List.length_map]; omega))) ?_ | refine sw_eff0 rfl rfl (e_storeEl1 (i := 9) rfl rfl rfl rfl rfl (by first | omega | (simp only [List.length_set, List.length_append, List.length_cons, List.length_nil, List.length_replicate, List.length_take, List.length_drop, List.length_map]; omega))) ?_ | refine sw_eff0 rfl rfl (e_storeEl1 (i := 10) rfl rfl rfl rfl rfl (by first | omega | (simp only [List.length_set, List.length_append, List.length_cons, List.length_nil, List.length_replicate, List.length_take, List.length_drop, List.length_map]; omega))) ?_ | refine sw_eff0 rfl rfl (e_storeEl1 (i := 11) rfl rfl rfl rfl rfl (by first | omega | (simp only [List.length_set, List.length_append, List.length_cons, List.length_nil, List.length_replicate, List.length_take, List.length_drop, List.length_map]; omega))) ?_ | refine sw_eff0 rfl rfl (e_storeEl1 (i := 12) rfl rfl rfl rfl rfl (by first | omega | (simp only [List.length_set, List.length_append, List.length_cons, List.length_nil, List.length_replicate, List.length_take, List.length_drop, List.length_map]; omega))) ?_ | refine sw_eff0 rfl rfl (e_storeEl1 (i := 13) rfl rfl rfl rfl rfl (by first | omega | (simp only [List.length_set, List.length_append, List.length_cons, List.length_nil, List.length_replicate, List.length_take, List.length_drop, List.length_map]; omega))) ?_ | refine sw_eff0 rfl rfl (e_storeEl1 (i := 14) rfl rfl rfl rfl rfl (by first | omega | (simp only [List.length_set, List.length_append, List.length_cons, List.length_nil, List.length_replicate, List.length_take, List.length_drop, List.length_map]; omega))) ?_ | refine sw_eff0 rfl rfl (e_storeEl1 (i := 15) rfl rfl rfl rfl rfl (by first | omega | (simp only [List.length_set, List.length_append, List.length_cons, List.length_nil, List.length_replicate, List.length_take, List.length_drop, List.length_map]; omega))) ?_
    refine sw_step rfl rfl rfl (OpR.q (q_assign rfl rfl)) ?_
    refine sw_nil ?_
    refine post_then ?_
    refine cw_seq ?_
    refine cw_seq ?_
    -- region 4
    refine cw_region ?_
    refine sw_step rfl rfl rfl (OpR.q (q_move rfl rfl)) ?_
    refine sw_step rfl rfl rfl (OpR.q (q_lss rfl rfl rfl)) ?_
    refine sw_step rfl rfl rfl (OpR.q (q_move rfl rfl)) ?_
    refine sw_step rfl rfl rfl (OpR.q (q_move rfl rfl)) ?_
    refine sw_step rfl rfl rfl (OpR.q (q_gtr rfl rfl rfl)) ?_
    refine sw_step rfl rfl rfl (OpR.q (q_or2 rfl rfl rfl)) ?_
    refine sw_step rfl rfl rfl (OpR.q (q_move rfl rfl)) ?_
    refine sw_step rfl rfl rfl (OpR.q (q_move rfl rfl)) ?_
    refine sw_step rfl rfl rfl (OpR.q (q_lss rfl rfl rfl)) ?_
    refine sw_step rfl rfl rfl (OpR.q (q_or2 rfl rfl rfl)) ?_
    refine sw_step rfl rfl rfl (OpR.q (q_move rfl rfl)) ?_
    refine sw_step rfl rfl rfl (OpR.q (q_move rfl rfl)) ?_
    refine sw_step rfl rfl rfl (OpR.q (q_move rfl rfl)) ?_
    refine sw_step rfl rfl rfl (OpR.q (q_gtr rfl rfl rfl)) ?_
    refine sw_step rfl rfl rfl (OpR.q (q_or2 rfl rfl rfl)) ?_
    refine sw_nil ?_
    refine post_then ?_
    -- STOP at: cond
    refine cw_cut (S := Unit) (fun _ => [(0, [], .int .i64 wins), (1, [], .int .i64 n), (2, [], sp.v), (3, [], .int .i64 num), (4, [], .int .i64 den)]) (fun _ => Cl w [] []) (fun _ => True) ?_ ?_
    · refine cw_cond rfl (fun h2 => ?_) (fun h2 => ?_)
      · skip
        have h3 : signsOk wins n = false := by
          simp only [Bool.or_eq_true, decide_eq_true_eq] at h2
          simp [signsOk, inB]; omega
        rw [h3] at hc1 ⊢
        refine cw_seq ?_
        -- region 5
        refine cw_region ?_
        refine sw_step rfl rfl rfl (OpR.q (q_move rfl rfl)) ?_
        refine sw_step rfl rfl rfl (OpR.q (q_neq rfl rfl rfl)) ?_
        refine sw_step rfl rfl rfl (OpR.q (q_move rfl rfl)) ?_
        first | refine sw_step rfl rfl rfl (OpR.q (q_loadC rfl rfl (by first | assumption | (repeat first | exact .head _ | apply List.Mem.tail)) rfl)) ?_ | refine sw_step rfl rfl rfl (OpR.q (q_loadA rfl rfl (by first | assumption | (repeat first | exact .head _ | apply List.Mem.tail)) rfl)) ?_ | refine sw_step rfl rfl rfl (OpR.q (q_loadEl rfl rfl rfl (by first | exact fun w hw => Stb.cl (by assumption) hw | exact fun w hw => rd_own hw (by first | assumption | (repeat first | exact .head _ | apply List.Mem.tail)) | assumption) (by intro hc; first | omega | (simp only [List.length_set, List.length_append, List.length_cons, List.length_nil, List.length_replicate, List.length_take, List.length_drop, List.length_map]; omega) | (simp only [AllT.iff, List.all_cons, List.all_nil, id, Bool.and_eq_true, Bool.not_eq_true', decide_eq_true_eq, decide_eq_false_iff_not, and_true] at hc; first | omega | (simp only [List.length_set, List.length_append, List.length_cons, List.length_nil, List.length_replicate, List.length_take, List.length_drop, List.length_map]; omega)) | (exfalso; simp_all [AllT]; done)))) ?_ | refine sw_step rfl rfl rfl (OpR.q (q_loadF rfl rfl rfl (by first | exact fun w hw => Stb.cl (by assumption) hw | exact fun w hw => rd_own hw (by first | assumption | (repeat first | exact .head _ | apply List.Mem.tail)) | assumption) (by intro hc; first | omega | (simp only [List.length_set, List.length_append, List.length_cons, List.length_nil, List.length_replicate, List.length_take, List.length_drop, List.length_map]; omega) | (simp only [AllT.iff, List.all_cons, List.all_nil, id, Bool.and_eq_true, Bool.not_eq_true', decide_eq_true_eq, decide_eq_false_iff_not, and_true] at hc; first | omega | (simp only [List.length_set, List.length_append, List.length_cons, List.length_nil, List.length_replicate, List.length_take, List.length_drop, List.length_map]; omega)) | (exfalso; simp_all [AllT]; done)) rfl)) ?_ | refine sw_step rfl rfl rfl (OpR.q (q_loadS rfl rfl (fun w hw => Stb.cl (by assumption) hw) rfl)) ?_
        refine sw_step rfl rfl rfl (OpR.q (q_build rfl (.nil) rfl)) ?_
        -- STOP at: t47  := binOp neq 25 t45 t46 25 :4 ?<2, false>
        refine sw_step rfl rfl rfl (OpR.q (q_neqS rfl rfl rfl (by kernel_rfl) (fun w => neqC c1 ⟨0, 0⟩ w))) ?_
        refine sw_step rfl rfl rfl (OpR.q (q_or2 rfl rfl rfl)) ?_
        refine sw_nil ?_
        refine post_then ?_
        -- STOP at: cond
        refine cw_cond rfl (fun h4 => ?_) (fun h4 => ?_)
        · skip
          simp [← hc1] at h4
        · skip
          refine cw_skip ?_
          exact post_meet () (by (repeat first | exact Le.nil | refine Le.cons rfl ?_ | refine Le.cons' rfl (by congr 1; first | omega | (simp only; omega)) ?_)) (fun w h => Cl.sel (by (repeat first | exact Sel.nil _ | refine Sel.take 0 rfl ?_ | refine Sel.take 1 rfl ?_ | refine Sel.take 2 rfl ?_ | refine Sel.take 3 rfl ?_ | refine Sel.take 4 rfl ?_ | refine Sel.take 5 rfl ?_ | refine Sel.take 6 rfl ?_ | refine Sel.take 7 rfl ?_ | refine Sel.take 8 rfl ?_ | refine Sel.take 9 rfl ?_ | refine Sel.take 10 rfl ?_ | refine Sel.take 11 rfl ?_)) w h) trivial
      · skip
        have h3 : signsOk wins n = true := by
          simp only [Bool.or_eq_false_iff, decide_eq_false_iff_not] at h2
          simp [signsOk, inB]; omega
        rw [h3] at hc1 ⊢
        have h5 : (0 ≤ n ∧ n ≤ 40) ∧ (0 ≤ wins ∧ wins ≤ n) := by simpa [signsOk, inB] using h3
        obtain ⟨N, rfl⟩ := Int.eq_ofNat_of_zero_le h5.1.1
        obtain ⟨K, rfl⟩ := Int.eq_ofNat_of_zero_le h5.2.1
        have h6 := wrapTwo (n := N) (by omega)
        refine cw_seq ?_
        -- region 7
        refine cw_region_q mixed_Try (by kernel_rfl) ?_
        refine qw_step rfl rfl rfl (OpR.q (q_move rfl rfl)) ?_
        refine qw_step rfl rfl rfl (OpR.q (q_neq rfl rfl rfl)) ?_
        refine qw_step rfl rfl rfl (OpR.q (q_move rfl rfl)) ?_
        first | refine qw_step rfl rfl rfl (OpR.q (q_loadC rfl rfl (by first | assumption | (repeat first | exact .head _ | apply List.Mem.tail)) rfl)) ?_ | refine qw_step rfl rfl rfl (OpR.q (q_loadA rfl rfl (by first | assumption | (repeat first | exact .head _ | apply List.Mem.tail)) rfl)) ?_ | refine qw_step rfl rfl rfl (OpR.q (q_loadEl rfl rfl rfl (by first | exact fun w hw => Stb.cl (by assumption) hw | exact fun w hw => rd_own hw (by first | assumption | (repeat first | exact .head _ | apply List.Mem.tail)) | assumption) (by intro hc; first | omega | (simp only [List.length_set, List.length_append, List.length_cons, List.length_nil, List.length_replicate, List.length_take, List.length_drop, List.length_map]; omega) | (simp only [AllT.iff, List.all_cons, List.all_nil, id, Bool.and_eq_true, Bool.not_eq_true', decide_eq_true_eq, decide_eq_false_iff_not, and_true] at hc; first | omega | (simp only [List.length_set, List.length_append, List.length_cons, List.length_nil, List.length_replicate, List.length_take, List.length_drop, List.length_map]; omega)) | (exfalso; simp_all [AllT]; done)))) ?_ | refine qw_step rfl rfl rfl (OpR.q (q_loadF rfl rfl rfl (by first | exact fun w hw => Stb.cl (by assumption) hw | exact fun w hw => rd_own hw (by first | assumption | (repeat first | exact .head _ | apply List.Mem.tail)) | assumption) (by intro hc; first | omega | (simp only [List.length_set, List.length_append, List.length_cons, List.length_nil, List.length_replicate, List.length_take, List.length_drop, List.length_map]; omega) | (simp only [AllT.iff, List.all_cons, List.all_nil, id, Bool.and_eq_true, Bool.not_eq_true', decide_eq_true_eq, decide_eq_false_iff_not, and_true] at hc; first | omega | (simp only [List.length_set, List.length_append, List.length_cons, List.length_nil, List.length_replicate, List.length_take, List.length_drop, List.length_map]; omega)) | (exfalso; simp_all [AllT]; done)) rfl)) ?_ | refine qw_step rfl rfl rfl (OpR.q (q_loadS rfl rfl (fun w hw => Stb.cl (by assumption) hw) rfl)) ?_
        refine qw_step rfl rfl rfl (OpR.q (q_move rfl rfl)) ?_
        refine qw_step rfl rfl rfl (OpR.q (q_move rfl rfl)) ?_
        refine qw_step rfl rfl rfl (q_call (CanCall.mk Try.call17) rfl (.cons rfl inferInstance (.cons rfl inferInstance (.nil))) (fun _ w hw => callq hw (refSigns_q K N (by omega) (by omega) w))) ?_
        refine qw_step rfl rfl rfl (OpR.q (q_move rfl rfl)) ?_
        refine qw_step rfl rfl rfl (OpR.q (q_shl rfl rfl rfl (by first | exact fun _ => ⟨by decide, by decide⟩ | (dsimp only [IntKind.bits]; exact (by intro hc; first | omega | (simp only [List.length_set, List.length_append, List.length_cons, List.length_nil, List.length_replicate, List.length_take, List.length_drop, List.length_map]; omega) | (simp only [AllT.iff, List.all_cons, List.all_nil, id, Bool.and_eq_true, Bool.not_eq_true', decide_eq_true_eq, decide_eq_false_iff_not, and_true] at hc; first | omega | (simp only [List.length_set, List.length_append, List.length_cons, List.length_nil, List.length_replicate, List.length_take, List.length_drop, List.length_map]; omega)) | (exfalso; simp_all [AllT]; done)))))) ?_
        refine qw_step rfl rfl rfl (OpR.q (q_build rfl (.cons rfl inferInstance (.cons rfl inferInstance (.nil))) rfl)) ?_
        -- STOP at: t59  := binOp neq 25 t52 t58 25 :4 ?<2, false>
        refine qw_step rfl rfl rfl (OpR.q (q_neqS rfl rfl rfl (by kernel_rfl) (fun w => neqC c1 ⟨signsTo K N N (N + 1), IntKind.i64.wrap (1 * 2 ^ ((N : Int)).toNat)⟩ w))) ?_
        refine qw_step rfl rfl rfl (OpR.q (q_or2 rfl rfl rfl)) ?_
        refine qw_end ?_
        refine post_then ?_
        -- STOP at: cond
        refine cw_cond rfl (fun h4 => ?_) (fun h4 => ?_)
        · skip
          rw [h6] at h4
          simp [← hc1] at h4
        · skip
          refine cw_skip ?_
          exact post_meet () (by (repeat first | exact Le.nil | refine Le.cons rfl ?_ | refine Le.cons' rfl (by congr 1; first | omega | (simp only; omega)) ?_)) (fun w h => Cl.sel (by (repeat first | exact Sel.nil _ | refine Sel.take 0 rfl ?_ | refine Sel.take 1 rfl ?_ | refine Sel.take 2 rfl ?_ | refine Sel.take 3 rfl ?_ | refine Sel.take 4 rfl ?_ | refine Sel.take 5 rfl ?_ | refine Sel.take 6 rfl ?_ | refine Sel.take 7 rfl ?_ | refine Sel.take 8 rfl ?_ | refine Sel.take 9 rfl ?_ | refine Sel.take 10 rfl ?_ | refine Sel.take 11 rfl ?_)) w h) trivial
    · intro u _
      refine post_then ?_
      refine cw_seq ?_
      -- region 9
      refine cw_region ?_
      refine sw_step rfl rfl rfl (OpR.q (q_move rfl rfl)) ?_
      refine sw_step rfl rfl rfl (OpR.q (q_move rfl rfl)) ?_
      refine sw_step rfl rfl rfl (OpR.q (q_move rfl rfl)) ?_
      -- STOP at: t65  := call {callee=(value F18), args=[t62, t63, t64], argTypes=[22, 3, 3]} :31
      refine sw_x rfl rfl rfl (e_call (CanCall.mk Try.call18) rfl (.cons rfl inferInstance (.cons rfl inferInstance (.cons rfl inferInstance (.nil)))) (fun w hw => holmG_spec sp p num den w (stb_arg hw hp))) (fun y65 => ?_)
      refine sw_imp fun hy => ?_
      obtain ⟨sh, lh⟩ := y65
      dsimp only at hy ⊢
      refine sw_step rfl rfl rfl (OpR.q (q_move rfl rfl)) ?_
      first | refine sw_step rfl rfl rfl (OpR.q (q_extract rfl rfl rfl)) ?_ | refine sw_step rfl rfl rfl (OpR.q (q_extract rfl rfl (nextV_0 _))) ?_
      first | refine sw_step rfl rfl rfl (OpR.q (q_extract rfl rfl rfl)) ?_ | refine sw_step rfl rfl rfl (OpR.q (q_extract rfl rfl (nextV_0 _))) ?_
      refine sw_step rfl rfl rfl (OpR.q (q_assign rfl rfl)) ?_
      refine sw_step rfl rfl rfl (OpR.q (q_assign rfl rfl)) ?_
      refine sw_nil ?_
      refine post_then ?_
      refine cw_seq ?_
      refine cw_seq ?_
      -- region 10
      refine cw_region ?_
      refine sw_step rfl rfl rfl (OpR.q (q_move rfl rfl)) ?_
      first | refine sw_step rfl rfl rfl (OpR.q (q_len rfl (.cons rfl inferInstance (.nil)) (by first | exact fun w hw => Stb.cl (by assumption) hw | exact fun w hw => rd_own hw (by first | assumption | (repeat first | exact .head _ | apply List.Mem.tail)) | assumption))) ?_ | refine sw_step rfl rfl rfl (OpR.q (q_lenV rfl (.cons rfl inferInstance (.nil)))) ?_
      refine sw_step rfl rfl rfl (OpR.q (q_gtr rfl rfl rfl)) ?_
      refine sw_nil ?_
      refine post_then ?_
      -- STOP at: cond
      refine cw_cond rfl (fun h6 => ?_) (fun h6 => ?_)
      · skip
        have h50 : 50 < p.length := by simp only [decide_eq_true_eq] at h6; omega
        have hE : holmE p num den = 4 := by simp only [holmE]; rw [if_pos h50]
        have hn : lh = [] := by rw [hE] at hy; simpa using hy
        rw [hE]; subst hn
        refine cw_seq ?_
        -- region 11
        refine cw_region ?_
        refine sw_step rfl rfl rfl (OpR.q (q_move rfl rfl)) ?_
        refine sw_step rfl rfl rfl (OpR.q (q_eql rfl rfl rfl)) ?_
        refine sw_step rfl rfl rfl (OpR.q (q_move rfl rfl)) ?_
        refine sw_step rfl rfl rfl (OpR.q (q_move rfl rfl)) ?_
        first | refine sw_step rfl rfl rfl (OpR.q (q_len rfl (.cons rfl inferInstance (.nil)) (by first | exact fun w hw => Stb.cl (by assumption) hw | exact fun w hw => rd_own hw (by first | assumption | (repeat first | exact .head _ | apply List.Mem.tail)) | assumption))) ?_ | refine sw_step rfl rfl rfl (OpR.q (q_lenV rfl (.cons rfl inferInstance (.nil)))) ?_
        refine sw_step rfl rfl rfl (OpR.q (q_eql rfl rfl rfl)) ?_
        refine sw_step rfl rfl rfl (OpR.q (q_and2 rfl rfl rfl)) ?_
        refine sw_step rfl rfl rfl (OpR.q (q_move rfl rfl)) ?_
        refine sw_step rfl rfl rfl (q_call (CanCall.mk Try.call15) rfl (.nil) (fun _ w hw => callq hw (known_spec w))) ?_
        refine sw_step rfl rfl rfl (OpR.q (q_and2 rfl rfl rfl)) ?_
        refine sw_step rfl rfl rfl (OpR.q (q_assign rfl rfl)) ?_
        refine sw_nil ?_
        refine post_then ?_
        refine cw_ret ?_
        refine post_then_r ?_
        refine post_ret1 rfl (resOk_tmp rfl) ?_
        exact fun w' hw => ⟨by simp, (fun w h => Cl.sel (by (repeat first | exact Sel.nil _ | refine Sel.take 0 rfl ?_ | refine Sel.take 1 rfl ?_ | refine Sel.take 2 rfl ?_ | refine Sel.take 3 rfl ?_ | refine Sel.take 4 rfl ?_ | refine Sel.take 5 rfl ?_ | refine Sel.take 6 rfl ?_ | refine Sel.take 7 rfl ?_ | refine Sel.take 8 rfl ?_ | refine Sel.take 9 rfl ?_ | refine Sel.take 10 rfl ?_ | refine Sel.take 11 rfl ?_)) w h) _ hw⟩
      · skip
        have h50 : p.length ≤ 50 := by simp only [decide_eq_false_iff_not] at h6; omega
        refine cw_skip ?_
        refine post_then ?_
        refine cw_seq ?_
        -- region 12
        refine cw_region ?_
        refine sw_step rfl rfl rfl (OpR.q (q_move rfl rfl)) ?_
        refine sw_step rfl rfl rfl (OpR.q (q_gtr rfl rfl rfl)) ?_
        refine sw_step rfl rfl rfl (OpR.q (q_move rfl rfl)) ?_
        refine sw_step rfl rfl rfl (OpR.q (q_move rfl rfl)) ?_
        refine sw_step rfl rfl rfl (OpR.q (q_move rfl rfl)) ?_
        refine sw_step rfl rfl rfl (OpR.q (q_lss rfl rfl rfl)) ?_
        refine sw_step rfl rfl rfl (OpR.q (q_and2 rfl rfl rfl)) ?_
        refine sw_step rfl rfl rfl (OpR.q (q_move rfl rfl)) ?_
        refine sw_step rfl rfl rfl (OpR.q (q_move rfl rfl)) ?_
        refine sw_step rfl rfl rfl (OpR.q (q_leq rfl rfl rfl)) ?_
        refine sw_step rfl rfl rfl (OpR.q (q_and2 rfl rfl rfl)) ?_
        refine sw_step rfl rfl rfl (OpR.q (q_assign rfl rfl)) ?_
        refine sw_nil ?_
        refine post_then ?_
        refine cw_seq ?_
        refine cw_seq ?_
        -- region 13
        refine cw_region ?_
        refine sw_step rfl rfl rfl (OpR.q (q_assign rfl rfl)) ?_
        refine sw_nil ?_
        refine post_then ?_
        refine cw_block ?_
        -- STOP at: loop
        refine cw_loop (S := Nat) (fun k => [(2, [], sp.v), (3, [], .int .i64 num), (4, [], .int .i64 den), (13, [], sh.v), (14, [], .int .i64 (holmE p num den)), (15, [], .bool (rightTo p num den k)), (16, [], .int .i64 k)]) (fun _ => Cl w [] [ownL 4 sh.v lh]) (fun k => k ≤ p.length) (fun k => p.length - k) 0 (Nat.zero_le _) (Le.cons rfl (Le.cons rfl (Le.cons rfl (Le.cons rfl (Le.cons rfl (Le.cons' rfl (by simp [rightTo]) (Le.cons rfl Le.nil))))))) (fun w h => Cl.sel (by (repeat first | exact Sel.nil _ | refine Sel.take 0 rfl ?_ | refine Sel.take 1 rfl ?_ | refine Sel.take 2 rfl ?_ | refine Sel.take 3 rfl ?_ | refine Sel.take 4 rfl ?_ | refine Sel.take 5 rfl ?_ | refine Sel.take 6 rfl ?_ | refine Sel.take 7 rfl ?_ | refine Sel.take 8 rfl ?_ | refine Sel.take 9 rfl ?_ | refine Sel.take 10 rfl ?_ | refine Sel.take 11 rfl ?_)) w h) ?_
        intro k hk
        refine cw_seq ?_
        refine cw_seq ?_
        -- region 14
        refine cw_region ?_
        refine sw_step rfl rfl rfl (OpR.q (q_move rfl rfl)) ?_
        refine sw_step rfl rfl rfl (OpR.q (q_move rfl rfl)) ?_
        first | refine sw_step rfl rfl rfl (OpR.q (q_len rfl (.cons rfl inferInstance (.nil)) (by first | exact fun w hw => Stb.cl (by assumption) hw | exact fun w hw => rd_own hw (by first | assumption | (repeat first | exact .head _ | apply List.Mem.tail)) | assumption))) ?_ | refine sw_step rfl rfl rfl (OpR.q (q_lenV rfl (.cons rfl inferInstance (.nil)))) ?_
        refine sw_step rfl rfl rfl (OpR.q (q_lss rfl rfl rfl)) ?_
        refine sw_nil ?_
        refine post_then ?_
        -- STOP at: cond
        refine cw_cond rfl (fun h7 => ?_) (fun h7 => ?_)
        · skip
          have hk' : k < p.length := by simp only [decide_eq_true_eq] at h7; omega
          refine cw_skip ?_
          refine post_then ?_
          refine cw_seq ?_
          refine cw_block ?_
          -- region 16
          refine cw_region ?_
          refine sw_step rfl rfl rfl (OpR.q (q_move rfl rfl)) ?_
          refine sw_step rfl rfl rfl (OpR.q (q_move rfl rfl)) ?_
          refine sw_step rfl rfl rfl (OpR.q (q_move rfl rfl)) ?_
          refine sw_step rfl rfl rfl (OpR.q (q_move rfl rfl)) ?_
          first | refine sw_step rfl rfl rfl (OpR.q (q_indexN rfl rfl rfl (by first | exact fun w hw => Stb.cl (by assumption) hw | exact fun w hw => rd_own hw (by first | assumption | (repeat first | exact .head _ | apply List.Mem.tail)) | assumption) (by intro hc; first | omega | (simp only [List.length_set, List.length_append, List.length_cons, List.length_nil, List.length_replicate, List.length_take, List.length_drop, List.length_map]; omega) | (simp only [AllT.iff, List.all_cons, List.all_nil, id, Bool.and_eq_true, Bool.not_eq_true', decide_eq_true_eq, decide_eq_false_iff_not, and_true] at hc; first | omega | (simp only [List.length_set, List.length_append, List.length_cons, List.length_nil, List.length_replicate, List.length_take, List.length_drop, List.length_map]; omega)) | (exfalso; simp_all [AllT]; done)))) ?_ | refine sw_step rfl rfl rfl (OpR.q (q_index rfl rfl rfl (by first | exact fun w hw => Stb.cl (by assumption) hw | exact fun w hw => rd_own hw (by first | assumption | (repeat first | exact .head _ | apply List.Mem.tail)) | assumption) (by intro hc; first | omega | (simp only [List.length_set, List.length_append, List.length_cons, List.length_nil, List.length_replicate, List.length_take, List.length_drop, List.length_map]; omega) | (simp only [AllT.iff, List.all_cons, List.all_nil, id, Bool.and_eq_true, Bool.not_eq_true', decide_eq_true_eq, decide_eq_false_iff_not, and_true] at hc; first | omega | (simp only [List.length_set, List.length_append, List.length_cons, List.length_nil, List.length_replicate, List.length_take, List.length_drop, List.length_map]; omega)) | (exfalso; simp_all [AllT]; done)))) ?_
          first | refine sw_step rfl rfl rfl (OpR.q (q_loadC rfl rfl (by first | assumption | (repeat first | exact .head _ | apply List.Mem.tail)) rfl)) ?_ | refine sw_step rfl rfl rfl (OpR.q (q_loadA rfl rfl (by first | assumption | (repeat first | exact .head _ | apply List.Mem.tail)) rfl)) ?_ | refine sw_step rfl rfl rfl (OpR.q (q_loadEl rfl rfl rfl (by first | exact fun w hw => Stb.cl (by assumption) hw | exact fun w hw => rd_own hw (by first | assumption | (repeat first | exact .head _ | apply List.Mem.tail)) | assumption) (by intro hc; first | omega | (simp only [List.length_set, List.length_append, List.length_cons, List.length_nil, List.length_replicate, List.length_take, List.length_drop, List.length_map]; omega) | (simp only [AllT.iff, List.all_cons, List.all_nil, id, Bool.and_eq_true, Bool.not_eq_true', decide_eq_true_eq, decide_eq_false_iff_not, and_true] at hc; first | omega | (simp only [List.length_set, List.length_append, List.length_cons, List.length_nil, List.length_replicate, List.length_take, List.length_drop, List.length_map]; omega)) | (exfalso; simp_all [AllT]; done)))) ?_ | refine sw_step rfl rfl rfl (OpR.q (q_loadF rfl rfl rfl (by first | exact fun w hw => Stb.cl (by assumption) hw | exact fun w hw => rd_own hw (by first | assumption | (repeat first | exact .head _ | apply List.Mem.tail)) | assumption) (by intro hc; first | omega | (simp only [List.length_set, List.length_append, List.length_cons, List.length_nil, List.length_replicate, List.length_take, List.length_drop, List.length_map]; omega) | (simp only [AllT.iff, List.all_cons, List.all_nil, id, Bool.and_eq_true, Bool.not_eq_true', decide_eq_true_eq, decide_eq_false_iff_not, and_true] at hc; first | omega | (simp only [List.length_set, List.length_append, List.length_cons, List.length_nil, List.length_replicate, List.length_take, List.length_drop, List.length_map]; omega)) | (exfalso; simp_all [AllT]; done)) rfl)) ?_ | refine sw_step rfl rfl rfl (OpR.q (q_loadS rfl rfl (fun w hw => Stb.cl (by assumption) hw) rfl)) ?_
          refine sw_step rfl rfl rfl (q_call (CanCall.mk Try.call19) rfl (.cons rfl inferInstance (.nil)) (fun _ w hw => callq hw (refChance_q _ w))) ?_
          refine sw_step rfl rfl rfl (OpR.q (q_and2 rfl rfl rfl)) ?_
          refine sw_step rfl rfl rfl (OpR.q (q_assign rfl rfl)) ?_
          refine sw_nil ?_
          refine post_blk ?_
          refine post_then ?_
          -- region 15
          refine cw_region ?_
          refine sw_step rfl rfl rfl (OpR.q (q_move rfl rfl)) ?_
          refine sw_step rfl rfl rfl (OpR.q (q_add rfl rfl rfl (by intro hc; first | omega | (simp only [List.length_set, List.length_append, List.length_cons, List.length_nil, List.length_replicate, List.length_take, List.length_drop, List.length_map]; omega) | (simp only [AllT.iff, List.all_cons, List.all_nil, id, Bool.and_eq_true, Bool.not_eq_true', decide_eq_true_eq, decide_eq_false_iff_not, and_true] at hc; first | omega | (simp only [List.length_set, List.length_append, List.length_cons, List.length_nil, List.length_replicate, List.length_take, List.length_drop, List.length_map]; omega)) | (exfalso; simp_all [AllT]; done)))) ?_
          refine sw_step rfl rfl rfl (OpR.q (q_assign rfl rfl)) ?_
          refine sw_nil ?_
          exact post_next (k + 1) (Le.cons rfl (Le.cons rfl (Le.cons rfl (Le.cons rfl (Le.cons rfl (Le.cons' rfl (by rw [rightTo_succ hk']) (Le.cons rfl Le.nil))))))) (fun _ h => h) (by omega) (by omega)
        · skip
          have hk' : k = p.length := by simp only [decide_eq_false_iff_not] at h7; omega
          subst hk'
          obtain ⟨r1, r2⟩ := rightTo_all (num := num) (den := den) h50
          refine cw_exit ?_
          refine post_then_x ?_
          refine post_then_x ?_
          refine post_blk_eq ?_
          refine post_then ?_
          refine cw_seq ?_
          refine cw_seq ?_
          -- region 17
          refine cw_region ?_
          refine sw_step rfl rfl rfl (OpR.q (q_move rfl rfl)) ?_
          refine sw_step rfl rfl rfl (OpR.q (q_not rfl rfl)) ?_
          refine sw_nil ?_
          refine post_then ?_
          -- STOP at: cond
          refine cw_cond rfl (fun h8 => ?_) (fun h8 => ?_)
          · skip
            have hE : holmE p num den = 2 := r2 (by simpa using h8)
            have hn : lh = [] := by rw [hE] at hy; simpa using hy
            rw [hE]; subst hn
            refine cw_seq ?_
            -- region 18
            refine cw_region ?_
            refine sw_step rfl rfl rfl (OpR.q (q_move rfl rfl)) ?_
            refine sw_step rfl rfl rfl (OpR.q (q_eql rfl rfl rfl)) ?_
            refine sw_step rfl rfl rfl (OpR.q (q_move rfl rfl)) ?_
            refine sw_step rfl rfl rfl (OpR.q (q_move rfl rfl)) ?_
            first | refine sw_step rfl rfl rfl (OpR.q (q_len rfl (.cons rfl inferInstance (.nil)) (by first | exact fun w hw => Stb.cl (by assumption) hw | exact fun w hw => rd_own hw (by first | assumption | (repeat first | exact .head _ | apply List.Mem.tail)) | assumption))) ?_ | refine sw_step rfl rfl rfl (OpR.q (q_lenV rfl (.cons rfl inferInstance (.nil)))) ?_
            refine sw_step rfl rfl rfl (OpR.q (q_eql rfl rfl rfl)) ?_
            refine sw_step rfl rfl rfl (OpR.q (q_and2 rfl rfl rfl)) ?_
            refine sw_step rfl rfl rfl (OpR.q (q_move rfl rfl)) ?_
            refine sw_step rfl rfl rfl (q_call (CanCall.mk Try.call15) rfl (.nil) (fun _ w hw => callq hw (known_spec w))) ?_
            refine sw_step rfl rfl rfl (OpR.q (q_and2 rfl rfl rfl)) ?_
            refine sw_step rfl rfl rfl (OpR.q (q_assign rfl rfl)) ?_
            refine sw_nil ?_
            refine post_then ?_
            refine cw_ret ?_
            refine post_then_r ?_
            refine post_ret1 rfl (resOk_tmp rfl) ?_
            exact fun w' hw => ⟨by simp, (fun w h => Cl.sel (by (repeat first | exact Sel.nil _ | refine Sel.take 0 rfl ?_ | refine Sel.take 1 rfl ?_ | refine Sel.take 2 rfl ?_ | refine Sel.take 3 rfl ?_ | refine Sel.take 4 rfl ?_ | refine Sel.take 5 rfl ?_ | refine Sel.take 6 rfl ?_ | refine Sel.take 7 rfl ?_ | refine Sel.take 8 rfl ?_ | refine Sel.take 9 rfl ?_ | refine Sel.take 10 rfl ?_ | refine Sel.take 11 rfl ?_)) w h) _ hw⟩
          · skip
            obtain ⟨hE, h3, h4⟩ := r1 (by simpa using h8)
            have hok : ∀ c ∈ p, okC c ∧ 1 ≤ c.all := fun c hc => okC_of (by
              have := List.any_eq_false.1 h4 c hc
              simpa using this)
            rw [hE, if_pos rfl] at hy
            rw [hE]
            refine cw_skip ?_
            refine post_then ?_
            refine cw_seq ?_
            -- region 19
            refine cw_region ?_
            refine sw_step rfl rfl rfl (OpR.q (q_move rfl rfl)) ?_
            refine sw_step rfl rfl rfl (OpR.q (q_eql rfl rfl rfl)) ?_
            refine sw_step rfl rfl rfl (OpR.q (q_move rfl rfl)) ?_
            refine sw_step rfl rfl rfl (OpR.q (q_move rfl rfl)) ?_
            refine sw_step rfl rfl rfl (OpR.q (q_move rfl rfl)) ?_
            refine sw_step rfl rfl rfl (OpR.q (q_move rfl rfl)) ?_
            refine sw_step rfl rfl rfl (OpR.q (q_move rfl rfl)) ?_
            -- STOP at: t125 := call {callee=(value F21), args=[t122, t123, t124], argTypes=[22, 3, 3]} :30 ?<2, true>
            refine sw_xc rfl (by first | (simp [AllT]; done) | simp [AllT, *]) rfl rfl (e_callc (CanCall.mk Try.call21) rfl (.cons rfl inferInstance (.cons rfl inferInstance (.cons rfl inferInstance (.nil)))) (fun w hw => refHolm_spec sp p num den w (stb_arg hw hp) h50 hok h3)) (fun y125 => ?_)
            refine sw_imp fun hy2 => ?_
            obtain ⟨sq, lq⟩ := y125
            dsimp only at hy2 ⊢
            have hsame : lq = lh := holm_one hok (by omega) hy2 hy
            subst hsame
            refine sw_step rfl rfl rfl (q_call (CanCall.mk Try.call20) rfl (.cons rfl inferInstance (.cons rfl inferInstance (.nil))) (fun _ w hw => callq hw (sameB_spec _ _ _ w (stb_own hw (by first | assumption | (repeat first | exact .head _ | apply List.Mem.tail))) (stb_own hw (by first | assumption | (repeat first | exact .head _ | apply List.Mem.tail)))))) ?_
            refine sw_step rfl rfl rfl (OpR.q (q_and2 rfl rfl rfl)) ?_
            refine sw_step rfl rfl rfl (OpR.q (q_move rfl rfl)) ?_
            refine sw_step rfl rfl rfl (q_call (CanCall.mk Try.call15) rfl (.nil) (fun _ w hw => callq hw (known_spec w))) ?_
            refine sw_step rfl rfl rfl (OpR.q (q_and2 rfl rfl rfl)) ?_
            refine sw_step rfl rfl rfl (OpR.q (q_assign rfl rfl)) ?_
            refine sw_nil ?_
            refine post_then ?_
            refine cw_ret ?_
            refine post_ret1 rfl (resOk_tmp rfl) ?_
            exact fun w' hw => ⟨by simp, (fun w h => Cl.sel (by (repeat first | exact Sel.nil _ | refine Sel.take 0 rfl ?_ | refine Sel.take 1 rfl ?_ | refine Sel.take 2 rfl ?_ | refine Sel.take 3 rfl ?_ | refine Sel.take 4 rfl ?_ | refine Sel.take 5 rfl ?_ | refine Sel.take 6 rfl ?_ | refine Sel.take 7 rfl ?_ | refine Sel.take 8 rfl ?_ | refine Sel.take 9 rfl ?_ | refine Sel.take 10 rfl ?_ | refine Sel.take 11 rfl ?_)) w h) _ hw⟩
end Go.Proofs.Ytekikelejncgeaa
