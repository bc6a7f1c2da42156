import Derived.Test.YtekikelejncgeaaT
import Derived.Test.YtekikelejncgeaaSxMore
import Derived.Test.YtekikelejncgeaaSxMap2
set_option autoImplicit false
set_option linter.unusedSimpArgs false
set_option linter.unusedVariables false
set_option maxRecDepth 100000
namespace Go.Proofs.Ytekikelejncgeaa
open Go.Sx
open Enc (enc val)

/-! ### balanced plans: what is counted -/
def bump (f : P2 → Int) (q : P2) : P2 → Int := fun x => if x = q then f x + 1 else f x
def rowF (row : List Int) (f : P2 → Int) : Nat → P2 → Int
  | 0 => f
  | k + 1 => bump (rowF row f k) ⟨nth row k, k⟩
def rowG (row : List Int) (g : P2 → Int) : Nat → P2 → Int
  | 0 => g
  | k + 1 => if 0 < k then bump (rowG row g k) ⟨nth row (k - 1), nth row k⟩ else rowG row g k
def planF (plan : List (List Int)) (n : Nat) : Nat → P2 → Int
  | 0 => fun _ => 0
  | i + 1 => rowF (nth plan i) (planF plan n i) n
def planG (plan : List (List Int)) (n : Nat) : Nat → P2 → Int
  | 0 => fun _ => 0
  | i + 1 => rowG (nth plan i) (planG plan n i) n
def seenTo (row : List Int) (n : Nat) : Nat → List Bool
  | 0 => List.replicate n false
  | k + 1 => (seenTo row n k).set (nth row k).toNat true
theorem seenTo_len (row : List Int) (n : Nat) : ∀ k, (seenTo row n k).length = n
  | 0 => by simp [seenTo]
  | k + 1 => by simp only [seenTo, List.length_set]; exact seenTo_len row n k
def OkTo (row : List Int) (n k : Nat) : Prop := ∀ j, j < k → (0 ≤ nth row j ∧ nth row j ≤ (n : Int) - 1) ∧ nth (seenTo row n j) (nth row j).toNat = false
def GoodRow (n : Nat) (row : List Int) : Prop := row.length = n ∧ OkTo row n n
structure Bal (plan : List (List Int)) (n : Int) : Prop where
  n1 : 1 ≤ n ∧ n ≤ 60
  len : 1 ≤ plan.length ∧ plan.length ≤ 1000
  rows : ∀ i, i < plan.length → GoodRow n.toNat (nth plan i)
  places : ∀ x y : Nat, x < n.toNat → y < n.toNat → planF plan n.toNat plan.length ⟨x, y⟩ = planF plan n.toNat plan.length ⟨0, 0⟩
  pairs : ∀ x y : Nat, x < n.toNat → y < n.toNat → x ≠ y → planG plan n.toNat plan.length ⟨x, y⟩ = planG plan n.toNat plan.length ⟨0, 1⟩
open Classical in
noncomputable def balB (plan : List (List Int)) (n : Int) : Bool := decide (Bal plan n)
theorem balB_no {plan : List (List Int)} {n : Int} (h : ¬ Bal plan n) : balB plan n = false := by simp [balB, h]
theorem balB_yes {plan : List (List Int)} {n : Int} (h : Bal plan n) : balB plan n = true := by simp [balB, h]
theorem bump_bd {f : P2 → Int} {B : Int} (h : ∀ q, 0 ≤ f q ∧ f q ≤ B) (p : P2) : ∀ q, 0 ≤ bump f p q ∧ bump f p q ≤ B + 1 := fun q => by
  have := h q; unfold bump; split <;> omega
theorem rowF_bd {row : List Int} {f : P2 → Int} {B : Int} (h : ∀ q, 0 ≤ f q ∧ f q ≤ B) : ∀ k q, 0 ≤ rowF row f k q ∧ rowF row f k q ≤ B + k
  | 0, q => by have := h q; simp only [rowF]; omega
  | k + 1, q => by
    have := bump_bd (rowF_bd (row := row) h k) ⟨nth row k, k⟩ q
    simp only [rowF]; omega
theorem rowG_bd {row : List Int} {f : P2 → Int} {B : Int} (h : ∀ q, 0 ≤ f q ∧ f q ≤ B) : ∀ k q, 0 ≤ rowG row f k q ∧ rowG row f k q ≤ B + k
  | 0, q => by have := h q; simp only [rowG]; omega
  | k + 1, q => by
    have h1 := rowG_bd (row := row) h k
    have h2 := bump_bd h1 ⟨nth row (k - 1), nth row k⟩ q
    have h3 := h1 q
    simp only [rowG]
    split <;> omega
theorem planF_bd (plan : List (List Int)) (n : Nat) : ∀ (i : Nat) q, 0 ≤ planF plan n i q ∧ planF plan n i q ≤ (n : Int) * i
  | 0, q => by simp [planF]
  | i + 1, q => by
    have := rowF_bd (row := nth plan i) (planF_bd plan n i) n q
    simp only [planF]
    rw [show (n : Int) * ((i + 1 : Nat) : Int) = n * i + n by rw [Int.natCast_add, Int.mul_add]; simp]
    exact this
theorem planG_bd (plan : List (List Int)) (n : Nat) : ∀ (i : Nat) q, 0 ≤ planG plan n i q ∧ planG plan n i q ≤ (n : Int) * i
  | 0, q => by simp [planG]
  | i + 1, q => by
    have := rowG_bd (row := nth plan i) (planG_bd plan n i) n q
    simp only [planG]
    rw [show (n : Int) * ((i + 1 : Nat) : Int) = n * i + n by rw [Int.natCast_add, Int.mul_add]; simp]
    exact this
theorem pl_bd {n i : Nat} (hn : n ≤ 60) (hi : i ≤ 1000) : (n : Int) * i ≤ 60000 := by
  have := Int.mul_le_mul (show (n : Int) ≤ 60 by omega) (show (i : Int) ≤ 1000 by omega) (by omega) (by omega)
  omega

theorem within_dec (x lo hi : Int) (w : World) : Calls Try.prog 52 #[.int .i64 x, .int .i64 lo, .int .i64 hi] w fun e w' => e = .returned (.bool (decide (lo ≤ x) && decide (x ≤ hi))) ∧ Cl w [] [] w' := within_spec x lo hi w
theorem refIn_dec (x lo hi : Int) (w : World) : Calls Try.prog 60 #[.int .i64 x, .int .i64 lo, .int .i64 hi] w fun e w' => e = .returned (.bool (decide (lo ≤ x) && decide (x ≤ hi))) ∧ Cl w [] [] w' := refIn_spec x lo hi w
/-! ### house.Balanced -/
instance : KeyT Try.prog 106 P2 := by
  obtain ⟨i, v, hi, _⟩ := (inferInstance : InfoT Try.prog 3 1 8 [.int .i64 0]).info
  exact keyT_pair Try.underlying106 Try.underlying3 hi (by kernel_rfl) Try.isAgg3 Try.sizeOf3
instance : ArT Try.prog 106 1 [.int .i64 0, .int .i64 0] := ⟨fun _ => by kernel_rfl⟩
/-- What a draw may rely on. -/
def SB (w0 : World) (b : Nat) (f : P2 → Int) (w : World) : Prop := Chg [] w0 w ∧ RdF (0 : Int) b f w
theorem sb_own {w0 w : World} {H : List Asn} {b : Nat} {l : List (P2 × Int)} {f : P2 → Int} (h : ∀ k, getZ 0 l k = f k) (hm : mpA b l ∈ H) (hw : Cl w0 [] H w) : SB w0 b f w := ⟨hw.1, l, rdm_own hw hm, h⟩
theorem sb_raw {w0 w : World} {H : List Asn} {b : Nat} {l : List (P2 × Int)} {f : P2 → Int} {k : P2} {X : EntX P2 Int} (h : ∀ k, getZ 0 l k = f k) (hX : EntXok 0 l k X) (hm : obj b (mapO X.es X.clock) ∈ H) (hw : Cl w0 [] H w) : SB w0 b f w :=
  ⟨hw.1, kvs X.es, rdm_raw hw hm hX.ok, fun q => by rw [hX.get]; exact h q⟩
theorem sb_rd {w0 : World} {b : Nat} {f : P2 → Int} {v : Value} {l : List Int} (h : Stb w0 [] (RdL v l)) : ∀ w, SB w0 b f w → RdL v l w := fun w hw => h.stb w hw.1
theorem bump_get {l : List (P2 × Int)} {f : P2 → Int} (h : ∀ k, getZ 0 l k = f k) (q : P2) : ∀ k, getZ 0 (upd l q (f q + 1)) k = bump f q k := fun k => by
  rw [getZ_upd]
  unfold bump
  by_cases hk : k = q
  · rw [if_pos hk, if_pos hk, hk]
  · rw [if_neg hk, if_neg hk, h]
theorem bal_spec (lv : Value) (vs : List SlV) (plan : List (List Int)) (n : Int) (w : World) (hl : Stb w [] (RdL lv vs)) (hn : vs.length = plan.length) (hr : ∀ i, i < plan.length → Stb w [] (RdL (nth vs i).v (nth plan i))) :
    Calls Try.prog 41 #[lv, .int .i64 n] w fun e w' => e = .returned (.bool (balB plan n)) ∧ Cl w [] [] w' := by
  have hL := rd_len hl.here
  refine calls_cw (vs := [_, _]) Try.func41 rfl Try.ntmps41 rfl (Cl.start0 w) ?_
  refine cw_seq ?_
  -- region 0
  refine cw_region ?_
  refine sw_step rfl rfl rfl (OpR.q (q_assign rfl rfl)) ?_
  refine sw_nil ?_
  refine post_then ?_
  refine cw_seq ?_
  refine cw_seq ?_
  -- region 1
  refine cw_region ?_
  refine sw_step rfl rfl rfl (OpR.q (q_move rfl rfl)) ?_
  refine sw_step rfl rfl rfl (q_call (CanCall.mk Try.call52) rfl (.cons rfl inferInstance (.cons rfl inferInstance (.cons rfl inferInstance (.nil)))) (fun _ w hw => callq hw (within_dec _ _ _ w))) ?_
  refine sw_step rfl rfl rfl (OpR.q (q_not rfl rfl)) ?_
  refine sw_step rfl rfl rfl (OpR.q (q_move rfl rfl)) ?_
  refine sw_step rfl rfl rfl (OpR.q (q_move rfl rfl)) ?_
  first | refine sw_step rfl rfl rfl (OpR.q (q_len rfl (.cons rfl inferInstance (.nil)) (by first | exact fun w hw => Stb.cl (by assumption) hw | exact fun w hw => rd_own hw (by first | assumption | (repeat first | exact .head _ | apply List.Mem.tail)) | assumption))) ?_ | refine sw_step rfl rfl rfl (OpR.q (q_lenV rfl (.cons rfl inferInstance (.nil)))) ?_
  refine sw_step rfl rfl rfl (q_call (CanCall.mk Try.call52) rfl (.cons rfl inferInstance (.cons rfl inferInstance (.cons rfl inferInstance (.nil)))) (fun _ w hw => callq hw (within_dec _ _ _ w))) ?_
  refine sw_step rfl rfl rfl (OpR.q (q_not rfl rfl)) ?_
  refine sw_step rfl rfl rfl (OpR.q (q_or2 rfl rfl rfl)) ?_
  refine sw_nil ?_
  refine post_then ?_
  -- STOP at: cond
  refine cw_cond rfl (fun h => ?_) (fun h => ?_)
  · skip
    have h1 : ¬ Bal plan n := fun hb => by
      have := hb.n1; have := hb.len
      simp only [Bool.or_eq_true, Bool.not_eq_true', Bool.and_eq_false_iff, decide_eq_false_iff_not] at h
      omega
    refine cw_seq ?_
    -- region 2
    refine cw_region ?_
    refine sw_step rfl rfl rfl (OpR.q (q_assign rfl rfl)) ?_
    refine sw_nil ?_
    refine post_then ?_
    refine cw_ret ?_
    refine post_then_r ?_
    refine post_ret1 rfl (resOk_tmp rfl) ?_
    exact fun w' hw => ⟨by rw [balB_no h1], hw⟩
  · skip
    have h1 : (1 ≤ n ∧ n ≤ 60) ∧ (1 ≤ plan.length ∧ plan.length ≤ 1000) := by
      simp only [Bool.or_eq_false_iff, Bool.not_eq_false', Bool.and_eq_true, decide_eq_true_eq] at h
      omega
    obtain ⟨h1, h2⟩ := h1
    obtain ⟨N, rfl⟩ := Int.eq_ofNat_of_zero_le (show 0 ≤ n by omega)
    have hN : 1 ≤ N ∧ N ≤ 60 := by omega
    refine cw_skip ?_
    refine post_then ?_
    refine cw_seq ?_
    -- region 3
    refine cw_region ?_
    -- STOP at: t23  := makeMap 105 none :105
    refine sw_x rfl rfl rfl (e_makeMap (κ := P2) (ν := Int) rfl) (fun b23 => ?_)
    -- STOP at: t24  := makeMap 105 none :105
    refine sw_x rfl rfl rfl (e_makeMap (κ := P2) (ν := Int) rfl) (fun b24 => ?_)
    refine sw_step rfl rfl rfl (OpR.q (q_assign rfl rfl)) ?_
    refine sw_step rfl rfl rfl (OpR.q (q_assign rfl rfl)) ?_
    refine sw_nil ?_
    refine post_then ?_
    refine cw_seq ?_
    refine cw_seq ?_
    -- region 4
    refine cw_region ?_
    refine sw_step rfl rfl rfl (OpR.q (q_move rfl rfl)) ?_
    first | refine sw_step rfl rfl rfl (OpR.q (q_len rfl (.cons rfl inferInstance (.nil)) (by first | exact fun w hw => Stb.cl (by assumption) hw | exact fun w hw => rd_own hw (by first | assumption | (repeat first | exact .head _ | apply List.Mem.tail)) | assumption))) ?_ | refine sw_step rfl rfl rfl (OpR.q (q_lenV rfl (.cons rfl inferInstance (.nil)))) ?_
    refine sw_step rfl rfl rfl (OpR.q (q_move rfl rfl)) ?_
    refine sw_nil ?_
    refine post_then ?_
    refine cw_block ?_
    -- STOP at: loop
    refine cw_loop (S := Nat × List (P2 × Int) × List (P2 × Int)) (fun y => [(1, [], .int .i64 N), (5, [], .map (some b23)), (6, [], .map (some b24)), (25, [], lv), (26, [], .int .i64 plan.length), (27, [], .int .i64 y.1)])
      (fun y => Cl w [] [mpA b24 y.2.2, mpA b23 y.2.1]) (fun y => y.1 ≤ plan.length ∧ (∀ k, getZ 0 y.2.1 k = planF plan N y.1 k) ∧ (∀ k, getZ 0 y.2.2 k = planG plan N y.1 k) ∧ ∀ i, i < y.1 → GoodRow N (nth plan i)) (fun y => plan.length - y.1) (0, [], []) ⟨Nat.zero_le _, fun k => rfl, fun k => rfl, fun i hi => by omega⟩ (Le.cons rfl (Le.cons rfl (Le.cons rfl (Le.cons rfl (Le.cons' rfl (by congr 1; omega) (Le.cons rfl Le.nil)))))) (fun w h => Cl.sel (by (repeat first | exact Sel.nil _ | refine Sel.take 0 rfl ?_ | refine Sel.take 1 rfl ?_ | refine Sel.take 2 rfl ?_ | refine Sel.take 3 rfl ?_ | refine Sel.take 4 rfl ?_ | refine Sel.take 5 rfl ?_ | refine Sel.take 6 rfl ?_ | refine Sel.take 7 rfl ?_ | refine Sel.take 8 rfl ?_ | refine Sel.take 9 rfl ?_ | refine Sel.take 10 rfl ?_ | refine Sel.take 11 rfl ?_)) w h) ?_
    rintro ⟨i, l1, l2⟩ ⟨hi, hf, hg, hgood⟩
    dsimp only at hi hf hg hgood ⊢
    have hFb := planF_bd plan N i
    have hGb := planG_bd plan N i
    have hpl := pl_bd hN.2 (i := i) (by omega)
    refine cw_seq ?_
    -- region 5
    refine cw_region ?_
    refine sw_step rfl rfl rfl (OpR.q (q_lss rfl rfl rfl)) ?_
    refine sw_nil ?_
    refine post_then ?_
    refine cw_seq ?_
    -- STOP at: cond
    refine cw_cond rfl (fun h3 => ?_) (fun h3 => ?_)
    · skip
      have hi' : i < plan.length := by simp only [decide_eq_true_eq] at h3; omega
      have hrow := hr i hi'
      have hrl := rd_len hrow.here
      generalize hR : nth plan i = row at hrow hrl
      refine cw_skip ?_
      refine post_then ?_
      refine cw_seq ?_
      refine cw_block ?_
      refine cw_seq ?_
      -- region 6
      refine cw_region ?_
      first | refine sw_step rfl rfl rfl (OpR.q (q_indexN rfl rfl rfl (by first | exact fun w hw => Stb.cl (by assumption) hw | exact fun w hw => rd_own hw (by first | assumption | (repeat first | exact .head _ | apply List.Mem.tail)) | assumption) (by intro hc; first | omega | (simp only [List.length_set, List.length_append, List.length_cons, List.length_nil, List.length_replicate, List.length_take, List.length_drop, List.length_map]; omega) | (simp only [AllT.iff, List.all_cons, List.all_nil, id, Bool.and_eq_true, Bool.not_eq_true', Bool.not_eq_false', decide_eq_true_eq, decide_eq_false_iff_not, and_true] at hc; first | omega | (simp only [List.length_set, List.length_append, List.length_cons, List.length_nil, List.length_replicate, List.length_take, List.length_drop, List.length_map]; omega)) | (exfalso; simp_all [AllT]; done)))) ?_ | refine sw_step rfl rfl rfl (OpR.q (q_index rfl rfl rfl (by first | exact fun w hw => Stb.cl (by assumption) hw | exact fun w hw => rd_own hw (by first | assumption | (repeat first | exact .head _ | apply List.Mem.tail)) | assumption) (by intro hc; first | omega | (simp only [List.length_set, List.length_append, List.length_cons, List.length_nil, List.length_replicate, List.length_take, List.length_drop, List.length_map]; omega) | (simp only [AllT.iff, List.all_cons, List.all_nil, id, Bool.and_eq_true, Bool.not_eq_true', Bool.not_eq_false', decide_eq_true_eq, decide_eq_false_iff_not, and_true] at hc; first | omega | (simp only [List.length_set, List.length_append, List.length_cons, List.length_nil, List.length_replicate, List.length_take, List.length_drop, List.length_map]; omega)) | (exfalso; simp_all [AllT]; done)))) ?_
      first | refine sw_step rfl rfl rfl (OpR.q (q_loadC rfl rfl (by first | assumption | (repeat first | exact .head _ | apply List.Mem.tail)) rfl)) ?_ | refine sw_step rfl rfl rfl (OpR.q (q_loadA rfl rfl (by first | assumption | (repeat first | exact .head _ | apply List.Mem.tail)) rfl)) ?_ | refine sw_step rfl rfl rfl (OpR.q (q_loadEl rfl rfl rfl (by first | exact fun w hw => Stb.cl (by assumption) hw | exact fun w hw => rd_own hw (by first | assumption | (repeat first | exact .head _ | apply List.Mem.tail)) | assumption) (by intro hc; first | omega | (simp only [List.length_set, List.length_append, List.length_cons, List.length_nil, List.length_replicate, List.length_take, List.length_drop, List.length_map]; omega) | (simp only [AllT.iff, List.all_cons, List.all_nil, id, Bool.and_eq_true, Bool.not_eq_true', Bool.not_eq_false', decide_eq_true_eq, decide_eq_false_iff_not, and_true] at hc; first | omega | (simp only [List.length_set, List.length_append, List.length_cons, List.length_nil, List.length_replicate, List.length_take, List.length_drop, List.length_map]; omega)) | (exfalso; simp_all [AllT]; done)))) ?_ | refine sw_step rfl rfl rfl (OpR.q (q_loadF rfl rfl rfl (by first | exact fun w hw => Stb.cl (by assumption) hw | exact fun w hw => rd_own hw (by first | assumption | (repeat first | exact .head _ | apply List.Mem.tail)) | assumption) (by intro hc; first | omega | (simp only [List.length_set, List.length_append, List.length_cons, List.length_nil, List.length_replicate, List.length_take, List.length_drop, List.length_map]; omega) | (simp only [AllT.iff, List.all_cons, List.all_nil, id, Bool.and_eq_true, Bool.not_eq_true', Bool.not_eq_false', decide_eq_true_eq, decide_eq_false_iff_not, and_true] at hc; first | omega | (simp only [List.length_set, List.length_append, List.length_cons, List.length_nil, List.length_replicate, List.length_take, List.length_drop, List.length_map]; omega)) | (exfalso; simp_all [AllT]; done)) rfl)) ?_ | refine sw_step rfl rfl rfl (OpR.q (q_loadS rfl rfl (fun w hw => Stb.cl (by assumption) hw) rfl)) ?_
      refine sw_step rfl rfl rfl (OpR.q (q_assign rfl rfl)) ?_
      refine sw_nil ?_
      refine post_then ?_
      refine cw_seq ?_
      refine cw_seq ?_
      -- region 7
      refine cw_region ?_
      refine sw_step rfl rfl rfl (OpR.q (q_move rfl rfl)) ?_
      first | refine sw_step rfl rfl rfl (OpR.q (q_len rfl (.cons rfl inferInstance (.nil)) (by first | exact fun w hw => Stb.cl (by assumption) hw | exact fun w hw => rd_own hw (by first | assumption | (repeat first | exact .head _ | apply List.Mem.tail)) | assumption))) ?_ | refine sw_step rfl rfl rfl (OpR.q (q_lenV rfl (.cons rfl inferInstance (.nil)))) ?_
      refine sw_step rfl rfl rfl (OpR.q (q_move rfl rfl)) ?_
      refine sw_step rfl rfl rfl (OpR.q (q_neq rfl rfl rfl)) ?_
      refine sw_nil ?_
      refine post_then ?_
      -- STOP at: cond
      refine cw_cond rfl (fun h4 => ?_) (fun h4 => ?_)
      · skip
        have h5 : ¬ Bal plan N := fun hb => by
          have := (hb.rows i hi').1
          rw [hR] at this
          simp at h4
          simp at this
          omega
        refine cw_seq ?_
        -- region 8
        refine cw_region ?_
        refine sw_step rfl rfl rfl (OpR.q (q_assign rfl rfl)) ?_
        refine sw_nil ?_
        refine post_then ?_
        refine cw_ret ?_
        refine post_then_r ?_
        refine post_blk_r ?_
        refine post_then_r ?_
        refine post_then_r ?_
        refine post_blk_r ?_
        refine post_then_r ?_
        refine post_ret1 rfl (resOk_tmp rfl) ?_
        exact fun w' hw => ⟨by rw [balB_no h5], (fun w h => Cl.sel (by (repeat first | exact Sel.nil _ | refine Sel.take 0 rfl ?_ | refine Sel.take 1 rfl ?_ | refine Sel.take 2 rfl ?_ | refine Sel.take 3 rfl ?_ | refine Sel.take 4 rfl ?_ | refine Sel.take 5 rfl ?_ | refine Sel.take 6 rfl ?_ | refine Sel.take 7 rfl ?_ | refine Sel.take 8 rfl ?_ | refine Sel.take 9 rfl ?_ | refine Sel.take 10 rfl ?_ | refine Sel.take 11 rfl ?_)) w h) _ hw⟩
      · skip
        have hlen : row.length = N := by simp at h4; omega
        refine cw_skip ?_
        refine post_then ?_
        refine cw_seq ?_
        -- region 9
        refine cw_region ?_
        refine sw_step rfl rfl rfl (OpR.q (q_move rfl rfl)) ?_
        -- STOP at: t36  := makeSlice 30 t35 t35 :30
        refine sw_x rfl rfl rfl (e_make (α := Bool) (zero := false) rfl rfl rfl rfl rfl (by omega) (by omega) (by decide)) (fun s36 => ?_)
        refine sw_step rfl rfl rfl (OpR.q (q_assign rfl rfl)) ?_
        refine sw_nil ?_
        refine post_then ?_
        refine cw_seq ?_
        -- region 10
        refine cw_region ?_
        refine sw_step rfl rfl rfl (OpR.q (q_move rfl rfl)) ?_
        first | refine sw_step rfl rfl rfl (OpR.q (q_len rfl (.cons rfl inferInstance (.nil)) (by first | exact fun w hw => Stb.cl (by assumption) hw | exact fun w hw => rd_own hw (by first | assumption | (repeat first | exact .head _ | apply List.Mem.tail)) | assumption))) ?_ | refine sw_step rfl rfl rfl (OpR.q (q_lenV rfl (.cons rfl inferInstance (.nil)))) ?_
        refine sw_step rfl rfl rfl (OpR.q (q_move rfl rfl)) ?_
        refine sw_nil ?_
        refine post_then ?_
        refine cw_block ?_
        -- STOP at: loop
        refine cw_loop (S := Nat × List (P2 × Int) × List (P2 × Int)) (fun y => [(1, [], .int .i64 N), (5, [], .map (some b23)), (6, [], .map (some b24)), (8, [], (nth vs i).v), (9, [], s36.v), (25, [], lv), (26, [], .int .i64 plan.length), (27, [], .int .i64 i), (37, [], (nth vs i).v), (38, [], .int .i64 N), (39, [], .int .i64 y.1)])
          (fun y => Cl w [] [ownL 4 s36.v (seenTo row N y.1), mpA b24 y.2.2, mpA b23 y.2.1]) (fun y => y.1 ≤ N ∧ (∀ k, getZ 0 y.2.1 k = rowF row (planF plan N i) y.1 k) ∧ (∀ k, getZ 0 y.2.2 k = rowG row (planG plan N i) y.1 k) ∧ OkTo row N y.1) (fun y => N - y.1) (0, l1, l2) ⟨Nat.zero_le _, hf, hg, fun j hj => by simp only at hj; omega⟩ (Le.cons rfl (Le.cons rfl (Le.cons rfl (Le.cons rfl (Le.cons rfl (Le.cons rfl (Le.cons rfl (Le.cons rfl (Le.cons rfl (Le.cons' rfl (by congr 1; omega) (Le.cons rfl Le.nil))))))))))) (fun w h => Cl.sel (by (repeat first | exact Sel.nil _ | refine Sel.take 0 rfl ?_ | refine Sel.take 1 rfl ?_ | refine Sel.take 2 rfl ?_ | refine Sel.take 3 rfl ?_ | refine Sel.take 4 rfl ?_ | refine Sel.take 5 rfl ?_ | refine Sel.take 6 rfl ?_ | refine Sel.take 7 rfl ?_ | refine Sel.take 8 rfl ?_ | refine Sel.take 9 rfl ?_ | refine Sel.take 10 rfl ?_ | refine Sel.take 11 rfl ?_)) w h) ?_
        rintro ⟨k, m1, m2⟩ ⟨hk, hf2, hg2, hok⟩
        dsimp only at hk hf2 hg2 hok ⊢
        have hsl := seenTo_len row N k
        have hF2 := rowF_bd (row := row) hFb k
        have hG2 := rowG_bd (row := row) hGb k
        refine cw_seq ?_
        -- region 11
        refine cw_region ?_
        refine sw_step rfl rfl rfl (OpR.q (q_lss rfl rfl rfl)) ?_
        refine sw_nil ?_
        refine post_then ?_
        refine cw_seq ?_
        -- STOP at: cond
        refine cw_cond rfl (fun h5 => ?_) (fun h5 => ?_)
        · skip
          have hk' : k < N := by simp only [decide_eq_true_eq] at h5; omega
          refine cw_skip ?_
          refine post_then ?_
          refine cw_seq ?_
          refine cw_block ?_
          refine cw_seq ?_
          -- region 12
          refine cw_region ?_
          refine sw_step rfl rfl rfl (OpR.q (q_move rfl rfl)) ?_
          first | refine sw_step rfl rfl rfl (OpR.q (q_indexN rfl rfl rfl (by first | exact fun w hw => Stb.cl (by assumption) hw | exact fun w hw => rd_own hw (by first | assumption | (repeat first | exact .head _ | apply List.Mem.tail)) | assumption) (by intro hc; first | omega | (simp only [List.length_set, List.length_append, List.length_cons, List.length_nil, List.length_replicate, List.length_take, List.length_drop, List.length_map]; omega) | (simp only [AllT.iff, List.all_cons, List.all_nil, id, Bool.and_eq_true, Bool.not_eq_true', Bool.not_eq_false', decide_eq_true_eq, decide_eq_false_iff_not, and_true] at hc; first | omega | (simp only [List.length_set, List.length_append, List.length_cons, List.length_nil, List.length_replicate, List.length_take, List.length_drop, List.length_map]; omega)) | (exfalso; simp_all [AllT]; done)))) ?_ | refine sw_step rfl rfl rfl (OpR.q (q_index rfl rfl rfl (by first | exact fun w hw => Stb.cl (by assumption) hw | exact fun w hw => rd_own hw (by first | assumption | (repeat first | exact .head _ | apply List.Mem.tail)) | assumption) (by intro hc; first | omega | (simp only [List.length_set, List.length_append, List.length_cons, List.length_nil, List.length_replicate, List.length_take, List.length_drop, List.length_map]; omega) | (simp only [AllT.iff, List.all_cons, List.all_nil, id, Bool.and_eq_true, Bool.not_eq_true', Bool.not_eq_false', decide_eq_true_eq, decide_eq_false_iff_not, and_true] at hc; first | omega | (simp only [List.length_set, List.length_append, List.length_cons, List.length_nil, List.length_replicate, List.length_take, List.length_drop, List.length_map]; omega)) | (exfalso; simp_all [AllT]; done)))) ?_
          first | refine sw_step rfl rfl rfl (OpR.q (q_loadC rfl rfl (by first | assumption | (repeat first | exact .head _ | apply List.Mem.tail)) rfl)) ?_ | refine sw_step rfl rfl rfl (OpR.q (q_loadA rfl rfl (by first | assumption | (repeat first | exact .head _ | apply List.Mem.tail)) rfl)) ?_ | refine sw_step rfl rfl rfl (OpR.q (q_loadEl rfl rfl rfl (by first | exact fun w hw => Stb.cl (by assumption) hw | exact fun w hw => rd_own hw (by first | assumption | (repeat first | exact .head _ | apply List.Mem.tail)) | assumption) (by intro hc; first | omega | (simp only [List.length_set, List.length_append, List.length_cons, List.length_nil, List.length_replicate, List.length_take, List.length_drop, List.length_map]; omega) | (simp only [AllT.iff, List.all_cons, List.all_nil, id, Bool.and_eq_true, Bool.not_eq_true', Bool.not_eq_false', decide_eq_true_eq, decide_eq_false_iff_not, and_true] at hc; first | omega | (simp only [List.length_set, List.length_append, List.length_cons, List.length_nil, List.length_replicate, List.length_take, List.length_drop, List.length_map]; omega)) | (exfalso; simp_all [AllT]; done)))) ?_ | refine sw_step rfl rfl rfl (OpR.q (q_loadF rfl rfl rfl (by first | exact fun w hw => Stb.cl (by assumption) hw | exact fun w hw => rd_own hw (by first | assumption | (repeat first | exact .head _ | apply List.Mem.tail)) | assumption) (by intro hc; first | omega | (simp only [List.length_set, List.length_append, List.length_cons, List.length_nil, List.length_replicate, List.length_take, List.length_drop, List.length_map]; omega) | (simp only [AllT.iff, List.all_cons, List.all_nil, id, Bool.and_eq_true, Bool.not_eq_true', Bool.not_eq_false', decide_eq_true_eq, decide_eq_false_iff_not, and_true] at hc; first | omega | (simp only [List.length_set, List.length_append, List.length_cons, List.length_nil, List.length_replicate, List.length_take, List.length_drop, List.length_map]; omega)) | (exfalso; simp_all [AllT]; done)) rfl)) ?_ | refine sw_step rfl rfl rfl (OpR.q (q_loadS rfl rfl (fun w hw => Stb.cl (by assumption) hw) rfl)) ?_
          refine sw_step rfl rfl rfl (OpR.q (q_assign rfl rfl)) ?_
          refine sw_step rfl rfl rfl (OpR.q (q_assign rfl rfl)) ?_
          refine sw_nil ?_
          refine post_then ?_
          refine cw_seq ?_
          refine cw_seq ?_
          -- region 13
          refine cw_region ?_
          refine sw_step rfl rfl rfl (OpR.q (q_move rfl rfl)) ?_
          refine sw_step rfl rfl rfl (OpR.q (q_move rfl rfl)) ?_
          refine sw_step rfl rfl rfl (OpR.q (q_sub rfl rfl rfl (by intro hc; first | omega | (simp only [List.length_set, List.length_append, List.length_cons, List.length_nil, List.length_replicate, List.length_take, List.length_drop, List.length_map]; omega) | (simp only [AllT.iff, List.all_cons, List.all_nil, id, Bool.and_eq_true, Bool.not_eq_true', Bool.not_eq_false', decide_eq_true_eq, decide_eq_false_iff_not, and_true] at hc; first | omega | (simp only [List.length_set, List.length_append, List.length_cons, List.length_nil, List.length_replicate, List.length_take, List.length_drop, List.length_map]; omega)) | (exfalso; simp_all [AllT]; done)))) ?_
          refine sw_step rfl rfl rfl (q_call (CanCall.mk Try.call52) rfl (.cons rfl inferInstance (.cons rfl inferInstance (.cons rfl inferInstance (.nil)))) (fun _ w hw => callq hw (within_dec _ _ _ w))) ?_
          refine sw_step rfl rfl rfl (OpR.q (q_not rfl rfl)) ?_
          refine sw_step rfl rfl rfl (OpR.q (q_move rfl rfl)) ?_
          refine sw_step rfl rfl rfl (OpR.q (q_move rfl rfl)) ?_
          refine sw_step rfl rfl rfl (OpR.q (q_move rfl rfl)) ?_
          first | refine sw_step rfl rfl rfl (OpR.q (q_indexN rfl rfl rfl (by first | exact fun w hw => Stb.cl (by assumption) hw | exact fun w hw => rd_own hw (by first | assumption | (repeat first | exact .head _ | apply List.Mem.tail)) | assumption) (by intro hc; first | omega | (simp only [List.length_set, List.length_append, List.length_cons, List.length_nil, List.length_replicate, List.length_take, List.length_drop, List.length_map]; omega) | (simp only [AllT.iff, List.all_cons, List.all_nil, id, Bool.and_eq_true, Bool.not_eq_true', Bool.not_eq_false', decide_eq_true_eq, decide_eq_false_iff_not, and_true] at hc; first | omega | (simp only [List.length_set, List.length_append, List.length_cons, List.length_nil, List.length_replicate, List.length_take, List.length_drop, List.length_map]; omega)) | (exfalso; simp_all [AllT]; done)))) ?_ | refine sw_step rfl rfl rfl (OpR.q (q_index rfl rfl rfl (by first | exact fun w hw => Stb.cl (by assumption) hw | exact fun w hw => rd_own hw (by first | assumption | (repeat first | exact .head _ | apply List.Mem.tail)) | assumption) (by intro hc; first | omega | (simp only [List.length_set, List.length_append, List.length_cons, List.length_nil, List.length_replicate, List.length_take, List.length_drop, List.length_map]; omega) | (simp only [AllT.iff, List.all_cons, List.all_nil, id, Bool.and_eq_true, Bool.not_eq_true', Bool.not_eq_false', decide_eq_true_eq, decide_eq_false_iff_not, and_true] at hc; first | omega | (simp only [List.length_set, List.length_append, List.length_cons, List.length_nil, List.length_replicate, List.length_take, List.length_drop, List.length_map]; omega)) | (exfalso; simp_all [AllT]; done)))) ?_
          first | refine sw_step rfl rfl rfl (OpR.q (q_loadC rfl rfl (by first | assumption | (repeat first | exact .head _ | apply List.Mem.tail)) rfl)) ?_ | refine sw_step rfl rfl rfl (OpR.q (q_loadA rfl rfl (by first | assumption | (repeat first | exact .head _ | apply List.Mem.tail)) rfl)) ?_ | refine sw_step rfl rfl rfl (OpR.q (q_loadEl rfl rfl rfl (by first | exact fun w hw => Stb.cl (by assumption) hw | exact fun w hw => rd_own hw (by first | assumption | (repeat first | exact .head _ | apply List.Mem.tail)) | assumption) (by intro hc; first | omega | (simp only [List.length_set, List.length_append, List.length_cons, List.length_nil, List.length_replicate, List.length_take, List.length_drop, List.length_map]; omega) | (simp only [AllT.iff, List.all_cons, List.all_nil, id, Bool.and_eq_true, Bool.not_eq_true', Bool.not_eq_false', decide_eq_true_eq, decide_eq_false_iff_not, and_true] at hc; first | omega | (simp only [List.length_set, List.length_append, List.length_cons, List.length_nil, List.length_replicate, List.length_take, List.length_drop, List.length_map]; omega)) | (exfalso; simp_all [AllT]; done)))) ?_ | refine sw_step rfl rfl rfl (OpR.q (q_loadF rfl rfl rfl (by first | exact fun w hw => Stb.cl (by assumption) hw | exact fun w hw => rd_own hw (by first | assumption | (repeat first | exact .head _ | apply List.Mem.tail)) | assumption) (by intro hc; first | omega | (simp only [List.length_set, List.length_append, List.length_cons, List.length_nil, List.length_replicate, List.length_take, List.length_drop, List.length_map]; omega) | (simp only [AllT.iff, List.all_cons, List.all_nil, id, Bool.and_eq_true, Bool.not_eq_true', Bool.not_eq_false', decide_eq_true_eq, decide_eq_false_iff_not, and_true] at hc; first | omega | (simp only [List.length_set, List.length_append, List.length_cons, List.length_nil, List.length_replicate, List.length_take, List.length_drop, List.length_map]; omega)) | (exfalso; simp_all [AllT]; done)) rfl)) ?_ | refine sw_step rfl rfl rfl (OpR.q (q_loadS rfl rfl (fun w hw => Stb.cl (by assumption) hw) rfl)) ?_
          refine sw_step rfl rfl rfl (OpR.q (q_or2 rfl rfl rfl)) ?_
          refine sw_nil ?_
          refine post_then ?_
          -- STOP at: cond
          refine cw_cond rfl (fun h6 => ?_) (fun h6 => ?_)
          · skip
            have h7 : ¬ Bal plan N := fun hb => by
              have h8 := (hb.rows i hi').2 k hk'
              rw [hR] at h8
              simp only [Bool.or_eq_true, Bool.not_eq_true', Bool.and_eq_false_iff, decide_eq_false_iff_not] at h6
              rcases h6 with h6 | h6
              · omega
              · have h9 := h8.2
                rw [show (N : Int).toNat = N from rfl] at h9
                rw [h9] at h6; cases h6
            refine cw_seq ?_
            -- region 14
            refine cw_region ?_
            refine sw_step rfl rfl rfl (OpR.q (q_assign rfl rfl)) ?_
            refine sw_nil ?_
            refine post_then ?_
            refine cw_ret ?_
            refine post_then_r ?_
            refine post_blk_r ?_
            refine post_then_r ?_
            refine post_then_r ?_
            refine post_blk_r ?_
            refine post_blk_r ?_
            refine post_then_r ?_
            refine post_then_r ?_
            refine post_blk_r ?_
            refine post_then_r ?_
            refine post_ret1 rfl (resOk_tmp rfl) ?_
            exact fun w' hw => ⟨by rw [balB_no h7], (fun w h => Cl.sel (by (repeat first | exact Sel.nil _ | refine Sel.take 0 rfl ?_ | refine Sel.take 1 rfl ?_ | refine Sel.take 2 rfl ?_ | refine Sel.take 3 rfl ?_ | refine Sel.take 4 rfl ?_ | refine Sel.take 5 rfl ?_ | refine Sel.take 6 rfl ?_ | refine Sel.take 7 rfl ?_ | refine Sel.take 8 rfl ?_ | refine Sel.take 9 rfl ?_ | refine Sel.take 10 rfl ?_ | refine Sel.take 11 rfl ?_)) w h) _ hw⟩
          · skip
            have h7 : (0 ≤ nth row k ∧ nth row k ≤ (N : Int) - 1) ∧ nth (seenTo row N k) (nth row k).toNat = false := by
              simp only [Bool.or_eq_false_iff, Bool.not_eq_false', Bool.and_eq_true, decide_eq_true_eq] at h6
              exact h6
            have hok' : OkTo row N (k + 1) := fun j hj => by
              by_cases hjk : j = k
              · rw [hjk]; exact h7
              · exact hok j (by omega)
            have hb1 := hF2 ⟨nth row k, k⟩
            refine cw_skip ?_
            refine post_then ?_
            refine cw_seq ?_
            -- region 15
            refine cw_region ?_
            refine sw_step rfl rfl rfl (OpR.q (q_move rfl rfl)) ?_
            refine sw_step rfl rfl rfl (OpR.q (q_move rfl rfl)) ?_
            first | refine sw_step rfl rfl rfl (OpR.q (q_indexN rfl rfl rfl (by first | exact fun w hw => Stb.cl (by assumption) hw | exact fun w hw => rd_own hw (by first | assumption | (repeat first | exact .head _ | apply List.Mem.tail)) | assumption) (by intro hc; first | omega | (simp only [List.length_set, List.length_append, List.length_cons, List.length_nil, List.length_replicate, List.length_take, List.length_drop, List.length_map]; omega) | (simp only [AllT.iff, List.all_cons, List.all_nil, id, Bool.and_eq_true, Bool.not_eq_true', Bool.not_eq_false', decide_eq_true_eq, decide_eq_false_iff_not, and_true] at hc; first | omega | (simp only [List.length_set, List.length_append, List.length_cons, List.length_nil, List.length_replicate, List.length_take, List.length_drop, List.length_map]; omega)) | (exfalso; simp_all [AllT]; done)))) ?_ | refine sw_step rfl rfl rfl (OpR.q (q_index rfl rfl rfl (by first | exact fun w hw => Stb.cl (by assumption) hw | exact fun w hw => rd_own hw (by first | assumption | (repeat first | exact .head _ | apply List.Mem.tail)) | assumption) (by intro hc; first | omega | (simp only [List.length_set, List.length_append, List.length_cons, List.length_nil, List.length_replicate, List.length_take, List.length_drop, List.length_map]; omega) | (simp only [AllT.iff, List.all_cons, List.all_nil, id, Bool.and_eq_true, Bool.not_eq_true', Bool.not_eq_false', decide_eq_true_eq, decide_eq_false_iff_not, and_true] at hc; first | omega | (simp only [List.length_set, List.length_append, List.length_cons, List.length_nil, List.length_replicate, List.length_take, List.length_drop, List.length_map]; omega)) | (exfalso; simp_all [AllT]; done)))) ?_
            first | refine sw_eff0 rfl rfl (e_store (i := 0) rfl rfl rfl rfl rfl rfl rfl rfl) ?_ | refine sw_eff0 rfl rfl (e_store (i := 1) rfl rfl rfl rfl rfl rfl rfl rfl) ?_ | refine sw_eff0 rfl rfl (e_store (i := 2) rfl rfl rfl rfl rfl rfl rfl rfl) ?_ | refine sw_eff0 rfl rfl (e_store (i := 3) rfl rfl rfl rfl rfl rfl rfl rfl) ?_ | refine sw_eff0 rfl rfl (e_store (i := 4) rfl rfl rfl rfl rfl rfl rfl rfl) ?_ | refine sw_eff0 rfl rfl (e_store (i := 5) rfl rfl rfl rfl rfl rfl rfl rfl) ?_ | refine sw_eff0 rfl rfl (e_store (i := 6) rfl rfl rfl rfl rfl rfl rfl rfl) ?_ | refine sw_eff0 rfl rfl (e_store (i := 7) rfl rfl rfl rfl rfl rfl rfl rfl) ?_ | refine sw_eff0 rfl rfl (e_store (i := 8) rfl rfl rfl rfl rfl rfl rfl rfl) ?_ | refine sw_eff0 rfl rfl (e_store (i := 9) rfl rfl rfl rfl rfl rfl rfl rfl) ?_ | refine sw_eff0 rfl rfl (e_store (i := 10) rfl rfl rfl rfl rfl rfl rfl rfl) ?_ | refine sw_eff0 rfl rfl (e_store (i := 11) rfl rfl rfl rfl rfl rfl rfl rfl) ?_ | refine sw_eff0 rfl rfl (e_store (i := 12) rfl rfl rfl rfl rfl rfl rfl rfl) ?_ | refine sw_eff0 rfl rfl (e_store (i := 13) rfl rfl rfl rfl rfl rfl rfl rfl) ?_ | refine sw_eff0 rfl rfl (e_store (i := 14) rfl rfl rfl rfl rfl rfl rfl rfl) ?_ | refine sw_eff0 rfl rfl (e_store (i := 15) rfl rfl rfl rfl rfl rfl rfl rfl) ?_ | refine sw_eff0 rfl rfl (e_storeEl1 (i := 0) rfl rfl rfl rfl rfl (by first | omega | (simp only [List.length_set, List.length_append, List.length_cons, List.length_nil, List.length_replicate, List.length_take, List.length_drop, List.length_map]; omega))) ?_ | refine sw_eff0 rfl rfl (e_storeEl1 (i := 1) rfl rfl rfl rfl rfl (by first | omega | (simp only [List.length_set, List.length_append, List.length_cons, List.length_nil, List.length_replicate, List.length_take, List.length_drop, List.length_map]; omega))) ?_ | refine sw_eff0 rfl rfl (e_storeEl1 (i := 2) rfl rfl rfl rfl rfl (by first | omega | (simp only [List.length_set, List.length_append, List.length_cons, List.length_nil, List.length_replicate, List.length_take, List.length_drop, List.length_map]; omega))) ?_ | refine sw_eff0 rfl rfl (e_storeEl1 (i := 3) rfl rfl rfl rfl rfl (by first | omega | (simp only [List.length_set, List.length_append, List.length_cons, List.length_nil, List.length_replicate, List.length_take, List.length_drop, List.length_map]; omega))) ?_ | refine sw_eff0 rfl rfl (e_storeEl1 (i := 4) rfl rfl rfl rfl rfl (by first | omega | (simp only [List.length_set, List.length_append, List.length_cons, List.length_nil, List.length_replicate, List.length_take, List.length_drop, List.length_map]; omega))) ?_ | refine sw_eff0 rfl rfl (e_storeEl1 (i := 5) rfl rfl rfl rfl rfl (by first | omega | (simp only [List.length_set, List.length_append, List.length_cons, List.length_nil, List.length_replicate, List.length_take, List.length_drop, List.length_map]; omega))) ?_ | refine sw_eff0 rfl rfl (e_storeEl1 (i := 6) rfl rfl rfl rfl rfl (by first | omega | (simp only [List.length_set, List.length_append, List.length_cons, List.length_nil, List.length_replicate, List.length_take, List.length_drop, List.length_map]; omega))) ?_ | refine sw_eff0 rfl rfl (e_storeEl1 (i := 7) rfl rfl rfl rfl rfl (by first | omega | (simp only [List.length_set, List.length_append, List.length_cons, List.length_nil, List.length_replicate, List.length_take, List.length_drop, List.length_map]; omega))) ?_ | refine sw_eff0 rfl rfl (e_storeEl1 (i := 8) rfl rfl rfl rfl rfl (by first | omega | (simp only [List.length_set, List.length_append, List.length_cons, List.length_nil, List.length_replicate, List.length_take, List.length_drop, List.length_map]; omega))) ?_ | refine sw_eff0 rfl rfl (e_storeEl1 (i := 9) rfl rfl rfl rfl rfl (by first | omega | (simp only [List.length_set, List.length_append, List.length_cons, List.length_nil, List.length_replicate, List.length_take, List.length_drop, List.length_map]; omega))) ?_ | refine sw_eff0 rfl rfl (e_storeEl1 (i := 10) rfl rfl rfl rfl rfl (by first | omega | (simp only [List.length_set, List.length_append, List.length_cons, List.length_nil, List.length_replicate, List.length_take, List.length_drop, List.length_map]; omega))) ?_ | refine sw_eff0 rfl rfl (e_storeEl1 (i := 11) rfl rfl rfl rfl rfl (by first | omega | (simp only [List.length_set, List.length_append, List.length_cons, List.length_nil, List.length_replicate, List.length_take, List.length_drop, List.length_map]; omega))) ?_ | refine sw_eff0 rfl rfl (e_storeEl1 (i := 12) rfl rfl rfl rfl rfl (by first | omega | (simp only [List.length_set, List.length_append, List.length_cons, List.length_nil, List.length_replicate, List.length_take, List.length_drop, List.length_map]; omega))) ?_ | refine sw_eff0 rfl rfl (e_storeEl1 (i := 13) rfl rfl rfl rfl rfl (by first | omega | (simp only [List.length_set, List.length_append, List.length_cons, List.length_nil, List.length_replicate, List.length_take, List.length_drop, List.length_map]; omega))) ?_ | refine sw_eff0 rfl rfl (e_storeEl1 (i := 14) rfl rfl rfl rfl rfl (by first | omega | (simp only [List.length_set, List.length_append, List.length_cons, List.length_nil, List.length_replicate, List.length_take, List.length_drop, List.length_map]; omega))) ?_ | refine sw_eff0 rfl rfl (e_storeEl1 (i := 15) rfl rfl rfl rfl rfl (by first | omega | (simp only [List.length_set, List.length_append, List.length_cons, List.length_nil, List.length_replicate, List.length_take, List.length_drop, List.length_map]; omega))) ?_
            refine sw_nil ?_
            refine post_then ?_
            refine cw_seq ?_
            -- region 16
            -- STOP: a region with effects that draws its order
            refine cw_region_a (SB w b23 (rowF row (planF plan N i) k)) [8] mixed_Try ?_
            refine aw_pure 0 rfl (by kernel_rfl) (by kernel_rfl) (by kernel_rfl) (by kernel_rfl) (by kernel_rfl) rfl rfl rfl (q_move rfl rfl) ?_
            refine aw_pure 1 rfl (by kernel_rfl) (by kernel_rfl) (by kernel_rfl) (by kernel_rfl) (by kernel_rfl) rfl rfl rfl (q_move rfl rfl) ?_
            refine aw_pure 2 rfl (by kernel_rfl) (by kernel_rfl) (by kernel_rfl) (by kernel_rfl) (by kernel_rfl) rfl rfl rfl (q_move rfl rfl) ?_
            refine aw_pure 3 rfl (by kernel_rfl) (by kernel_rfl) (by kernel_rfl) (by kernel_rfl) (by kernel_rfl) rfl rfl rfl (q_buildA rfl (.cons rfl inferInstance (.cons rfl inferInstance (.nil))) rfl) ?_
            -- STOP at one of: [4, 6]
            refine aw_take 4 (fun w h => sb_own hf2 (by first | assumption | (repeat first | exact .head _ | apply List.Mem.tail)) h) rfl (by kernel_rfl) (by kernel_rfl) (by kernel_rfl) (by kernel_rfl) (by kernel_rfl) (by kernel_rfl) rfl rfl rfl (q_lookupF (k := (⟨nth row k, k⟩ : P2)) (z := (0 : Int)) rfl rfl rfl (fun w h => h.2)) ?_
            refine aw_pure 5 rfl (by kernel_rfl) (by kernel_rfl) (by kernel_rfl) (by kernel_rfl) (by kernel_rfl) rfl rfl rfl (q_add rfl rfl rfl (by intro hc; first | omega | (simp only [List.length_set, List.length_append, List.length_cons, List.length_nil, List.length_replicate, List.length_take, List.length_drop, List.length_map]; omega) | (simp only [AllT.iff, List.all_cons, List.all_nil, id, Bool.and_eq_true, Bool.not_eq_true', Bool.not_eq_false', decide_eq_true_eq, decide_eq_false_iff_not, and_true] at hc; first | omega | (simp only [List.length_set, List.length_append, List.length_cons, List.length_nil, List.length_replicate, List.length_take, List.length_drop, List.length_map]; omega)) | (exfalso; simp_all [AllT]; done))) ?_
            -- STOP at: 6 t64  := mapEntry 105 t58 t61 :0
            refine aw_x 6 (by kernel_rfl) rfl rfl rfl rfl (e_mapEntry (i := 2) (k := (⟨nth row k, k⟩ : P2)) (z := (0 : Int)) rfl rfl rfl rfl) (fun _ X w hw => sb_raw hf2 hw.1 (by first | assumption | (repeat first | exact .head _ | apply List.Mem.tail)) hw.2) (fun X => ?_)
            refine aw_imp fun hX => ?_
            first | refine aw_take 7 (fun w h => sb_raw hf2 hX (by first | assumption | (repeat first | exact .head _ | apply List.Mem.tail)) h) rfl (by kernel_rfl) (by kernel_rfl) (by kernel_rfl) (by kernel_rfl) (by kernel_rfl) (by kernel_rfl) rfl rfl rfl (q_extract rfl rfl rfl) ?_ | refine aw_take 7 (fun w h => sb_raw hf2 hX (by first | assumption | (repeat first | exact .head _ | apply List.Mem.tail)) h) rfl (by kernel_rfl) (by kernel_rfl) (by kernel_rfl) (by kernel_rfl) (by kernel_rfl) (by kernel_rfl) rfl rfl rfl (q_extract rfl rfl (nextV_0 _)) ?_
            -- STOP at: 8 -    := entryStore 105 t58 t65 t63 :0
            refine aw_one0 8 (by kernel_rfl) rfl rfl rfl (e_entryStore (i := 2) (l := m1) (k := (⟨nth row k, k⟩ : P2)) (v := rowF row (planF plan N i) k ⟨nth row k, k⟩ + 1) (z := (0 : Int)) rfl rfl rfl rfl hX rfl) (by intro hb; first | (exact absurd hb (by decide)) | exact (fun w h => Cl.sel (by (repeat first | exact Sel.nil _ | refine Sel.take 0 rfl ?_ | refine Sel.take 1 rfl ?_ | refine Sel.take 2 rfl ?_ | refine Sel.take 3 rfl ?_ | refine Sel.take 4 rfl ?_ | refine Sel.take 5 rfl ?_ | refine Sel.take 6 rfl ?_ | refine Sel.take 7 rfl ?_ | refine Sel.take 8 rfl ?_ | refine Sel.take 9 rfl ?_ | refine Sel.take 10 rfl ?_ | refine Sel.take 11 rfl ?_)) w h)) ?_
            refine aw_end (by kernel_rfl) ?_
            refine post_then ?_
            refine cw_seq ?_
            -- region 17
            refine cw_region ?_
            refine sw_step rfl rfl rfl (OpR.q (q_move rfl rfl)) ?_
            refine sw_step rfl rfl rfl (OpR.q (q_gtr rfl rfl rfl)) ?_
            refine sw_nil ?_
            refine post_then ?_
            -- STOP at: cond
            have hf3 := bump_get hf2 ⟨nth row k, k⟩
            generalize upd m1 (⟨nth row k, k⟩ : P2) (rowF row (planF plan N i) k ⟨nth row k, k⟩ + 1) = m1' at hf3
            refine cw_cut (S := List (P2 × Int)) (fun _ => [(1, [], .int .i64 N), (5, [], .map (some b23)), (6, [], .map (some b24)), (8, [], (nth vs i).v), (9, [], s36.v), (25, [], lv), (26, [], .int .i64 plan.length), (27, [], .int .i64 i), (37, [], (nth vs i).v), (38, [], .int .i64 N), (39, [], .int .i64 k)])
              (fun y => Cl w [] [ownL 4 s36.v (seenTo row N (k + 1)), mpA b24 y, mpA b23 m1']) (fun y => ∀ q, getZ 0 y q = rowG row (planG plan N i) (k + 1) q) ?_ ?_
            · refine cw_cond rfl (fun h8 => ?_) (fun h8 => ?_)
              · skip
                have hk0 : 0 < k := by simp at h8; omega
                have ek : ((k : Int) - 1).toNat = k - 1 := by omega
                have hb2 := hG2 ⟨nth row ((k : Int) - 1).toNat, nth row k⟩
                have hrow' := sb_rd (b := b24) (f := rowG row (planG plan N i) k) hrow
                refine cw_region_a (SB w b24 (rowG row (planG plan N i) k)) [12] mixed_Try ?_
                refine aw_pure 0 rfl (by kernel_rfl) (by kernel_rfl) (by kernel_rfl) (by kernel_rfl) (by kernel_rfl) rfl rfl rfl (q_move rfl rfl) ?_
                refine aw_pure 1 rfl (by kernel_rfl) (by kernel_rfl) (by kernel_rfl) (by kernel_rfl) (by kernel_rfl) rfl rfl rfl (q_move rfl rfl) ?_
                refine aw_pure 2 rfl (by kernel_rfl) (by kernel_rfl) (by kernel_rfl) (by kernel_rfl) (by kernel_rfl) rfl rfl rfl (q_move rfl rfl) ?_
                refine aw_pure 3 rfl (by kernel_rfl) (by kernel_rfl) (by kernel_rfl) (by kernel_rfl) (by kernel_rfl) rfl rfl rfl (q_sub rfl rfl rfl (by intro hc; first | omega | (simp only [List.length_set, List.length_append, List.length_cons, List.length_nil, List.length_replicate, List.length_take, List.length_drop, List.length_map]; omega) | (simp only [AllT.iff, List.all_cons, List.all_nil, id, Bool.and_eq_true, Bool.not_eq_true', Bool.not_eq_false', decide_eq_true_eq, decide_eq_false_iff_not, and_true] at hc; first | omega | (simp only [List.length_set, List.length_append, List.length_cons, List.length_nil, List.length_replicate, List.length_take, List.length_drop, List.length_map]; omega)) | (exfalso; simp_all [AllT]; done))) ?_
                first | refine aw_take 4 (fun w h => sb_own hg2 (by first | assumption | (repeat first | exact .head _ | apply List.Mem.tail)) h) rfl (by kernel_rfl) (by kernel_rfl) (by kernel_rfl) (by kernel_rfl) (by kernel_rfl) (by kernel_rfl) rfl rfl rfl (q_indexN rfl rfl rfl (by first | exact fun w hw => Stb.cl (by assumption) hw | exact fun w hw => rd_own hw (by first | assumption | (repeat first | exact .head _ | apply List.Mem.tail)) | assumption) (by intro hc; first | omega | (simp only [List.length_set, List.length_append, List.length_cons, List.length_nil, List.length_replicate, List.length_take, List.length_drop, List.length_map]; omega) | (simp only [AllT.iff, List.all_cons, List.all_nil, id, Bool.and_eq_true, Bool.not_eq_true', Bool.not_eq_false', decide_eq_true_eq, decide_eq_false_iff_not, and_true] at hc; first | omega | (simp only [List.length_set, List.length_append, List.length_cons, List.length_nil, List.length_replicate, List.length_take, List.length_drop, List.length_map]; omega)) | (exfalso; simp_all [AllT]; done))) ?_ | refine aw_take 4 (fun w h => sb_own hg2 (by first | assumption | (repeat first | exact .head _ | apply List.Mem.tail)) h) rfl (by kernel_rfl) (by kernel_rfl) (by kernel_rfl) (by kernel_rfl) (by kernel_rfl) (by kernel_rfl) rfl rfl rfl (q_index rfl rfl rfl (by first | exact fun w hw => Stb.cl (by assumption) hw | exact fun w hw => rd_own hw (by first | assumption | (repeat first | exact .head _ | apply List.Mem.tail)) | assumption) (by intro hc; first | omega | (simp only [List.length_set, List.length_append, List.length_cons, List.length_nil, List.length_replicate, List.length_take, List.length_drop, List.length_map]; omega) | (simp only [AllT.iff, List.all_cons, List.all_nil, id, Bool.and_eq_true, Bool.not_eq_true', Bool.not_eq_false', decide_eq_true_eq, decide_eq_false_iff_not, and_true] at hc; first | omega | (simp only [List.length_set, List.length_append, List.length_cons, List.length_nil, List.length_replicate, List.length_take, List.length_drop, List.length_map]; omega)) | (exfalso; simp_all [AllT]; done))) ?_
                first | refine aw_take 5 (fun w h => sb_own hg2 (by first | assumption | (repeat first | exact .head _ | apply List.Mem.tail)) h) rfl (by kernel_rfl) (by kernel_rfl) (by kernel_rfl) (by kernel_rfl) (by kernel_rfl) (by kernel_rfl) rfl rfl rfl (q_loadC rfl rfl (by first | assumption | (repeat first | exact .head _ | apply List.Mem.tail)) rfl) ?_ | refine aw_take 5 (fun w h => sb_own hg2 (by first | assumption | (repeat first | exact .head _ | apply List.Mem.tail)) h) rfl (by kernel_rfl) (by kernel_rfl) (by kernel_rfl) (by kernel_rfl) (by kernel_rfl) (by kernel_rfl) rfl rfl rfl (q_loadA rfl rfl (by first | assumption | (repeat first | exact .head _ | apply List.Mem.tail)) rfl) ?_ | refine aw_take 5 (fun w h => sb_own hg2 (by first | assumption | (repeat first | exact .head _ | apply List.Mem.tail)) h) rfl (by kernel_rfl) (by kernel_rfl) (by kernel_rfl) (by kernel_rfl) (by kernel_rfl) (by kernel_rfl) rfl rfl rfl (q_loadEl rfl rfl rfl (by first | exact fun w hw => Stb.cl (by assumption) hw | exact fun w hw => rd_own hw (by first | assumption | (repeat first | exact .head _ | apply List.Mem.tail)) | assumption) (by intro hc; first | omega | (simp only [List.length_set, List.length_append, List.length_cons, List.length_nil, List.length_replicate, List.length_take, List.length_drop, List.length_map]; omega) | (simp only [AllT.iff, List.all_cons, List.all_nil, id, Bool.and_eq_true, Bool.not_eq_true', Bool.not_eq_false', decide_eq_true_eq, decide_eq_false_iff_not, and_true] at hc; first | omega | (simp only [List.length_set, List.length_append, List.length_cons, List.length_nil, List.length_replicate, List.length_take, List.length_drop, List.length_map]; omega)) | (exfalso; simp_all [AllT]; done))) ?_ | refine aw_take 5 (fun w h => sb_own hg2 (by first | assumption | (repeat first | exact .head _ | apply List.Mem.tail)) h) rfl (by kernel_rfl) (by kernel_rfl) (by kernel_rfl) (by kernel_rfl) (by kernel_rfl) (by kernel_rfl) rfl rfl rfl (q_loadF rfl rfl rfl (by first | exact fun w hw => Stb.cl (by assumption) hw | exact fun w hw => rd_own hw (by first | assumption | (repeat first | exact .head _ | apply List.Mem.tail)) | assumption) (by intro hc; first | omega | (simp only [List.length_set, List.length_append, List.length_cons, List.length_nil, List.length_replicate, List.length_take, List.length_drop, List.length_map]; omega) | (simp only [AllT.iff, List.all_cons, List.all_nil, id, Bool.and_eq_true, Bool.not_eq_true', Bool.not_eq_false', decide_eq_true_eq, decide_eq_false_iff_not, and_true] at hc; first | omega | (simp only [List.length_set, List.length_append, List.length_cons, List.length_nil, List.length_replicate, List.length_take, List.length_drop, List.length_map]; omega)) | (exfalso; simp_all [AllT]; done)) rfl) ?_ | refine aw_take 5 (fun w h => sb_own hg2 (by first | assumption | (repeat first | exact .head _ | apply List.Mem.tail)) h) rfl (by kernel_rfl) (by kernel_rfl) (by kernel_rfl) (by kernel_rfl) (by kernel_rfl) (by kernel_rfl) rfl rfl rfl (q_loadS rfl rfl (fun w hw => Stb.cl (by assumption) hw) rfl) ?_
                refine aw_pure 6 rfl (by kernel_rfl) (by kernel_rfl) (by kernel_rfl) (by kernel_rfl) (by kernel_rfl) rfl rfl rfl (q_move rfl rfl) ?_
                refine aw_pure 7 rfl (by kernel_rfl) (by kernel_rfl) (by kernel_rfl) (by kernel_rfl) (by kernel_rfl) rfl rfl rfl (q_buildA rfl (.cons rfl inferInstance (.cons rfl inferInstance (.nil))) rfl) ?_
                -- STOP at one of: [8, 10]
                refine aw_take 8 (fun w h => sb_own hg2 (by first | assumption | (repeat first | exact .head _ | apply List.Mem.tail)) h) rfl (by kernel_rfl) (by kernel_rfl) (by kernel_rfl) (by kernel_rfl) (by kernel_rfl) (by kernel_rfl) rfl rfl rfl (q_lookupF (k := (⟨nth row ((k : Int) - 1).toNat, nth row k⟩ : P2)) (z := (0 : Int)) rfl rfl rfl (fun w h => h.2)) ?_
                refine aw_pure 9 rfl (by kernel_rfl) (by kernel_rfl) (by kernel_rfl) (by kernel_rfl) (by kernel_rfl) rfl rfl rfl (q_add rfl rfl rfl (by intro hc; first | omega | (simp only [List.length_set, List.length_append, List.length_cons, List.length_nil, List.length_replicate, List.length_take, List.length_drop, List.length_map]; omega) | (simp only [AllT.iff, List.all_cons, List.all_nil, id, Bool.and_eq_true, Bool.not_eq_true', Bool.not_eq_false', decide_eq_true_eq, decide_eq_false_iff_not, and_true] at hc; first | omega | (simp only [List.length_set, List.length_append, List.length_cons, List.length_nil, List.length_replicate, List.length_take, List.length_drop, List.length_map]; omega)) | (exfalso; simp_all [AllT]; done))) ?_
                -- STOP at: 10 t78  := mapEntry 105 t68 t75 :0
                refine aw_x 10 (by kernel_rfl) rfl rfl rfl rfl (e_mapEntry (i := 1) (k := (⟨nth row ((k : Int) - 1).toNat, nth row k⟩ : P2)) (z := (0 : Int)) rfl rfl rfl rfl) (fun _ X w hw => sb_raw hg2 hw.1 (by first | assumption | (repeat first | exact .head _ | apply List.Mem.tail)) hw.2) (fun X2 => ?_)
                refine aw_imp fun hX2 => ?_
                first | refine aw_take 11 (fun w h => sb_raw hg2 hX2 (by first | assumption | (repeat first | exact .head _ | apply List.Mem.tail)) h) rfl (by kernel_rfl) (by kernel_rfl) (by kernel_rfl) (by kernel_rfl) (by kernel_rfl) (by kernel_rfl) rfl rfl rfl (q_extract rfl rfl rfl) ?_ | refine aw_take 11 (fun w h => sb_raw hg2 hX2 (by first | assumption | (repeat first | exact .head _ | apply List.Mem.tail)) h) rfl (by kernel_rfl) (by kernel_rfl) (by kernel_rfl) (by kernel_rfl) (by kernel_rfl) (by kernel_rfl) rfl rfl rfl (q_extract rfl rfl (nextV_0 _)) ?_
                -- STOP at: 12 -    := entryStore 105 t68 t79 t77 :0
                refine aw_one0 12 (by kernel_rfl) rfl rfl rfl (e_entryStore (i := 1) (l := m2) (k := (⟨nth row ((k : Int) - 1).toNat, nth row k⟩ : P2)) (v := rowG row (planG plan N i) k ⟨nth row ((k : Int) - 1).toNat, nth row k⟩ + 1) (z := (0 : Int)) rfl rfl rfl rfl hX2 rfl) (by intro hb; first | (exact absurd hb (by decide)) | exact (fun w h => Cl.sel (by (repeat first | exact Sel.nil _ | refine Sel.take 0 rfl ?_ | refine Sel.take 1 rfl ?_ | refine Sel.take 2 rfl ?_ | refine Sel.take 3 rfl ?_ | refine Sel.take 4 rfl ?_ | refine Sel.take 5 rfl ?_ | refine Sel.take 6 rfl ?_ | refine Sel.take 7 rfl ?_ | refine Sel.take 8 rfl ?_ | refine Sel.take 9 rfl ?_ | refine Sel.take 10 rfl ?_ | refine Sel.take 11 rfl ?_)) w h)) ?_
                refine aw_end (by kernel_rfl) ?_
                have hg3 := bump_get hg2 ⟨nth row ((k : Int) - 1).toNat, nth row k⟩
                refine post_meet (upd m2 (⟨nth row ((k : Int) - 1).toNat, nth row k⟩ : P2) (rowG row (planG plan N i) k ⟨nth row ((k : Int) - 1).toNat, nth row k⟩ + 1)) (by (repeat first | exact Le.nil | refine Le.cons rfl ?_ | refine Le.cons' rfl (by congr 1; first | omega | (simp only; omega)) ?_)) (fun w h => Cl.sel (by (repeat first | exact Sel.nil _ | refine Sel.take 0 rfl ?_ | refine Sel.take 1 rfl ?_ | refine Sel.take 2 rfl ?_ | refine Sel.take 3 rfl ?_ | refine Sel.take 4 rfl ?_ | refine Sel.take 5 rfl ?_ | refine Sel.take 6 rfl ?_ | refine Sel.take 7 rfl ?_ | refine Sel.take 8 rfl ?_ | refine Sel.take 9 rfl ?_ | refine Sel.take 10 rfl ?_ | refine Sel.take 11 rfl ?_)) w h) fun q => ?_
                rw [hg3 q, rowG, if_pos hk0, ek]
              · skip
                have hk0 : ¬ 0 < k := by simp at h8; omega
                refine cw_skip ?_
                exact post_meet m2 (by (repeat first | exact Le.nil | refine Le.cons rfl ?_ | refine Le.cons' rfl (by congr 1; first | omega | (simp only; omega)) ?_)) (fun w h => Cl.sel (by (repeat first | exact Sel.nil _ | refine Sel.take 0 rfl ?_ | refine Sel.take 1 rfl ?_ | refine Sel.take 2 rfl ?_ | refine Sel.take 3 rfl ?_ | refine Sel.take 4 rfl ?_ | refine Sel.take 5 rfl ?_ | refine Sel.take 6 rfl ?_ | refine Sel.take 7 rfl ?_ | refine Sel.take 8 rfl ?_ | refine Sel.take 9 rfl ?_ | refine Sel.take 10 rfl ?_ | refine Sel.take 11 rfl ?_)) w h) fun q => by rw [hg2 q, rowG, if_neg hk0]
            · intro m2' hg3
              refine post_blk ?_
              refine post_then ?_
              -- region 19
              refine cw_region ?_
              refine sw_step rfl rfl rfl (OpR.q (q_add rfl rfl rfl (by intro hc; first | omega | (simp only [List.length_set, List.length_append, List.length_cons, List.length_nil, List.length_replicate, List.length_take, List.length_drop, List.length_map]; omega) | (simp only [AllT.iff, List.all_cons, List.all_nil, id, Bool.and_eq_true, Bool.not_eq_true', Bool.not_eq_false', decide_eq_true_eq, decide_eq_false_iff_not, and_true] at hc; first | omega | (simp only [List.length_set, List.length_append, List.length_cons, List.length_nil, List.length_replicate, List.length_take, List.length_drop, List.length_map]; omega)) | (exfalso; simp_all [AllT]; done)))) ?_
              refine sw_step rfl rfl rfl (OpR.q (q_move rfl rfl)) ?_
              refine sw_nil ?_
              exact post_next (k + 1, m1', m2') (by (repeat first | exact Le.nil | refine Le.cons rfl ?_ | refine Le.cons' rfl (by congr 1; first | omega | (simp only; omega)) ?_)) (fun _ h => h) ⟨by simp only; omega, hf3, hg3, hok'⟩ (by simp only; omega)
        · skip
          have hk' : k = N := by simp only [decide_eq_false_iff_not] at h5; omega
          subst hk'
          refine cw_exit ?_
          refine post_then_x ?_
          refine post_then_x ?_
          refine post_blk_eq ?_
          refine post_blk ?_
          refine post_then ?_
          -- region 20
          refine cw_region ?_
          refine sw_step rfl rfl rfl (OpR.q (q_add rfl rfl rfl (by intro hc; first | omega | (simp only [List.length_set, List.length_append, List.length_cons, List.length_nil, List.length_replicate, List.length_take, List.length_drop, List.length_map]; omega) | (simp only [AllT.iff, List.all_cons, List.all_nil, id, Bool.and_eq_true, Bool.not_eq_true', Bool.not_eq_false', decide_eq_true_eq, decide_eq_false_iff_not, and_true] at hc; first | omega | (simp only [List.length_set, List.length_append, List.length_cons, List.length_nil, List.length_replicate, List.length_take, List.length_drop, List.length_map]; omega)) | (exfalso; simp_all [AllT]; done)))) ?_
          refine sw_step rfl rfl rfl (OpR.q (q_move rfl rfl)) ?_
          refine sw_nil ?_
          refine post_next (i + 1, m1, m2) (by (repeat first | exact Le.nil | refine Le.cons rfl ?_ | refine Le.cons' rfl (by congr 1; first | omega | (simp only; omega)) ?_)) (fun w h => Cl.sel (by (repeat first | exact Sel.nil _ | refine Sel.take 0 rfl ?_ | refine Sel.take 1 rfl ?_ | refine Sel.take 2 rfl ?_ | refine Sel.take 3 rfl ?_ | refine Sel.take 4 rfl ?_ | refine Sel.take 5 rfl ?_ | refine Sel.take 6 rfl ?_ | refine Sel.take 7 rfl ?_ | refine Sel.take 8 rfl ?_ | refine Sel.take 9 rfl ?_ | refine Sel.take 10 rfl ?_ | refine Sel.take 11 rfl ?_)) w h) ⟨by simp only; omega, fun q => by rw [hf2 q, planF, hR], fun q => by rw [hg2 q, planG, hR], fun j hj => ?_⟩ (by simp only; omega)
          by_cases hji : j = i
          · rw [hji, hR]; exact ⟨hlen, hok⟩
          · exact hgood j (by simp only at hj; omega)
    · skip
      have hi' : i = plan.length := by simp only [decide_eq_false_iff_not] at h3; omega
      subst hi'
      refine cw_exit ?_
      refine post_then_x ?_
      refine post_then_x ?_
      refine post_blk_eq ?_
      refine post_then ?_
      refine cw_seq ?_
      refine cw_seq ?_
      -- region 21
      refine cw_region ?_
      refine sw_step rfl rfl rfl (OpR.q (q_move rfl rfl)) ?_
      refine sw_step rfl rfl rfl (OpR.q (q_move rfl rfl)) ?_
      refine sw_nil ?_
      refine post_then ?_
      refine cw_block ?_
      -- STOP at: loop
      refine cw_loop (S := Nat) (fun x => [(1, [], .int .i64 N), (5, [], .map (some b23)), (6, [], .map (some b24)), (82, [], .int .i64 N), (83, [], .int .i64 x)]) (fun _ => Cl w [] [mpA b24 l2, mpA b23 l1])
        (fun x => x ≤ N ∧ ∀ x' y, x' < x → y < N → getZ 0 l1 ⟨(x' : Nat), (y : Nat)⟩ = getZ 0 l1 ⟨0, 0⟩ ∧ (x' ≠ y → getZ 0 l2 ⟨(x' : Nat), (y : Nat)⟩ = getZ 0 l2 ⟨0, 1⟩)) (fun x => N - x) 0 ⟨Nat.zero_le _, fun x' y h => by omega⟩ (by (repeat first | exact Le.nil | refine Le.cons rfl ?_ | refine Le.cons' rfl (by congr 1; first | omega | (simp only; omega)) ?_)) (fun w h => Cl.sel (by (repeat first | exact Sel.nil _ | refine Sel.take 0 rfl ?_ | refine Sel.take 1 rfl ?_ | refine Sel.take 2 rfl ?_ | refine Sel.take 3 rfl ?_ | refine Sel.take 4 rfl ?_ | refine Sel.take 5 rfl ?_ | refine Sel.take 6 rfl ?_ | refine Sel.take 7 rfl ?_ | refine Sel.take 8 rfl ?_ | refine Sel.take 9 rfl ?_ | refine Sel.take 10 rfl ?_ | refine Sel.take 11 rfl ?_)) w h) ?_
      rintro x ⟨hx, hchk⟩
      refine cw_seq ?_
      -- region 22
      refine cw_region ?_
      refine sw_step rfl rfl rfl (OpR.q (q_lss rfl rfl rfl)) ?_
      refine sw_nil ?_
      refine post_then ?_
      refine cw_seq ?_
      -- STOP at: cond
      refine cw_cond rfl (fun h4 => ?_) (fun h4 => ?_)
      · skip
        have hx' : x < N := by simp only [decide_eq_true_eq] at h4; omega
        refine cw_skip ?_
        refine post_then ?_
        refine cw_seq ?_
        refine cw_block ?_
        refine cw_seq ?_
        -- region 23
        refine cw_region ?_
        refine sw_step rfl rfl rfl (OpR.q (q_move rfl rfl)) ?_
        refine sw_step rfl rfl rfl (OpR.q (q_assign rfl rfl)) ?_
        refine sw_nil ?_
        refine post_then ?_
        refine cw_seq ?_
        -- region 24
        refine cw_region ?_
        refine sw_step rfl rfl rfl (OpR.q (q_move rfl rfl)) ?_
        refine sw_step rfl rfl rfl (OpR.q (q_move rfl rfl)) ?_
        refine sw_nil ?_
        refine post_then ?_
        refine cw_block ?_
        -- STOP at: loop
        refine cw_loop (S := Nat) (fun y => [(1, [], .int .i64 N), (5, [], .map (some b23)), (6, [], .map (some b24)), (12, [], .int .i64 x), (82, [], .int .i64 N), (83, [], .int .i64 x), (86, [], .int .i64 N), (87, [], .int .i64 y)]) (fun _ => Cl w [] [mpA b24 l2, mpA b23 l1])
          (fun y => y ≤ N ∧ ∀ y', y' < y → getZ 0 l1 ⟨(x : Nat), (y' : Nat)⟩ = getZ 0 l1 ⟨0, 0⟩ ∧ (x ≠ y' → getZ 0 l2 ⟨(x : Nat), (y' : Nat)⟩ = getZ 0 l2 ⟨0, 1⟩)) (fun y => N - y) 0 ⟨Nat.zero_le _, fun y h => by omega⟩ (by (repeat first | exact Le.nil | refine Le.cons rfl ?_ | refine Le.cons' rfl (by congr 1; first | omega | (simp only; omega)) ?_)) (fun w h => Cl.sel (by (repeat first | exact Sel.nil _ | refine Sel.take 0 rfl ?_ | refine Sel.take 1 rfl ?_ | refine Sel.take 2 rfl ?_ | refine Sel.take 3 rfl ?_ | refine Sel.take 4 rfl ?_ | refine Sel.take 5 rfl ?_ | refine Sel.take 6 rfl ?_ | refine Sel.take 7 rfl ?_ | refine Sel.take 8 rfl ?_ | refine Sel.take 9 rfl ?_ | refine Sel.take 10 rfl ?_ | refine Sel.take 11 rfl ?_)) w h) ?_
        rintro y ⟨hy, hrow⟩
        refine cw_seq ?_
        -- region 25
        refine cw_region ?_
        refine sw_step rfl rfl rfl (OpR.q (q_lss rfl rfl rfl)) ?_
        refine sw_nil ?_
        refine post_then ?_
        refine cw_seq ?_
        -- STOP at: cond
        refine cw_cond rfl (fun h5 => ?_) (fun h5 => ?_)
        · skip
          have hy' : y < N := by simp only [decide_eq_true_eq] at h5; omega
          refine cw_skip ?_
          refine post_then ?_
          refine cw_seq ?_
          refine cw_block ?_
          refine cw_seq ?_
          -- region 26
          refine cw_region ?_
          refine sw_step rfl rfl rfl (OpR.q (q_move rfl rfl)) ?_
          refine sw_step rfl rfl rfl (OpR.q (q_assign rfl rfl)) ?_
          refine sw_nil ?_
          refine post_then ?_
          refine cw_seq ?_
          -- region 27
          -- STOP: a region with effects that draws its order
          -- region 27
          refine cw_region_q mixed_Try (by kernel_rfl) ?_
          refine qw_step rfl rfl rfl (OpR.q (q_move rfl rfl)) ?_
          refine qw_step rfl rfl rfl (OpR.q (q_move rfl rfl)) ?_
          refine qw_step rfl rfl rfl (OpR.q (q_move rfl rfl)) ?_
          refine qw_step rfl rfl rfl (OpR.q (q_buildA rfl (.cons rfl inferInstance (.cons rfl inferInstance (.nil))) rfl)) ?_
          -- STOP at: t94  := lookup 105 t90 t93 false :3
          refine qw_step rfl rfl rfl (OpR.q (q_lookup (κ := P2) (ν := Int) (k := ⟨x, y⟩) rfl rfl rfl (by first | exact fun w hw => Stb.cl (by assumption) hw | exact fun w hw => rdm_own hw (by first | assumption | (repeat first | exact .head _ | apply List.Mem.tail)) | exact fun w hw => rdm_raw hw (by first | assumption | (repeat first | exact .head _ | apply List.Mem.tail)) (by assumption)))) ?_
          refine qw_step rfl rfl rfl (OpR.q (q_move rfl rfl)) ?_
          refine qw_step rfl rfl rfl (OpR.q (q_buildA rfl (.cons rfl inferInstance (.cons rfl inferInstance (.nil))) rfl)) ?_
          -- STOP at: t97  := lookup 105 t95 t96 false :3
          refine qw_step rfl rfl rfl (OpR.q (q_lookup (κ := P2) (ν := Int) (k := ⟨0, 0⟩) rfl rfl rfl (by first | exact fun w hw => Stb.cl (by assumption) hw | exact fun w hw => rdm_own hw (by first | assumption | (repeat first | exact .head _ | apply List.Mem.tail)) | exact fun w hw => rdm_raw hw (by first | assumption | (repeat first | exact .head _ | apply List.Mem.tail)) (by assumption)))) ?_
          refine qw_step rfl rfl rfl (OpR.q (q_neq rfl rfl rfl)) ?_
          refine qw_step rfl rfl rfl (OpR.q (q_move rfl rfl)) ?_
          refine qw_step rfl rfl rfl (OpR.q (q_move rfl rfl)) ?_
          refine qw_step rfl rfl rfl (OpR.q (q_move rfl rfl)) ?_
          refine qw_step rfl rfl rfl (OpR.q (q_neq rfl rfl rfl)) ?_
          refine qw_step rfl rfl rfl (OpR.q (q_move rfl rfl)) ?_
          refine qw_step rfl rfl rfl (OpR.q (q_move rfl rfl)) ?_
          refine qw_step rfl rfl rfl (OpR.q (q_move rfl rfl)) ?_
          refine qw_step rfl rfl rfl (OpR.q (q_move rfl rfl)) ?_
          refine qw_step rfl rfl rfl (OpR.q (q_buildA rfl (.cons rfl inferInstance (.cons rfl inferInstance (.nil))) rfl)) ?_
          -- STOP at: t108 := lookup 105 t104 t107 false :3 ?<13, true>
          refine qw_step rfl rfl rfl (OpR.q (q_lookup (κ := P2) (ν := Int) (k := ⟨x, y⟩) rfl rfl rfl (by first | exact fun w hw => Stb.cl (by assumption) hw | exact fun w hw => rdm_own hw (by first | assumption | (repeat first | exact .head _ | apply List.Mem.tail)) | exact fun w hw => rdm_raw hw (by first | assumption | (repeat first | exact .head _ | apply List.Mem.tail)) (by assumption)))) ?_
          refine qw_step rfl rfl rfl (OpR.q (q_move rfl rfl)) ?_
          refine qw_step rfl rfl rfl (OpR.q (q_buildA rfl (.cons rfl inferInstance (.cons rfl inferInstance (.nil))) rfl)) ?_
          -- STOP at: t111 := lookup 105 t109 t110 false :3 ?<13, true>
          refine qw_step rfl rfl rfl (OpR.q (q_lookup (κ := P2) (ν := Int) (k := ⟨0, 1⟩) rfl rfl rfl (by first | exact fun w hw => Stb.cl (by assumption) hw | exact fun w hw => rdm_own hw (by first | assumption | (repeat first | exact .head _ | apply List.Mem.tail)) | exact fun w hw => rdm_raw hw (by first | assumption | (repeat first | exact .head _ | apply List.Mem.tail)) (by assumption)))) ?_
          refine qw_step rfl rfl rfl (OpR.q (q_neq rfl rfl rfl)) ?_
          refine qw_step rfl rfl rfl (OpR.q (q_and2 rfl rfl rfl)) ?_
          refine qw_step rfl rfl rfl (OpR.q (q_or2 rfl rfl rfl)) ?_
          refine qw_end ?_
          refine post_then ?_
          -- STOP at: cond
          refine cw_cond rfl (fun h6 => ?_) (fun h6 => ?_)
          · skip
            have h7 : ¬ Bal plan N := fun hb => by
              have e1 := hb.places x y hx' hy'
              have e2 := hb.pairs x y hx' hy'
              rw [show (N : Int).toNat = N from rfl, ← hf, ← hf] at e1
              rw [show (N : Int).toNat = N from rfl, ← hg, ← hg] at e2
              simp only [Bool.or_eq_true, Bool.and_eq_true, Bool.not_eq_true', decide_eq_false_iff_not] at h6
              rcases h6 with h6 | ⟨h6, h8⟩
              · exact h6 e1
              · exact h8 (e2 (by omega))
            refine cw_seq ?_
            -- region 28
            refine cw_region ?_
            refine sw_step rfl rfl rfl (OpR.q (q_assign rfl rfl)) ?_
            refine sw_nil ?_
            refine post_then ?_
            refine cw_ret ?_
            refine post_blk_r ?_
            refine post_then_r ?_
            refine post_then_r ?_
            refine post_blk_r ?_
            refine post_blk_r ?_
            refine post_then_r ?_
            refine post_then_r ?_
            refine post_blk_r ?_
            refine post_then_r ?_
            refine post_ret1 rfl (resOk_tmp rfl) ?_
            exact fun w' hw => ⟨by rw [balB_no h7], (fun w h => Cl.sel (by (repeat first | exact Sel.nil _ | refine Sel.take 0 rfl ?_ | refine Sel.take 1 rfl ?_ | refine Sel.take 2 rfl ?_ | refine Sel.take 3 rfl ?_ | refine Sel.take 4 rfl ?_ | refine Sel.take 5 rfl ?_ | refine Sel.take 6 rfl ?_ | refine Sel.take 7 rfl ?_ | refine Sel.take 8 rfl ?_ | refine Sel.take 9 rfl ?_ | refine Sel.take 10 rfl ?_ | refine Sel.take 11 rfl ?_)) w h) _ hw⟩
          · skip
            have h7 : getZ 0 l1 ⟨(x : Nat), (y : Nat)⟩ = getZ 0 l1 ⟨0, 0⟩ ∧ (x ≠ y → getZ 0 l2 ⟨(x : Nat), (y : Nat)⟩ = getZ 0 l2 ⟨0, 1⟩) := by
              simp only [Bool.or_eq_false_iff, Bool.and_eq_false_iff, Bool.not_eq_false', decide_eq_true_eq] at h6
              refine ⟨h6.1, fun hne => ?_⟩
              rcases h6.2 with h8 | h8
              · omega
              · exact h8
            refine cw_skip ?_
            refine post_blk ?_
            refine post_then ?_
            -- region 29
            refine cw_region ?_
            refine sw_step rfl rfl rfl (OpR.q (q_add rfl rfl rfl (by intro hc; first | omega | (simp only [List.length_set, List.length_append, List.length_cons, List.length_nil, List.length_replicate, List.length_take, List.length_drop, List.length_map]; omega) | (simp only [AllT.iff, List.all_cons, List.all_nil, id, Bool.and_eq_true, Bool.not_eq_true', Bool.not_eq_false', decide_eq_true_eq, decide_eq_false_iff_not, and_true] at hc; first | omega | (simp only [List.length_set, List.length_append, List.length_cons, List.length_nil, List.length_replicate, List.length_take, List.length_drop, List.length_map]; omega)) | (exfalso; simp_all [AllT]; done)))) ?_
            refine sw_step rfl rfl rfl (OpR.q (q_move rfl rfl)) ?_
            refine sw_nil ?_
            refine post_next (y + 1) (by (repeat first | exact Le.nil | refine Le.cons rfl ?_ | refine Le.cons' rfl (by congr 1; first | omega | (simp only; omega)) ?_)) (fun _ h => h) ⟨by omega, fun y' hy'' => ?_⟩ (by omega)
            by_cases hyy : y' = y
            · rw [hyy]; exact h7
            · exact hrow y' (by omega)
        · skip
          have hy' : y = N := by simp only [decide_eq_false_iff_not] at h5; omega
          subst hy'
          refine cw_exit ?_
          refine post_then_x ?_
          refine post_then_x ?_
          refine post_blk_eq ?_
          refine post_blk ?_
          refine post_then ?_
          -- region 30
          refine cw_region ?_
          refine sw_step rfl rfl rfl (OpR.q (q_add rfl rfl rfl (by intro hc; first | omega | (simp only [List.length_set, List.length_append, List.length_cons, List.length_nil, List.length_replicate, List.length_take, List.length_drop, List.length_map]; omega) | (simp only [AllT.iff, List.all_cons, List.all_nil, id, Bool.and_eq_true, Bool.not_eq_true', Bool.not_eq_false', decide_eq_true_eq, decide_eq_false_iff_not, and_true] at hc; first | omega | (simp only [List.length_set, List.length_append, List.length_cons, List.length_nil, List.length_replicate, List.length_take, List.length_drop, List.length_map]; omega)) | (exfalso; simp_all [AllT]; done)))) ?_
          refine sw_step rfl rfl rfl (OpR.q (q_move rfl rfl)) ?_
          refine sw_nil ?_
          refine post_next (x + 1) (by (repeat first | exact Le.nil | refine Le.cons rfl ?_ | refine Le.cons' rfl (by congr 1; first | omega | (simp only; omega)) ?_)) (fun _ h => h) ⟨by omega, fun x' y' h1 h2 => ?_⟩ (by omega)
          by_cases hxx : x' = x
          · rw [hxx]; exact hrow y' h2
          · exact hchk x' y' (by omega) h2
      · skip
        have hx' : x = N := by simp only [decide_eq_false_iff_not] at h4; omega
        subst hx'
        have h7 : Bal plan x := ⟨h1, h2, hgood, fun a b ha hb => by rw [show (x : Int).toNat = x from rfl, ← hf, ← hf]; exact (hchk a b ha hb).1, fun a b ha hb hab => by rw [show (x : Int).toNat = x from rfl, ← hg, ← hg]; exact (hchk a b ha hb).2 hab⟩
        refine cw_exit ?_
        refine post_then_x ?_
        refine post_then_x ?_
        refine post_blk_eq ?_
        refine post_then ?_
        refine cw_seq ?_
        -- region 31
        refine cw_region ?_
        refine sw_step rfl rfl rfl (OpR.q (q_assign rfl rfl)) ?_
        refine sw_nil ?_
        refine post_then ?_
        refine cw_ret ?_
        refine post_ret1 rfl (resOk_tmp rfl) ?_
        exact fun w' hw => ⟨by rw [balB_yes h7], (fun w h => Cl.sel (by (repeat first | exact Sel.nil _ | refine Sel.take 0 rfl ?_ | refine Sel.take 1 rfl ?_ | refine Sel.take 2 rfl ?_ | refine Sel.take 3 rfl ?_ | refine Sel.take 4 rfl ?_ | refine Sel.take 5 rfl ?_ | refine Sel.take 6 rfl ?_ | refine Sel.take 7 rfl ?_ | refine Sel.take 8 rfl ?_ | refine Sel.take 9 rfl ?_ | refine Sel.take 10 rfl ?_ | refine Sel.take 11 rfl ?_)) w h) _ hw⟩
end Go.Proofs.Ytekikelejncgeaa
