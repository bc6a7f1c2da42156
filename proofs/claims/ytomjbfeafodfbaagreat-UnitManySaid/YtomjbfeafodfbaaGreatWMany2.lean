import Derived.Test.YtomjbfeafodfbaaGreatWMany1
import Derived.WideKeyRuns
import Derived.ChangeKeysEq

set_option autoImplicit false
set_option linter.unusedSimpArgs false
set_option linter.unusedVariables false
set_option maxRecDepth 100000
namespace Go.Proofs.YtomjbfeafodfbaaGreat
open Go.Sx
open Enc (enc val)
instance : Enc Itm := ⟨fun x => [.pointer x.ptr, .int .i64 x.units.length, .int .i64 x.cost, .int .i64 x.least], 4, fun x => .agg #[.pointer x.ptr, .int .i64 x.units.length, .int .i64 x.cost, .int .i64 x.least], fun _ => rfl, by simp [Value.oneCell'], fun _ => rfl, by decide⟩
instance : HasTy Tryz.prog 144 Itm := hasTy_agg Tryz.sizeOf144 Tryz.isAgg144 (fun _ => rfl)
/-- A chain of units, the last one first. -/
def chR : List Int → Option Addr → World → Prop
  | [], p, _ => p = none
  | u :: r, p, w => ∃ b q, p = some ⟨b, 0, none⟩ ∧ BlkAt b [.pointer q, .int .i64 u] 152 w ∧ chR r q w
theorem chR_stb : ∀ {r : List Int} {p : Option Addr} {w : World}, chR r p w → Stb w [] (chR r p)
  | [], _, _, h => ⟨fun _ _ => h⟩
  | u :: r, p, w, ⟨b, q, h1, h2, h3⟩ => ⟨fun w' k => ⟨b, q, h1, (blk_stb h2).stb w' k, (chR_stb h3).stb w' k⟩⟩
def Ch (x : Itm) (w : World) : Prop := chR x.units.reverse x.ptr w
def RevTo (l m : List Int) (k : Nat) : Prop := m.length = l.length ∧ ∀ j, j < l.length → nth m j = if j < k ∨ l.length ≤ j + k then nth l (l.length - 1 - j) else nth l j
theorem revTo_step {l m : List Int} {k : Nat} (h : RevTo l m k) (hk : 2 * k + 1 < l.length) : RevTo l ((m.set k (nth m (l.length - 1 - k))).set (l.length - 1 - k) (nth m k)) (k + 1) := by
  obtain ⟨h1, h2⟩ := h
  refine ⟨by simp [h1], fun j hj => ?_⟩
  rw [nth_setP _ _ _ _ (by simp [h1]; omega), nth_setP _ _ _ _ (by omega), h2 _ (show l.length - 1 - k < l.length by omega), h2 _ (show k < l.length by omega), h2 j hj]
  by_cases e1 : j = l.length - 1 - k
  · rw [if_pos e1, if_neg (by omega), if_pos (by omega)]
    congr 1; omega
  · rw [if_neg e1]
    by_cases e2 : j = k
    · rw [if_pos e2, if_neg (by omega), if_pos (by omega), e2]
    · rw [if_neg e2]
      by_cases e3 : j < k ∨ l.length ≤ j + k
      · rw [if_pos e3, if_pos (by omega)]
      · rw [if_neg e3, if_neg (by omega)]
theorem revTo_end {l m : List Int} {k : Nat} (h : RevTo l m k) (hk : l.length ≤ 2 * k + 1) : m = l.reverse := by
  obtain ⟨h1, h2⟩ := h
  apply List.ext_getElem (by simp [h1])
  intro j hj1 hj2
  have := h2 j (by omega)
  rw [nth_get hj1] at this
  rw [this, List.getElem_reverse]
  split
  · rw [nth_get (by omega)]
  · rename_i hc
    rw [nth_get (by omega)]
    congr 1; omega
theorem reverse_spec (sv : SlV) (l : List Int) (hl : l.length ≤ 1000000) (w : World) (bs : List Nat) (hs : Sep [ownL 3 sv.v l] w bs) (hn : bs.Nodup) (hlt : ∀ b ∈ bs, b < w.heap.size) :
    Calls Tryz.prog 134 #[sv.v] w fun e w' => ∃ u : Unit, e = .returned (.tuple #[]) ∧ True ∧ Cl w bs [ownL 3 sv.v l.reverse] w' := by
  refine calls_cw (vs := [_]) Tryz.func134 rfl Tryz.ntmps134 rfl (Cl.start hs hn hlt) (cw_seq (cw_region (sr rfl rfl rfl ((q_move rfl rfl)) ?_)))
  refine sr rfl rfl rfl ((q_len rfl (.cons rfl inferInstance (.nil)) (by exact fun w hw => rd_own hw (by exact .head _)))) ?_
  refine sr rfl rfl rfl ((q_sub rfl rfl rfl (by intro hc; omega))) ?_
  refine sr rfl rfl rfl ((q_assign rfl rfl)) (sr rfl rfl rfl ((q_assign rfl rfl)) (sw_nil (post_then (cw_block ?_))))
  refine cw_loop (S := Nat × List Int) (fun y => [(0, [], sv.v), (2, [], .int .i64 y.1), (3, [], .int .i64 ((l.length : Int) - 1 - y.1))]) (fun y => Cl w bs [ownL 3 sv.v y.2]) (fun y => y.1 ≤ l.length ∧ RevTo l y.2 y.1) (fun y => l.length - y.1) (0, l) ⟨Nat.zero_le _, rfl, fun j hj => by rw [if_neg (by simp only; omega)]⟩ (by exact .cons rfl (.cons rfl (.cons' rfl (by congr 1; first | omega | (simp only; omega)) .nil))) (fun _ h => h) ?_
  rintro ⟨k, m⟩ ⟨hk, hm⟩
  dsimp only at hk hm ⊢
  have hml := hm.1
  refine cw_seq (cw_seq (cw_region (sr rfl rfl rfl ((q_move rfl rfl)) (sr rfl rfl rfl ((q_move rfl rfl)) (sr rfl rfl rfl ((q_lss rfl rfl rfl)) (sw_nil (post_then ?_)))))))
  refine cw_cond rfl (fun h => ?_) (fun h => ?_)
  · skip
    have h1 : 2 * k + 1 < l.length := by simp only [decide_eq_true_eq] at h; omega
    have e : ((l.length : Int) - 1 - k).toNat = l.length - 1 - k := by omega
    refine cw_skip (post_then (cw_seq (cw_block (cw_region_a (Cl w bs [ownL 3 sv.v m]) [13, 14, 15] mixed_Tryz ?_))))
    refine aw_pure 0 rfl (by kernel_rfl) (by kernel_rfl) (by kernel_rfl) (by kernel_rfl) (by kernel_rfl) rfl rfl rfl (q_move rfl rfl) ?_
    refine aw_pure 1 rfl (by kernel_rfl) (by kernel_rfl) (by kernel_rfl) (by kernel_rfl) (by kernel_rfl) rfl rfl rfl (q_move rfl rfl) ?_
    refine aw_pure 2 rfl (by kernel_rfl) (by kernel_rfl) (by kernel_rfl) (by kernel_rfl) (by kernel_rfl) rfl rfl rfl (q_move rfl rfl) ?_
    refine aw_pure 3 rfl (by kernel_rfl) (by kernel_rfl) (by kernel_rfl) (by kernel_rfl) (by kernel_rfl) rfl rfl rfl (q_move rfl rfl) ?_
    refine aw_pure 4 rfl (by kernel_rfl) (by kernel_rfl) (by kernel_rfl) (by kernel_rfl) (by kernel_rfl) rfl rfl rfl (q_move rfl rfl) ?_
    refine aw_pure 5 rfl (by kernel_rfl) (by kernel_rfl) (by kernel_rfl) (by kernel_rfl) (by kernel_rfl) rfl rfl rfl (q_move rfl rfl) ?_
    refine aw_take 6 (fun w h => Cl.sel (by exact .take 0 rfl (.nil _)) w h) rfl (by kernel_rfl) (by kernel_rfl) (by kernel_rfl) (by kernel_rfl) (by kernel_rfl) (by kernel_rfl) rfl rfl rfl (q_index rfl rfl rfl (by exact fun w hw => rd_own hw (by exact .head _)) (by intro hc; omega)) ?_
    refine aw_take 7 (fun w h => Cl.sel (by exact .take 0 rfl (.nil _)) w h) rfl (by kernel_rfl) (by kernel_rfl) (by kernel_rfl) (by kernel_rfl) (by kernel_rfl) (by kernel_rfl) rfl rfl rfl (q_loadEl rfl rfl rfl (by exact fun w hw => rd_own hw (by exact .head _)) (by intro hc; omega)) ?_
    refine aw_pure 8 rfl (by kernel_rfl) (by kernel_rfl) (by kernel_rfl) (by kernel_rfl) (by kernel_rfl) rfl rfl rfl (q_move rfl rfl) ?_
    refine aw_pure 9 rfl (by kernel_rfl) (by kernel_rfl) (by kernel_rfl) (by kernel_rfl) (by kernel_rfl) rfl rfl rfl (q_move rfl rfl) ?_
    refine aw_take 10 (fun w h => Cl.sel (by exact .take 0 rfl (.nil _)) w h) rfl (by kernel_rfl) (by kernel_rfl) (by kernel_rfl) (by kernel_rfl) (by kernel_rfl) (by kernel_rfl) rfl rfl rfl (q_indexN rfl rfl rfl (by exact fun w hw => rd_own hw (by exact .head _)) (by intro hc; omega)) ?_
    refine aw_take 11 (fun w h => Cl.sel (by exact .take 0 rfl (.nil _)) w h) rfl (by kernel_rfl) (by kernel_rfl) (by kernel_rfl) (by kernel_rfl) (by kernel_rfl) (by kernel_rfl) rfl rfl rfl (q_loadEl rfl rfl rfl (by exact fun w hw => rd_own hw (by exact .head _)) (by intro hc; omega)) ?_
    refine aw_take 12 (fun w h => Cl.sel (by exact .take 0 rfl (.nil _)) w h) rfl (by kernel_rfl) (by kernel_rfl) (by kernel_rfl) (by kernel_rfl) (by kernel_rfl) (by kernel_rfl) rfl rfl rfl (q_indexN rfl rfl rfl (by exact fun w hw => rd_own hw (by exact .head _)) (by intro hc; omega)) ?_
    refine aw_one0 13 (by kernel_rfl) rfl rfl rfl (e_storeEl1 (i := 0) rfl rfl rfl rfl rfl (by omega)) (by intro hb; (exact absurd hb (by decide))) ?_
    refine aw_q 14 (by kernel_rfl) rfl rfl rfl rfl (OpR.q (q_index rfl rfl rfl (by exact fun w hw => rd_own hw (by exact .head _)) (by intro hc; (simp only [List.length_set, List.length_append, List.length_cons, List.length_nil, List.length_replicate, List.length_take, List.length_drop, List.length_map]; omega)))) (by intro hb; (exact absurd hb (by decide))) ?_
    refine aw_one0 15 (by kernel_rfl) rfl rfl rfl (e_storeEl1 (i := 0) rfl rfl rfl rfl rfl (by (simp only [List.length_set, List.length_append, List.length_cons, List.length_nil, List.length_replicate, List.length_take, List.length_drop, List.length_map]; omega))) (by intro hb; (exact absurd hb (by decide))) ?_
    refine aw_end (by kernel_rfl) ?_
    refine post_blk (post_then (cw_region (sr rfl rfl rfl ((q_move rfl rfl)) ?_)))
    refine sr rfl rfl rfl ((q_add rfl rfl rfl (by intro hc; omega))) ?_
    refine sr rfl rfl rfl ((q_move rfl rfl)) ?_
    refine sr rfl rfl rfl ((q_sub rfl rfl rfl (by intro hc; omega))) ?_
    refine sr rfl rfl rfl ((q_assign rfl rfl)) (sr rfl rfl rfl ((q_assign rfl rfl)) (sw_nil ?_))
    refine post_next (k + 1, (m.set k (nth m (l.length - 1 - k))).set (l.length - 1 - k) (nth m k)) (by exact .cons rfl (.cons rfl (.cons' rfl (by congr 1; first | omega | (simp only; omega)) .nil))) (fun w3 hw3 => by rw [← e]; exact hw3) ⟨by simp only; omega, revTo_step hm h1⟩ (by simp only; omega)
  · skip
    have h1 : l.length ≤ 2 * k + 1 := by simp only [decide_eq_false_iff_not] at h; omega
    refine cw_exit (post_then_x (post_then_x (post_blk_eq (post_end0 rfl ?_))))
    exact fun w' hw => ⟨(), rfl, trivial, by rw [← revTo_end hm h1]; exact hw⟩
theorem list_spec (p : Option Addr) (us : List Int) (w : World) (hc : Stb w [] (chR us.reverse p)) (hl : us.length ≤ 1000000) : Calls Tryz.prog 109 #[.pointer p] w fun e w' => ∃ s : SlV, e = .returned s.v ∧ True ∧ Cl w [] [ownL 3 s.v us] w' := by
  refine calls_cw (vs := [_]) Tryz.func109 rfl Tryz.ntmps109 rfl (Cl.start0 w) (cw_seq (cw_region (sr rfl rfl rfl ((q_assign rfl rfl)) (sw_nil (post_then (cw_seq (cw_region (sr rfl rfl rfl ((q_assign rfl rfl)) (sw_nil (post_then (cw_seq (cw_block ?_))))))))))))
  refine cw_loop (S := (Option Addr × SlV) × (List Int × List Int)) (fun y => [(0, [], .pointer y.1.1), (3, [], y.1.2.v)]) (fun y => Cl w [] [ownL 3 y.1.2.v y.2.1]) (fun y => y.2.1 ++ y.2.2 = us.reverse ∧ Stb w [] (chR y.2.2 y.1.1)) (fun y => y.2.2.length) ((p, ⟨none, 0, 0⟩), ([], us.reverse)) ⟨rfl, hc⟩ (by exact .cons rfl (.cons rfl .nil)) (fun _ h => h.addNil (α := Int) 3) ?_
  rintro ⟨⟨q, s3⟩, ⟨acc, rem⟩⟩ ⟨he, hq⟩
  dsimp only at he hq ⊢
  have hll : acc.length + rem.length = us.length := by rw [← List.length_append, he, List.length_reverse]
  refine cw_seq (cw_seq (cw_region (sr rfl rfl rfl ((q_move rfl rfl)) ?_)))
  refine sr rfl rfl rfl ((q_neqPNil rfl rfl (by kernel_rfl))) ?_
  refine sw_nil (post_then ?_)
  refine cw_cond rfl (fun h => ?_) (fun h => ?_)
  · skip
    cases rem with
    | nil => exfalso; have := hq.here; simp only [chR] at this; rw [this] at h; cases h
    | cons u r =>
      obtain ⟨b, q', e1, hb, hr⟩ := hq.here
      have hbs := blk_stb hb
      subst e1
      simp only [List.length_cons] at hll
      refine cw_skip (post_then (cw_seq (cw_block (cw_region (sr rfl rfl rfl ((q_move rfl rfl)) (sr rfl rfl rfl ((q_move rfl rfl)) (sr rfl rfl rfl ((q_nilCheck rfl rfl)) (sr rfl rfl rfl ((q_fieldAddr rfl rfl)) ?_))))))))
      refine sr rfl rfl rfl ((q_loadS rfl rfl (fun w hw => Stb.cl (by assumption) hw) rfl)) ?_
      refine sw_x rfl rfl rfl (e_build1 (α := Int) rfl rfl rfl rfl) (fun s15 => ?_)
      refine sw_x rfl rfl rfl (e_append (i := 1) rfl (.cons rfl inferInstance (.cons rfl inferInstance (.nil))) rfl rfl (by exact fun w hw => rd_own hw (by exact .head _)) (by simp only [List.length_set, List.length_append, List.length_cons, List.length_nil, List.length_replicate, List.length_take, List.length_drop, List.length_map]; omega) rfl) (fun s16 => ?_)
      refine sr rfl rfl rfl ((q_assign rfl rfl)) (sw_nil (post_blk (post_then (cw_region (sr rfl rfl rfl ((q_move rfl rfl)) (sr rfl rfl rfl ((q_nilCheck rfl rfl)) (sr rfl rfl rfl ((q_fieldAddr rfl rfl)) ?_)))))))
      refine sr rfl rfl rfl ((q_loadS rfl rfl (fun w hw => Stb.cl (by assumption) hw) rfl)) ?_
      refine sr rfl rfl rfl ((q_assign rfl rfl)) (sw_nil ?_)
      refine post_next ((q', s16), (acc ++ [u], r)) (by exact .cons rfl (.cons rfl .nil)) (fun w h => Cl.sel (by exact .take 1 rfl (.nil _)) w h) ⟨by rw [← he]; simp, chR_stb hr⟩ (by simp)
  · skip
    cases rem with
    | cons u r =>
      exfalso
      obtain ⟨b, q', e1, _, _⟩ := hq.here
      rw [e1] at h; cases h
    | nil =>
      simp only [List.append_nil] at he
      have hrv : acc.reverse = us := by rw [he, List.reverse_reverse]
      refine cw_exit (post_then_x (post_then_x (post_blk_eq (post_then (cw_seq (cw_region (sr rfl rfl rfl ((q_move rfl rfl)) ?_)))))))
      refine sw_x rfl rfl rfl (e_callH (A := [ownL 3 s3.v acc]) (F := []) (CanCall.mk Tryz.call134) rfl rfl (.cons rfl inferInstance (.nil)) (.refl _) (fun w bs k1 k2 k3 k4 k5 => reverse_spec s3 acc (by simp only [List.length_nil] at hll; omega) w bs k1 k2 k3)) (fun u17 => ?_)
      refine sw_imp fun _ => ?_
      rw [hrv]
      refine sw_nil (post_then (cw_seq (cw_region (sr rfl rfl rfl ((q_move rfl rfl)) (sr rfl rfl rfl ((q_assign rfl rfl)) (sw_nil (post_then (cw_ret (post_ret1 rfl (resOk_tmp rfl) ?_)))))))))
      exact fun w' hw => ⟨s3, rfl, trivial, hw⟩
def cmpL : List Int → List Int → Int
  | [], [] => 0
  | [], _ :: _ => -1
  | _ :: _, [] => 1
  | x :: a, y :: b => if x < y then -1 else if y < x then 1 else cmpL a b
theorem cmpL_lt : ∀ a b, decide (cmpL a b < 0) = lexLt a b
  | [], [] => rfl
  | [], _ :: _ => rfl
  | _ :: _, [] => rfl
  | x :: a, y :: b => by
    simp only [cmpL, lexLt]
    by_cases h1 : x < y
    · simp [h1]
    · by_cases h2 : y < x
      · have : ¬ x = y := by omega
        simp [h1, h2, this]
      · have : x = y := by omega
        subst this
        simp only [Int.lt_irrefl, if_false, decide_false, decide_true, Bool.true_and, Bool.false_or]
        exact cmpL_lt a b
theorem isNaN_spec (x : Int) (w : World) : Calls Tryz.prog 159 #[.int .i64 x] w fun e w' => e = .returned (.bool false) ∧ Cl w [] [] w' := by
  refine calls_cw (vs := [_]) Tryz.func159 rfl Tryz.ntmps159 rfl (Cl.start0 w) (cw_seq (cw_region (sr rfl rfl rfl ((q_assign rfl rfl)) (sw_nil (post_then (cw_seq (cw_region (sr rfl rfl rfl ((q_move rfl rfl)) (sr rfl rfl rfl ((q_move rfl rfl)) (sr rfl rfl rfl ((q_neq rfl rfl rfl)) (sr rfl rfl rfl ((q_assign rfl rfl)) (sw_nil (post_then (cw_ret (post_ret1 rfl (resOk_tmp rfl) ?_)))))))))))))))
  exact fun w' hw => ⟨by simp, hw⟩
theorem cmpCompare_spec (x y : Int) (w : World) : Calls Tryz.prog 184 #[.int .i64 x, .int .i64 y] w fun e w' => e = .returned (.int .i64 (if x < y then -1 else if y < x then 1 else 0)) ∧ Cl w [] [] w' := by
  refine calls_cw (vs := [_, _]) Tryz.func184 rfl Tryz.ntmps184 rfl (Cl.start0 w) (cw_seq (cw_region (sr rfl rfl rfl ((q_assign rfl rfl)) (sw_nil (post_then (cw_seq (cw_region (sr rfl rfl rfl ((q_move rfl rfl)) (sw_step rfl rfl rfl (q_call (CanCall.mk Tryz.call159) rfl (.cons rfl inferInstance (.nil)) (fun _ w hw => callq hw (isNaN_spec _ w))) (sr rfl rfl rfl ((q_assign rfl rfl)) (sw_nil (post_then (cw_seq (cw_region (sr rfl rfl rfl ((q_move rfl rfl)) (sw_step rfl rfl rfl (q_call (CanCall.mk Tryz.call159) rfl (.cons rfl inferInstance (.nil)) (fun _ w hw => callq hw (isNaN_spec _ w))) (sr rfl rfl rfl ((q_assign rfl rfl)) (sw_nil (post_then (cw_seq (cw_seq (cw_region (sr rfl rfl rfl ((q_move rfl rfl)) (sw_nil (post_then ?_)))))))))))))))))))))))))
  refine cw_cond rfl (fun h => ?_) (fun h => ?_)
  · skip
    cases h
  · skip
    refine cw_skip (post_then (cw_seq (cw_seq (cw_region (sr rfl rfl rfl ((q_move rfl rfl)) (sw_nil (post_then ?_)))))))
    refine cw_cond rfl (fun h2 => ?_) (fun h2 => ?_)
    · skip
      cases h2
    · skip
      refine cw_skip (post_then (cw_seq (cw_seq (cw_region (sr rfl rfl rfl ((q_move rfl rfl)) (sr rfl rfl rfl ((q_move rfl rfl)) (sr rfl rfl rfl ((q_lss rfl rfl rfl)) (sw_nil (post_then ?_)))))))))
      refine cw_cond rfl (fun h3 => ?_) (fun h3 => ?_)
      · skip
        have h4 : x < y := by simpa using h3
        refine cw_seq (cw_region (sr rfl rfl rfl ((q_assign rfl rfl)) (sw_nil (post_then (cw_ret (post_then_r (post_ret1 rfl (resOk_tmp rfl) ?_)))))))
        exact fun w' hw => ⟨by rw [if_pos h4], hw⟩
      · skip
        have h4 : ¬ x < y := by simpa using h3
        refine cw_skip (post_then (cw_seq (cw_seq (cw_region (sr rfl rfl rfl ((q_move rfl rfl)) (sr rfl rfl rfl ((q_move rfl rfl)) (sr rfl rfl rfl ((q_gtr rfl rfl rfl)) (sw_nil (post_then ?_)))))))))
        refine cw_cond rfl (fun h5 => ?_) (fun h5 => ?_)
        · skip
          have h6 : y < x := by simpa using h5
          refine cw_seq (cw_region (sr rfl rfl rfl ((q_assign rfl rfl)) (sw_nil (post_then (cw_ret (post_then_r (post_ret1 rfl (resOk_tmp rfl) ?_)))))))
          exact fun w' hw => ⟨by rw [if_neg h4, if_pos h6], hw⟩
        · skip
          have h6 : ¬ y < x := by simpa using h5
          refine cw_skip (post_then (cw_seq (cw_region (sr rfl rfl rfl ((q_assign rfl rfl)) (sw_nil (post_then (cw_ret (post_ret1 rfl (resOk_tmp rfl) ?_))))))))
          exact fun w' hw => ⟨by rw [if_neg h4, if_neg h6], hw⟩
theorem compare_spec (sa sb : Value) (a b : List Int) (w : World) (ha : Stb w [] (RdL sa a)) (hb : Stb w [] (RdL sb b)) : Calls Tryz.prog 183 #[sa, sb] w fun e w' => e = .returned (.int .i64 (cmpL a b)) ∧ Cl w [] [] w' := by
  have hL := rd_len ha.here
  refine calls_cw (vs := [_, _]) Tryz.func183 rfl Tryz.ntmps183 rfl (Cl.start0 w) (cw_seq (cw_region (sr rfl rfl rfl ((q_assign rfl rfl)) (sw_nil (post_then (cw_seq (cw_seq (cw_region (sr rfl rfl rfl ((q_move rfl rfl)) ?_)))))))))
  refine sr rfl rfl rfl ((q_len rfl (.cons rfl inferInstance (.nil)) (by exact fun w hw => Stb.cl (by assumption) hw))) ?_
  refine sr rfl rfl rfl ((q_move rfl rfl)) (sw_nil (post_then (cw_block ?_)))
  refine cw_loop (S := Nat) (fun k => [(0, [], sa), (1, [], sb), (9, [], sa), (10, [], .int .i64 a.length), (11, [], .int .i64 k)]) (fun _ => Cl w [] []) (fun k => k ≤ a.length ∧ k ≤ b.length ∧ cmpL a b = cmpL (a.drop k) (b.drop k)) (fun k => a.length - k) 0 ⟨Nat.zero_le _, Nat.zero_le _, rfl⟩ (by exact .cons rfl (.cons rfl (.cons rfl (.cons rfl (.cons rfl .nil))))) (fun _ h => h) ?_
  rintro k ⟨hk, hk2, hc⟩
  refine cw_seq (cw_region (sr rfl rfl rfl ((q_lss rfl rfl rfl)) (sw_nil (post_then (cw_seq ?_)))))
  refine cw_cond rfl (fun h => ?_) (fun h => ?_)
  · skip
    have hk' : k < a.length := by simp only [decide_eq_true_eq] at h; omega
    have e1 : a.drop k = nth a k :: a.drop (k + 1) := by rw [List.drop_eq_getElem_cons hk', nth_get hk']
    rw [e1] at hc
    refine cw_skip (post_then (cw_seq (cw_block (cw_seq (cw_region (sr rfl rfl rfl ((q_move rfl rfl)) ?_))))))
    refine sr rfl rfl rfl ((q_indexN rfl rfl rfl (by exact fun w hw => Stb.cl (by assumption) hw) (by intro hc; omega))) ?_
    refine sr rfl rfl rfl ((q_loadEl rfl rfl rfl (by exact fun w hw => Stb.cl (by assumption) hw) (by intro hc; omega))) ?_
    refine sr rfl rfl rfl ((q_assign rfl rfl)) (sr rfl rfl rfl ((q_assign rfl rfl)) (sw_nil (post_then (cw_seq (cw_seq (cw_region (sr rfl rfl rfl ((q_move rfl rfl)) (sr rfl rfl rfl ((q_move rfl rfl)) ?_))))))))
    refine sr rfl rfl rfl ((q_len rfl (.cons rfl inferInstance (.nil)) (by exact fun w hw => Stb.cl (by assumption) hw))) ?_
    refine sr rfl rfl rfl ((q_geq rfl rfl rfl)) (sw_nil (post_then ?_))
    refine cw_cond rfl (fun h2 => ?_) (fun h2 => ?_)
    · skip
      have h3 : b.length ≤ k := by simp only [decide_eq_true_eq] at h2; omega
      rw [List.drop_of_length_le h3] at hc
      refine cw_seq (cw_region (sr rfl rfl rfl ((q_assign rfl rfl)) (sw_nil (post_then (cw_ret (post_then_r (post_blk_r (post_then_r (post_then_r (post_blk_r (post_then_r (post_ret1 rfl (resOk_tmp rfl) ?_))))))))))))
      exact fun w' hw => ⟨by rw [hc]; rfl, hw⟩
    · skip
      have h3 : k < b.length := by simp only [decide_eq_false_iff_not] at h2; omega
      have e2 : b.drop k = nth b k :: b.drop (k + 1) := by rw [List.drop_eq_getElem_cons h3, nth_get h3]
      rw [e2, cmpL] at hc
      refine cw_skip (post_then (cw_seq (cw_region (sr rfl rfl rfl ((q_move rfl rfl)) (sr rfl rfl rfl ((q_move rfl rfl)) ?_)))))
      refine sr rfl rfl rfl ((q_indexN rfl rfl rfl (by exact fun w hw => Stb.cl (by assumption) hw) (by intro hc; omega))) ?_
      refine sr rfl rfl rfl ((q_loadEl rfl rfl rfl (by exact fun w hw => Stb.cl (by assumption) hw) (by intro hc; omega))) ?_
      refine sr rfl rfl rfl ((q_assign rfl rfl)) (sw_nil (post_then (cw_seq (cw_region (sr rfl rfl rfl ((q_move rfl rfl)) (sr rfl rfl rfl ((q_move rfl rfl)) (sw_step rfl rfl rfl (q_call (CanCall.mk Tryz.call184) rfl (.cons rfl inferInstance (.cons rfl inferInstance (.nil))) (fun _ w hw => callq hw (cmpCompare_spec _ _ w))) (sr rfl rfl rfl ((q_assign rfl rfl)) (sw_nil (post_then (cw_seq (cw_region (sr rfl rfl rfl ((q_move rfl rfl)) (sr rfl rfl rfl ((q_neq rfl rfl rfl)) (sw_nil (post_then ?_))))))))))))))))
      refine cw_cond rfl (fun h4 => ?_) (fun h4 => ?_)
      · skip
        refine cw_seq (cw_region (sr rfl rfl rfl ((q_move rfl rfl)) (sr rfl rfl rfl ((q_assign rfl rfl)) (sw_nil (post_then (cw_ret (post_blk_r (post_then_r (post_then_r (post_blk_r (post_then_r (post_ret1 rfl (resOk_tmp rfl) ?_))))))))))))
        refine fun w' hw => ⟨?_, hw⟩
        rw [hc]
        by_cases g1 : nth a k < nth b k
        · rw [if_pos g1, if_pos g1]
        · rw [if_neg g1, if_neg g1]
          by_cases g2 : nth b k < nth a k
          · rw [if_pos g2, if_pos g2]
          · simp [g1, g2] at h4
      · skip
        have g1 : ¬ nth a k < nth b k := by intro g; simp [g] at h4
        have g2 : ¬ nth b k < nth a k := by intro g; simp [g, g1] at h4
        rw [if_neg g1, if_neg g2] at hc
        refine cw_skip (post_blk (post_then (cw_region ?_)))
        refine sr rfl rfl rfl ((q_add rfl rfl rfl (by intro hc; omega))) ?_
        refine sr rfl rfl rfl ((q_move rfl rfl)) (sw_nil ?_)
        exact post_next (k + 1) (by exact .cons rfl (.cons rfl (.cons rfl (.cons rfl (.cons rfl .nil))))) (fun _ h => h) ⟨by omega, by omega, hc⟩ (by omega)
  · skip
    have hk' : k = a.length := by simp only [decide_eq_false_iff_not] at h; omega
    subst hk'
    rw [List.drop_length] at hc
    refine cw_exit (post_then_x (post_then_x (post_blk_eq (post_then (cw_seq (cw_seq (cw_region (sr rfl rfl rfl ((q_move rfl rfl)) ?_))))))))
    refine sr rfl rfl rfl ((q_len rfl (.cons rfl inferInstance (.nil)) (by exact fun w hw => Stb.cl (by assumption) hw))) ?_
    refine sr rfl rfl rfl ((q_move rfl rfl)) ?_
    refine sr rfl rfl rfl ((q_len rfl (.cons rfl inferInstance (.nil)) (by exact fun w hw => Stb.cl (by assumption) hw))) ?_
    refine sr rfl rfl rfl ((q_lss rfl rfl rfl)) (sw_nil (post_then ?_))
    refine cw_cond rfl (fun h2 => ?_) (fun h2 => ?_)
    · skip
      have h3 : a.length < b.length := by simp only [decide_eq_true_eq] at h2; omega
      rw [List.drop_eq_getElem_cons h3, cmpL] at hc
      refine cw_seq (cw_region (sr rfl rfl rfl ((q_assign rfl rfl)) (sw_nil (post_then (cw_ret (post_then_r (post_ret1 rfl (resOk_tmp rfl) ?_)))))))
      exact fun w' hw => ⟨by rw [hc], hw⟩
    · skip
      have h3 : b.length ≤ a.length := by simp only [decide_eq_false_iff_not] at h2; omega
      rw [List.drop_of_length_le h3, cmpL] at hc
      refine cw_skip (post_then (cw_seq (cw_region (sr rfl rfl rfl ((q_assign rfl rfl)) (sw_nil (post_then (cw_ret (post_ret1 rfl (resOk_tmp rfl) ?_))))))))
      exact fun w' hw => ⟨by rw [hc], hw⟩
end Go.Proofs.YtomjbfeafodfbaaGreat

set_option autoImplicit false
set_option maxRecDepth 100000
namespace Go.Proofs.YtomjbfeafodfbaaGreat
open Go.Sx
open Enc (enc val)
/-- What the elements of a queue point at. -/
def ChOk (w : World) (bs : List Nat) (l : List Itm) : Prop := ∀ x ∈ l, Stb w bs (Ch x) ∧ x.units.length ≤ 1000000
theorem ChOk.arg {w0 w : World} {fp : List Nat} {H : List Asn} {l : List Itm} (hw : Cl w0 fp H w) (h : ChOk w0 fp l) : ChOk w [] l := fun x hx => ⟨stb_arg hw (h x hx).1, (h x hx).2⟩
theorem less_spec (sq : SlV) (l : List Itm) (i j : Nat) (w : World) (hq : Stb w [] (RdL sq.v l)) (hi : i < l.length) (hj : j < l.length) (hch : ChOk w [] l) : Calls Tryz.prog 178 #[sq.v, .int .i64 i, .int .i64 j] w fun e w' => e = .returned (.bool (Itm.lt (nth l i) (nth l j))) ∧ Cl w [] [] w' := by
  have hL := rd_len hq.here
  have hci := hch (nth l i) (by rw [nth_get hi]; exact List.getElem_mem hi)
  have hcj := hch (nth l j) (by rw [nth_get hj]; exact List.getElem_mem hj)
  refine calls_cw (vs := [_, _, _]) Tryz.func178 rfl Tryz.ntmps178 rfl (Cl.start0 w) (cw_seq (cw_region (sr rfl rfl rfl ((q_assign rfl rfl)) (sw_nil (post_then (cw_seq (cw_seq ?_)))))))
  refine cw_region_q mixed_Tryz (by kernel_rfl) ?_
  refine qr rfl rfl rfl ((q_move rfl rfl)) (qr rfl rfl rfl ((q_move rfl rfl)) ?_)
  refine qr rfl rfl rfl ((q_indexN rfl rfl rfl (by exact fun w hw => Stb.cl (by assumption) hw) (by intro hc; omega))) ?_
  refine qr rfl rfl rfl ((q_fieldEl rfl rfl (by exact fun w hw => Stb.cl (by assumption) hw) (by intro hc; omega))) ?_
  refine qr rfl rfl rfl ((q_loadF rfl rfl rfl (by exact fun w hw => Stb.cl (by assumption) hw) (by intro hc; omega) rfl)) ?_
  refine qr rfl rfl rfl ((q_move rfl rfl)) (qr rfl rfl rfl ((q_move rfl rfl)) ?_)
  refine qr rfl rfl rfl ((q_indexN rfl rfl rfl (by exact fun w hw => Stb.cl (by assumption) hw) (by intro hc; omega))) ?_
  refine qr rfl rfl rfl ((q_fieldEl rfl rfl (by exact fun w hw => Stb.cl (by assumption) hw) (by intro hc; omega))) ?_
  refine qr rfl rfl rfl ((q_loadF rfl rfl rfl (by exact fun w hw => Stb.cl (by assumption) hw) (by intro hc; omega) rfl)) ?_
  refine qr rfl rfl rfl ((q_neq rfl rfl rfl)) (qw_end (post_then ?_))
  refine cw_cond rfl (fun h => ?_) (fun h => ?_)
  · skip
    have h1 : ¬ (nth l i).least = (nth l j).least := by simpa using h
    refine cw_seq ?_
    refine cw_region_q mixed_Tryz (by kernel_rfl) ?_
    refine qr rfl rfl rfl ((q_move rfl rfl)) (qr rfl rfl rfl ((q_move rfl rfl)) ?_)
    refine qr rfl rfl rfl ((q_indexN rfl rfl rfl (by exact fun w hw => Stb.cl (by assumption) hw) (by intro hc; omega))) ?_
    refine qr rfl rfl rfl ((q_fieldEl rfl rfl (by exact fun w hw => Stb.cl (by assumption) hw) (by intro hc; omega))) ?_
    refine qr rfl rfl rfl ((q_loadF rfl rfl rfl (by exact fun w hw => Stb.cl (by assumption) hw) (by intro hc; omega) rfl)) ?_
    refine qr rfl rfl rfl ((q_move rfl rfl)) (qr rfl rfl rfl ((q_move rfl rfl)) ?_)
    refine qr rfl rfl rfl ((q_indexN rfl rfl rfl (by exact fun w hw => Stb.cl (by assumption) hw) (by intro hc; omega))) ?_
    refine qr rfl rfl rfl ((q_fieldEl rfl rfl (by exact fun w hw => Stb.cl (by assumption) hw) (by intro hc; omega))) ?_
    refine qr rfl rfl rfl ((q_loadF rfl rfl rfl (by exact fun w hw => Stb.cl (by assumption) hw) (by intro hc; omega) rfl)) ?_
    refine qr rfl rfl rfl ((q_lss rfl rfl rfl)) (qr rfl rfl rfl ((q_assign rfl rfl)) (qw_end (post_then (cw_ret (post_then_r (post_ret1 rfl (resOk_tmp rfl) ?_))))))
    exact fun w' hw => ⟨by simp [Itm.lt, h1], hw⟩
  · skip
    have h1 : (nth l i).least = (nth l j).least := by simpa using h
    refine cw_skip (post_then (cw_seq (cw_region_a (Cl w [] []) [] mixed_Tryz ?_)))
    refine aw_pure 0 rfl (by kernel_rfl) (by kernel_rfl) (by kernel_rfl) (by kernel_rfl) (by kernel_rfl) rfl rfl rfl (q_move rfl rfl) ?_
    refine aw_pure 1 rfl (by kernel_rfl) (by kernel_rfl) (by kernel_rfl) (by kernel_rfl) (by kernel_rfl) rfl rfl rfl (q_move rfl rfl) ?_
    refine aw_take 2 (fun w h => Cl.sel (by exact .nil _) w h) rfl (by kernel_rfl) (by kernel_rfl) (by kernel_rfl) (by kernel_rfl) (by kernel_rfl) (by kernel_rfl) rfl rfl rfl (q_indexN rfl rfl rfl (by exact fun w hw => Stb.cl (by assumption) hw) (by intro hc; omega)) ?_
    refine aw_take 3 (fun w h => Cl.sel (by exact .nil _) w h) rfl (by kernel_rfl) (by kernel_rfl) (by kernel_rfl) (by kernel_rfl) (by kernel_rfl) (by kernel_rfl) rfl rfl rfl (q_fieldEl rfl rfl (by exact fun w hw => Stb.cl (by assumption) hw) (by intro hc; omega)) ?_
    refine aw_take 4 (fun w h => Cl.sel (by exact .nil _) w h) rfl (by kernel_rfl) (by kernel_rfl) (by kernel_rfl) (by kernel_rfl) (by kernel_rfl) (by kernel_rfl) rfl rfl rfl (q_loadF rfl rfl rfl (by exact fun w hw => Stb.cl (by assumption) hw) (by intro hc; omega) rfl) ?_
    refine aw_pure 6 rfl (by kernel_rfl) (by kernel_rfl) (by kernel_rfl) (by kernel_rfl) (by kernel_rfl) rfl rfl rfl (q_move rfl rfl) ?_
    refine aw_pure 7 rfl (by kernel_rfl) (by kernel_rfl) (by kernel_rfl) (by kernel_rfl) (by kernel_rfl) rfl rfl rfl (q_move rfl rfl) ?_
    refine aw_take 8 (fun w h => Cl.sel (by exact .nil _) w h) rfl (by kernel_rfl) (by kernel_rfl) (by kernel_rfl) (by kernel_rfl) (by kernel_rfl) (by kernel_rfl) rfl rfl rfl (q_indexN rfl rfl rfl (by exact fun w hw => Stb.cl (by assumption) hw) (by intro hc; omega)) ?_
    refine aw_take 9 (fun w h => Cl.sel (by exact .nil _) w h) rfl (by kernel_rfl) (by kernel_rfl) (by kernel_rfl) (by kernel_rfl) (by kernel_rfl) (by kernel_rfl) rfl rfl rfl (q_fieldEl rfl rfl (by exact fun w hw => Stb.cl (by assumption) hw) (by intro hc; omega)) ?_
    refine aw_take 10 (fun w h => Cl.sel (by exact .nil _) w h) rfl (by kernel_rfl) (by kernel_rfl) (by kernel_rfl) (by kernel_rfl) (by kernel_rfl) (by kernel_rfl) rfl rfl rfl (q_loadF rfl rfl rfl (by exact fun w hw => Stb.cl (by assumption) hw) (by intro hc; omega) rfl) ?_
    refine aw_x 5 (by kernel_rfl) rfl rfl rfl rfl (e_call (CanCall.mk Tryz.call109) rfl (.cons rfl inferInstance (.nil)) (fun w hw => list_spec _ _ w (stb_arg hw hci.1) hci.2)) (by intro hb; exact fun _ w h => (fun w h => Cl.sel (by exact .nil _) w h) w h.2) (fun s34 => ?_)
    refine aw_imp fun _ => ?_
    refine aw_x 11 (by kernel_rfl) rfl rfl rfl rfl (e_call (CanCall.mk Tryz.call109) rfl (.cons rfl inferInstance (.nil)) (fun w hw => list_spec _ _ w (stb_arg hw hcj.1) hcj.2)) (by intro hb; exact fun _ w h => (fun w h => Cl.sel (by exact .nil _) w h) w h.2) (fun s40 => ?_)
    refine aw_imp fun _ => ?_
    refine aw_q 12 (by kernel_rfl) rfl rfl rfl rfl (q_call (CanCall.mk Tryz.call183) rfl (.cons rfl inferInstance (.cons rfl inferInstance (.nil))) (fun _ w hw => callq hw (compare_spec _ _ _ _ w (by exact stb_own hw (by exact .tail _ (.head _))) (by exact stb_own hw (by exact .head _))))) (by intro hb; exact (fun w h => Cl.sel (by exact .nil _) w h)) ?_
    refine aw_pure 13 rfl (by kernel_rfl) (by kernel_rfl) (by kernel_rfl) (by kernel_rfl) (by kernel_rfl) rfl rfl rfl (q_lss rfl rfl rfl) ?_
    refine aw_pure 14 rfl (by kernel_rfl) (by kernel_rfl) (by kernel_rfl) (by kernel_rfl) (by kernel_rfl) rfl rfl rfl (q_assign rfl rfl) ?_
    refine aw_end (by kernel_rfl) ?_
    refine post_then (cw_ret (post_ret1 rfl (resOk_tmp rfl) ?_))
    exact fun w' hw => ⟨by simp only [Itm.lt, h1, ← cmpL_lt]; simp, (fun w h => Cl.sel (by exact .nil _) w h) _ hw⟩
theorem qlen_spec (sq : SlV) (l : List Itm) (w : World) (hq : Stb w [] (RdL sq.v l)) : Calls Tryz.prog 177 #[sq.v] w fun e w' => e = .returned (.int .i64 l.length) ∧ Cl w [] [] w' := by
  refine calls_cw (vs := [_]) Tryz.func177 rfl Tryz.ntmps177 rfl (Cl.start0 w) (cw_seq (cw_region (sr rfl rfl rfl ((q_assign rfl rfl)) (sw_nil (post_then (cw_seq (cw_region (sr rfl rfl rfl ((q_move rfl rfl)) ?_))))))))
  refine sr rfl rfl rfl ((q_len rfl (.cons rfl inferInstance (.nil)) (by exact fun w hw => Stb.cl (by assumption) hw))) ?_
  refine sr rfl rfl rfl ((q_assign rfl rfl)) (sw_nil (post_then (cw_ret (post_ret1 rfl (resOk_tmp rfl) ?_))))
  exact fun w' hw => ⟨rfl, hw⟩
theorem qempty_spec (sq : SlV) (l : List Itm) (w : World) (hq : Stb w [] (RdL sq.v l)) : Calls Tryz.prog 182 #[sq.v] w fun e w' => e = .returned (.bool (decide (l.length = 0))) ∧ Cl w [] [] w' := by
  refine calls_cw (vs := [_]) Tryz.func182 rfl Tryz.ntmps182 rfl (Cl.start0 w) (cw_seq (cw_region (sr rfl rfl rfl ((q_assign rfl rfl)) (sw_nil (post_then (cw_seq (cw_region (sr rfl rfl rfl ((q_move rfl rfl)) ?_))))))))
  refine sr rfl rfl rfl ((q_len rfl (.cons rfl inferInstance (.nil)) (by exact fun w hw => Stb.cl (by assumption) hw))) ?_
  refine sr rfl rfl rfl ((q_eql rfl rfl rfl)) (sr rfl rfl rfl ((q_assign rfl rfl)) (sw_nil (post_then (cw_ret (post_ret1 rfl (resOk_tmp rfl) ?_)))))
  exact fun w' hw => ⟨by congr 2; rw [decide_eq_decide]; omega, hw⟩
theorem swap_spec (sq : SlV) (l : List Itm) (i j : Nat) (hi : i < l.length) (hj : j < l.length) (w : World) (bs : List Nat) (hs : Sep [ownL 144 sq.v l] w bs) (hn : bs.Nodup) (hlt : ∀ b ∈ bs, b < w.heap.size) : Calls Tryz.prog 181 #[sq.v, .int .i64 i, .int .i64 j] w fun e w' => ∃ u : Unit, e = .returned (.tuple #[]) ∧ True ∧ Cl w bs [ownL 144 sq.v (swp l i j)] w' := by
  refine calls_cw (vs := [_, _, _]) Tryz.func181 rfl Tryz.ntmps181 rfl (Cl.start hs hn hlt) (cw_region_a (Cl w bs [ownL 144 sq.v l]) [13, 14, 15] mixed_Tryz ?_)
  refine aw_pure 0 rfl (by kernel_rfl) (by kernel_rfl) (by kernel_rfl) (by kernel_rfl) (by kernel_rfl) rfl rfl rfl (q_move rfl rfl) ?_
  refine aw_pure 1 rfl (by kernel_rfl) (by kernel_rfl) (by kernel_rfl) (by kernel_rfl) (by kernel_rfl) rfl rfl rfl (q_move rfl rfl) ?_
  refine aw_pure 2 rfl (by kernel_rfl) (by kernel_rfl) (by kernel_rfl) (by kernel_rfl) (by kernel_rfl) rfl rfl rfl (q_move rfl rfl) ?_
  refine aw_pure 3 rfl (by kernel_rfl) (by kernel_rfl) (by kernel_rfl) (by kernel_rfl) (by kernel_rfl) rfl rfl rfl (q_move rfl rfl) ?_
  refine aw_pure 4 rfl (by kernel_rfl) (by kernel_rfl) (by kernel_rfl) (by kernel_rfl) (by kernel_rfl) rfl rfl rfl (q_move rfl rfl) ?_
  refine aw_pure 5 rfl (by kernel_rfl) (by kernel_rfl) (by kernel_rfl) (by kernel_rfl) (by kernel_rfl) rfl rfl rfl (q_move rfl rfl) ?_
  refine aw_take 6 (fun w h => Cl.sel (by exact .take 0 rfl (.nil _)) w h) rfl (by kernel_rfl) (by kernel_rfl) (by kernel_rfl) (by kernel_rfl) (by kernel_rfl) (by kernel_rfl) rfl rfl rfl (q_indexN rfl rfl rfl (by exact fun w hw => rd_own hw (by exact .head _)) (by intro hc; omega)) ?_
  refine aw_take 7 (fun w h => Cl.sel (by exact .take 0 rfl (.nil _)) w h) rfl (by kernel_rfl) (by kernel_rfl) (by kernel_rfl) (by kernel_rfl) (by kernel_rfl) (by kernel_rfl) rfl rfl rfl (q_loadEl rfl rfl rfl (by exact fun w hw => rd_own hw (by exact .head _)) (by intro hc; omega)) ?_
  refine aw_pure 8 rfl (by kernel_rfl) (by kernel_rfl) (by kernel_rfl) (by kernel_rfl) (by kernel_rfl) rfl rfl rfl (q_move rfl rfl) ?_
  refine aw_pure 9 rfl (by kernel_rfl) (by kernel_rfl) (by kernel_rfl) (by kernel_rfl) (by kernel_rfl) rfl rfl rfl (q_move rfl rfl) ?_
  refine aw_take 10 (fun w h => Cl.sel (by exact .take 0 rfl (.nil _)) w h) rfl (by kernel_rfl) (by kernel_rfl) (by kernel_rfl) (by kernel_rfl) (by kernel_rfl) (by kernel_rfl) rfl rfl rfl (q_indexN rfl rfl rfl (by exact fun w hw => rd_own hw (by exact .head _)) (by intro hc; omega)) ?_
  refine aw_take 11 (fun w h => Cl.sel (by exact .take 0 rfl (.nil _)) w h) rfl (by kernel_rfl) (by kernel_rfl) (by kernel_rfl) (by kernel_rfl) (by kernel_rfl) (by kernel_rfl) rfl rfl rfl (q_loadEl rfl rfl rfl (by exact fun w hw => rd_own hw (by exact .head _)) (by intro hc; omega)) ?_
  refine aw_take 12 (fun w h => Cl.sel (by exact .take 0 rfl (.nil _)) w h) rfl (by kernel_rfl) (by kernel_rfl) (by kernel_rfl) (by kernel_rfl) (by kernel_rfl) (by kernel_rfl) rfl rfl rfl (q_indexN rfl rfl rfl (by exact fun w hw => rd_own hw (by exact .head _)) (by intro hc; omega)) ?_
  refine aw_one0 13 (by kernel_rfl) rfl rfl rfl (e_storeEl1 (i := 0) rfl rfl rfl rfl rfl (by omega)) (by intro hb; (exact absurd hb (by decide))) ?_
  refine aw_q 14 (by kernel_rfl) rfl rfl rfl rfl (OpR.q (q_indexN rfl rfl rfl (by exact fun w hw => rd_own hw (by exact .head _)) (by intro hc; (simp only [List.length_set, List.length_append, List.length_cons, List.length_nil, List.length_replicate, List.length_take, List.length_drop, List.length_map]; omega)))) (by intro hb; (exact absurd hb (by decide))) ?_
  refine aw_one0 15 (by kernel_rfl) rfl rfl rfl (e_storeEl1 (i := 0) rfl rfl rfl rfl rfl (by (simp only [List.length_set, List.length_append, List.length_cons, List.length_nil, List.length_replicate, List.length_take, List.length_drop, List.length_map]; omega))) (by intro hb; (exact absurd hb (by decide))) ?_
  refine aw_end (by kernel_rfl) ?_
  refine post_end0 rfl ?_
  exact fun w' hw => ⟨(), rfl, trivial, hw⟩
theorem qpush_spec (b : Nat) (sq : SlV) (l : List Itm) (x : Itm) (hl : l.length ≤ 1000000000) (w : World) (bs : List Nat) (hs : Sep [blk b [sq.v] 146, ownL 144 sq.v l] w bs) (hn : bs.Nodup) (hlt : ∀ b ∈ bs, b < w.heap.size) : Calls Tryz.prog 180 #[.pointer (some ⟨b, 0, none⟩), .iface 144 (val x)] w fun e w' => ∃ s : SlV, e = .returned (.tuple #[]) ∧ True ∧ Cl w bs [blk b [s.v] 146, ownL 144 s.v (l ++ [x])] w' := by
  refine calls_cw (vs := [_, _]) Tryz.func180 rfl Tryz.ntmps180 rfl (Cl.start hs hn hlt) (cw_region_a (Cl w bs [blk b [sq.v] 146, ownL 144 sq.v l]) [7, 9] mixed_Tryz ?_)
  refine aw_pure 0 rfl (by kernel_rfl) (by kernel_rfl) (by kernel_rfl) (by kernel_rfl) (by kernel_rfl) rfl rfl rfl (q_move rfl rfl) ?_
  refine aw_pure 1 rfl (by kernel_rfl) (by kernel_rfl) (by kernel_rfl) (by kernel_rfl) (by kernel_rfl) rfl rfl rfl (q_move rfl rfl) ?_
  refine aw_pure 2 rfl (by kernel_rfl) (by kernel_rfl) (by kernel_rfl) (by kernel_rfl) (by kernel_rfl) rfl rfl rfl (q_nilCheck rfl rfl) ?_
  refine aw_take 3 (fun w h => Cl.sel (by exact .take 0 rfl (.take 0 rfl (.nil _))) w h) rfl (by kernel_rfl) (by kernel_rfl) (by kernel_rfl) (by kernel_rfl) (by kernel_rfl) (by kernel_rfl) rfl rfl rfl (q_loadC rfl rfl (by exact .head _) rfl) ?_
  refine aw_pure 4 rfl (by kernel_rfl) (by kernel_rfl) (by kernel_rfl) (by kernel_rfl) (by kernel_rfl) rfl rfl rfl (q_move rfl rfl) ?_
  refine aw_pure 5 rfl (by kernel_rfl) (by kernel_rfl) (by kernel_rfl) (by kernel_rfl) (by kernel_rfl) rfl rfl rfl (q_assert rfl rfl Tryz.underlying144 rfl) ?_
  refine aw_x 6 (by kernel_rfl) rfl rfl rfl rfl (e_build1 (α := Itm) rfl rfl rfl rfl) (by intro hb; exact fun _ => (fun w h => Cl.sel (by exact .take 1 rfl (.take 1 rfl (.nil _))) w h)) (fun s10 => ?_)
  refine aw_x 7 (by kernel_rfl) rfl rfl rfl rfl (e_append (i := 2) rfl (.cons rfl inferInstance (.cons rfl inferInstance (.nil))) rfl rfl (by exact fun w hw => rd_own hw (by exact .head _)) (by simp only [List.length_set, List.length_append, List.length_cons, List.length_nil, List.length_replicate, List.length_take, List.length_drop, List.length_map]; omega) rfl) (by intro hb; (exact absurd hb (by decide))) (fun s11 => ?_)
  refine aw_pure 8 rfl (by kernel_rfl) (by kernel_rfl) (by kernel_rfl) (by kernel_rfl) (by kernel_rfl) rfl rfl rfl (q_nilCheck rfl rfl) ?_
  refine aw_one0 9 (by kernel_rfl) rfl rfl rfl (e_store (i := 1) rfl rfl rfl rfl rfl rfl rfl rfl) (by intro hb; (exact absurd hb (by decide))) ?_
  refine aw_end (by kernel_rfl) ?_
  refine post_end0 rfl ?_
  exact fun w' hw => ⟨s11, rfl, trivial, (fun w h => Cl.sel (by exact .take 1 rfl (.take 1 rfl (.nil _))) w h) _ hw⟩
theorem own_shrink {w0 w : World} {fp : List Nat} {H : List Asn} {α : Type} [Enc α] {e : TypeId} {s : SlV} {l : List α} {k : Nat} (hk : k ≤ l.length) (h : Cl w0 fp (ownL e s.v l :: H) w) : Cl w0 fp (ownL e (s.sub (Enc.sz α) 0 k).v (l.take k) :: H) w := by
  obtain ⟨hc, bs, ⟨b1, b2, rfl, h1, h2⟩, hn, hb⟩ := h
  refine ⟨hc, b1 ++ b2, ⟨b1, b2, rfl, ?_, h2⟩, hn, hb⟩
  obtain ⟨a, m, cap⟩ := s
  rcases h1 with ⟨e1, e2, e3⟩ | ⟨b, n, cap', cur, e1, e2, e3, e4, e5, e6, e7, e8⟩
  · simp only [SlV.v, Value.slice.injEq] at e1
    obtain ⟨rfl, rfl, rfl⟩ := e1
    have hl : l = [] := by
      have := flat_len l
      rw [e2] at this
      rcases Nat.mul_eq_zero.1 this.symm with h | h
      · exact List.eq_nil_of_length_eq_zero h
      · have := Enc.pos (α := α); omega
    subst hl
    simp only [List.length_nil, Nat.le_zero] at hk
    subst hk
    exact .inl ⟨rfl, rfl, e3⟩
  · simp only [SlV.v, Value.slice.injEq] at e1
    obtain ⟨rfl, rfl, rfl⟩ := e1
    rw [flat_len] at e7
    have hnl := Nat.eq_of_mul_eq_mul_right (Enc.pos (α := α)) e7
    refine   .inr ⟨b, k, cap, cur, ?_, e2, e3, by omega, e5, e6, ?_, ?_⟩
    · simp only [SlV.v, SlV.sub, Option.map_some, Nat.zero_mul, Nat.sub_zero]
      have : (⟨b, 0, none⟩ : Addr).add 0 = ⟨b, 0, none⟩ := by simp [Addr.add]
      rw [this, ite_self]
    · rw [flat_len, List.length_take, Nat.min_eq_left hk]
    · rw [flat_take, ← e8, List.take_take, Nat.min_eq_left (Nat.mul_le_mul_right _ (by omega))]
theorem qpop_spec (b : Nat) (sq : SlV) (l : List Itm) (h0 : 0 < l.length) (hl : l.length ≤ 1000000000) (w : World) (bs : List Nat) (hs : Sep [blk b [sq.v] 146, ownL 144 sq.v l] w bs) (hn : bs.Nodup) (hlt : ∀ b ∈ bs, b < w.heap.size) : Calls Tryz.prog 179 #[.pointer (some ⟨b, 0, none⟩)] w fun e w' => ∃ s : SlV, e = .returned (.iface 144 (val (nth l (l.length - 1)))) ∧ True ∧ Cl w bs [blk b [s.v] 146, ownL 144 s.v (l.take (l.length - 1))] w' := by
  have e1 : ((l.length : Int) - 1).toNat = l.length - 1 := by omega
  refine calls_cw (vs := [_]) Tryz.func179 rfl Tryz.ntmps179 rfl (Cl.start hs hn hlt) (cw_seq (cw_region (sr rfl rfl rfl ((q_assign rfl rfl)) (sw_nil (post_then (cw_seq (cw_region_a (Cl w bs [blk b [sq.v] 146, ownL 144 sq.v l]) [] mixed_Tryz ?_)))))))
  refine aw_pure 0 rfl (by kernel_rfl) (by kernel_rfl) (by kernel_rfl) (by kernel_rfl) (by kernel_rfl) rfl rfl rfl (q_move rfl rfl) ?_
  refine aw_pure 1 rfl (by kernel_rfl) (by kernel_rfl) (by kernel_rfl) (by kernel_rfl) (by kernel_rfl) rfl rfl rfl (q_nilCheck rfl rfl) ?_
  refine aw_take 2 (fun w h => Cl.sel (by exact .take 0 rfl (.take 0 rfl (.nil _))) w h) rfl (by kernel_rfl) (by kernel_rfl) (by kernel_rfl) (by kernel_rfl) (by kernel_rfl) (by kernel_rfl) rfl rfl rfl (q_loadC rfl rfl (by exact .head _) rfl) ?_
  refine aw_pure 3 rfl (by kernel_rfl) (by kernel_rfl) (by kernel_rfl) (by kernel_rfl) (by kernel_rfl) rfl rfl rfl (q_move rfl rfl) ?_
  refine aw_pure 4 rfl (by kernel_rfl) (by kernel_rfl) (by kernel_rfl) (by kernel_rfl) (by kernel_rfl) rfl rfl rfl (q_nilCheck rfl rfl) ?_
  refine aw_take 5 (fun w h => Cl.sel (by exact .take 0 rfl (.take 0 rfl (.nil _))) w h) rfl (by kernel_rfl) (by kernel_rfl) (by kernel_rfl) (by kernel_rfl) (by kernel_rfl) (by kernel_rfl) rfl rfl rfl (q_loadC rfl rfl (by exact .head _) rfl) ?_
  refine aw_take 6 (fun w h => Cl.sel (by exact .take 0 rfl (.take 0 rfl (.nil _))) w h) rfl (by kernel_rfl) (by kernel_rfl) (by kernel_rfl) (by kernel_rfl) (by kernel_rfl) (by kernel_rfl) rfl rfl rfl (q_len rfl (.cons rfl inferInstance (.nil)) (by exact fun w hw => rd_own hw (by exact .tail _ (.head _)))) ?_
  refine aw_pure 7 rfl (by kernel_rfl) (by kernel_rfl) (by kernel_rfl) (by kernel_rfl) (by kernel_rfl) rfl rfl rfl (q_sub rfl rfl rfl (by intro hc; omega)) ?_
  refine aw_take 8 (fun w h => Cl.sel (by exact .take 0 rfl (.take 0 rfl (.nil _))) w h) rfl (by kernel_rfl) (by kernel_rfl) (by kernel_rfl) (by kernel_rfl) (by kernel_rfl) (by kernel_rfl) rfl rfl rfl (q_index rfl rfl rfl (by exact fun w hw => rd_own hw (by exact .tail _ (.head _))) (by intro hc; omega)) ?_
  refine aw_take 9 (fun w h => Cl.sel (by exact .take 0 rfl (.take 0 rfl (.nil _))) w h) rfl (by kernel_rfl) (by kernel_rfl) (by kernel_rfl) (by kernel_rfl) (by kernel_rfl) (by kernel_rfl) rfl rfl rfl (q_loadEl rfl rfl rfl (by exact fun w hw => rd_own hw (by exact .tail _ (.head _))) (by intro hc; omega)) ?_
  refine aw_x 10 (by kernel_rfl) rfl rfl rfl rfl (e_alloc rfl) (by intro hb; exact fun _ => (fun w h => Cl.sel (by exact .take 1 rfl (.take 1 rfl (.nil _))) w h)) (fun b3 => ?_)
  refine aw_one0 11 (by kernel_rfl) rfl rfl rfl (e_store (i := 0) rfl rfl rfl rfl rfl rfl rfl rfl) (by intro hb; exact (fun w h => Cl.sel (by exact .take 1 rfl (.take 1 rfl (.nil _))) w h)) ?_
  refine aw_end (by kernel_rfl) ?_
  refine post_then (cw_seq (cw_region_a (Cl w bs [blk b [sq.v] 146, ownL 144 sq.v l]) [11] mixed_Tryz ?_))
  refine aw_pure 0 rfl (by kernel_rfl) (by kernel_rfl) (by kernel_rfl) (by kernel_rfl) (by kernel_rfl) rfl rfl rfl (q_move rfl rfl) ?_
  refine aw_pure 1 rfl (by kernel_rfl) (by kernel_rfl) (by kernel_rfl) (by kernel_rfl) (by kernel_rfl) rfl rfl rfl (q_move rfl rfl) ?_
  refine aw_pure 2 rfl (by kernel_rfl) (by kernel_rfl) (by kernel_rfl) (by kernel_rfl) (by kernel_rfl) rfl rfl rfl (q_nilCheck rfl rfl) ?_
  refine aw_take 3 (fun w h => Cl.sel (by exact .take 1 rfl (.take 1 rfl (.nil _))) w h) rfl (by kernel_rfl) (by kernel_rfl) (by kernel_rfl) (by kernel_rfl) (by kernel_rfl) (by kernel_rfl) rfl rfl rfl (q_loadC rfl rfl (by exact .head _) rfl) ?_
  refine aw_pure 4 rfl (by kernel_rfl) (by kernel_rfl) (by kernel_rfl) (by kernel_rfl) (by kernel_rfl) rfl rfl rfl (q_move rfl rfl) ?_
  refine aw_pure 5 rfl (by kernel_rfl) (by kernel_rfl) (by kernel_rfl) (by kernel_rfl) (by kernel_rfl) rfl rfl rfl (q_nilCheck rfl rfl) ?_
  refine aw_take 6 (fun w h => Cl.sel (by exact .take 1 rfl (.take 1 rfl (.nil _))) w h) rfl (by kernel_rfl) (by kernel_rfl) (by kernel_rfl) (by kernel_rfl) (by kernel_rfl) (by kernel_rfl) rfl rfl rfl (q_loadC rfl rfl (by exact .head _) rfl) ?_
  refine aw_take 7 (fun w h => Cl.sel (by exact .take 1 rfl (.take 1 rfl (.nil _))) w h) rfl (by kernel_rfl) (by kernel_rfl) (by kernel_rfl) (by kernel_rfl) (by kernel_rfl) (by kernel_rfl) rfl rfl rfl (q_len rfl (.cons rfl inferInstance (.nil)) (by exact fun w hw => rd_own hw (by exact .tail _ (.head _)))) ?_
  refine aw_pure 8 rfl (by kernel_rfl) (by kernel_rfl) (by kernel_rfl) (by kernel_rfl) (by kernel_rfl) rfl rfl rfl (q_sub rfl rfl rfl (by intro hc; omega)) ?_
  refine aw_take 9 (fun w h => Cl.sel (by exact .take 1 rfl (.take 1 rfl (.nil _))) w h) rfl (by kernel_rfl) (by kernel_rfl) (by kernel_rfl) (by kernel_rfl) (by kernel_rfl) (by kernel_rfl) rfl rfl rfl (q_sliceH rfl rfl rfl (by exact fun w hw => rd_own hw (by exact .tail _ (.head _))) (by intro hc; omega)) ?_
  refine aw_pure 10 rfl (by kernel_rfl) (by kernel_rfl) (by kernel_rfl) (by kernel_rfl) (by kernel_rfl) rfl rfl rfl (q_nilCheck rfl rfl) ?_
  refine aw_one0 11 (by kernel_rfl) rfl rfl rfl (e_store (i := 1) rfl rfl rfl rfl rfl rfl rfl rfl) (by intro hb; (exact absurd hb (by decide))) ?_
  refine aw_end (by kernel_rfl) ?_
  refine post_then (cw_seq (cw_region ?_))
  refine sr rfl rfl rfl ((q_loadA rfl rfl (by exact .head _) rfl)) ?_
  refine sr rfl rfl rfl ((q_iface rfl rfl Tryz.underlying144 rfl)) (sr rfl rfl rfl ((q_assign rfl rfl)) (sw_nil (post_then (cw_ret (post_ret1 rfl (resOk_tmp rfl) ?_)))))
  refine fun w' hw => ⟨sq.sub 4 0 (l.length - 1), by rw [e1]; rfl, trivial, ?_⟩
  rw [e1] at hw
  have h1 : Cl w bs [ownL 144 sq.v l, blk b [(sq.sub 4 0 (l.length - 1)).v] 146] w' := (fun w h => Cl.sel (by exact .take 2 rfl (.take 1 rfl (.nil _))) w h) _ hw
  exact (own_shrink (H := [blk b [(sq.sub 4 0 (l.length - 1)).v] 146]) (Nat.sub_le _ _) h1).perm (.swap _ _ _)
end Go.Proofs.YtomjbfeafodfbaaGreat

set_option autoImplicit false
set_option maxRecDepth 100000
namespace Go.Proofs.YtomjbfeafodfbaaGreat
open Go.Sx
open Enc (enc val)
theorem m_less {b : Nat} {sv : Value} {w : World} (hb : BlkAt b [sv] 146 w) : Meth Tryz.prog 141 (.pointer (some ⟨b, 0, none⟩)) "Less" 178 sv w := meth_val (ti := (Tryz.prog.info? 141).getD default) (fun w => by kernel_rfl) (by kernel_rfl) Tryz.underlying141 (by kernel_rfl) hb
theorem m_len {b : Nat} {sv : Value} {w : World} (hb : BlkAt b [sv] 146 w) : Meth Tryz.prog 141 (.pointer (some ⟨b, 0, none⟩)) "Len" 177 sv w := meth_val (ti := (Tryz.prog.info? 141).getD default) (fun w => by kernel_rfl) (by kernel_rfl) Tryz.underlying141 (by kernel_rfl) hb
theorem m_swap {b : Nat} {sv : Value} {w : World} (hb : BlkAt b [sv] 146 w) : Meth Tryz.prog 141 (.pointer (some ⟨b, 0, none⟩)) "Swap" 181 sv w := meth_val (ti := (Tryz.prog.info? 141).getD default) (fun w => by kernel_rfl) (by kernel_rfl) Tryz.underlying141 (by kernel_rfl) hb
theorem m_empty {b : Nat} {sv : Value} {w : World} (hb : BlkAt b [sv] 146 w) : Meth Tryz.prog 141 (.pointer (some ⟨b, 0, none⟩)) "declaim/unit.empty" 182 sv w := meth_val (ti := (Tryz.prog.info? 141).getD default) (fun w => by kernel_rfl) (by kernel_rfl) Tryz.underlying141 (by kernel_rfl) hb
theorem m_push (a : Option Addr) (w : World) : Meth Tryz.prog 141 (.pointer a) "Push" 180 (.pointer a) w := meth_ptr (ti := (Tryz.prog.info? 141).getD default) (fun w => by kernel_rfl) (by kernel_rfl) Tryz.underlying141 (by kernel_rfl) a w
theorem m_pop (a : Option Addr) (w : World) : Meth Tryz.prog 141 (.pointer a) "Pop" 179 (.pointer a) w := meth_ptr (ti := (Tryz.prog.info? 141).getD default) (fun w => by kernel_rfl) (by kernel_rfl) Tryz.underlying141 (by kernel_rfl) a w
theorem blk_here {w0 w : World} {fp : List Nat} {H : List Asn} {b : Nat} {cells : List Value} {t : TypeId} (hw : Cl w0 fp H w) (h : blk b cells t ∈ H) : BlkAt b cells t w := (stb_blk hw h).here
theorem half_t (j : Nat) : ((j : Int) - 1).tdiv 2 = ((j - 1) / 2 : Nat) := by
  cases j with
  | zero => decide
  | succ j =>
    rw [Int.tdiv_eq_ediv_of_nonneg (by omega)]
    omega
theorem chOk_perm {w : World} {bs : List Nat} {l l' : List Itm} (h : ChOk w bs l) (hp : l'.Perm l) : ChOk w bs l' := fun x hx => h x (hp.mem_iff.1 hx)
theorem up_spec (b : Nat) (sq : SlV) (l : List Itm) (j : Nat) (hj : j < l.length) (hl : l.length ≤ 1000000000) (hup : UpOk Itm.lt l j) (w : World) (bs : List Nat) (hs : Sep [blk b [sq.v] 146, ownL 144 sq.v l] w bs) (hn : bs.Nodup) (hlt : ∀ b ∈ bs, b < w.heap.size) (hch : ChOk w bs l) : Calls Tryz.prog 135 #[.iface 141 (.pointer (some ⟨b, 0, none⟩)), .int .i64 j] w fun e w' => ∃ l' : List Itm, e = .returned (.tuple #[]) ∧ (l'.Perm l ∧ HeapN Itm.lt l' l'.length) ∧ Cl w bs [blk b [sq.v] 146, ownL 144 sq.v l'] w' := by
  refine calls_cw (vs := [_, _]) Tryz.func135 rfl Tryz.ntmps135 rfl (Cl.start hs hn hlt) (cw_block ?_)
  refine cw_loop (S := Nat × List Itm) (fun y => [(0, [], .iface 141 (.pointer (some ⟨b, 0, none⟩))), (1, [], .int .i64 y.1)]) (fun y => Cl w bs [blk b [sq.v] 146, ownL 144 sq.v y.2]) (fun y => y.1 < y.2.length ∧ y.2.Perm l ∧ UpOk Itm.lt y.2 y.1) (fun y => y.1) (j, l) ⟨hj, .refl _, hup⟩ (by exact .cons rfl (.cons rfl .nil)) (fun _ h => h) ?_
  rintro ⟨k, m⟩ ⟨hk, hm, hu⟩
  dsimp only at hk hm hu ⊢
  have hml := hm.length_eq
  have hchm := chOk_perm hch hm
  refine cw_block (cw_seq (cw_region (sr rfl rfl rfl ((q_move rfl rfl)) ?_)))
  refine sr rfl rfl rfl ((q_sub rfl rfl rfl (by intro hc; omega))) ?_
  refine sr rfl rfl rfl ((q_quo_t rfl rfl rfl (by intro hc; omega))) ?_
  refine sr rfl rfl rfl ((q_assign rfl rfl)) (sw_nil (post_then (cw_seq (cw_seq (cw_region (sr rfl rfl rfl ((q_move rfl rfl)) (sr rfl rfl rfl ((q_move rfl rfl)) (sr rfl rfl rfl ((q_eql rfl rfl rfl)) (sr rfl rfl rfl ((q_move rfl rfl)) (sr rfl rfl rfl ((q_move rfl rfl)) (sr rfl rfl rfl ((q_move rfl rfl)) (sr rfl rfl rfl ((q_move rfl rfl)) ?_))))))))))))
  rw [half_t k]
  have hle : (k - 1) / 2 ≤ k := by omega
  refine sw_step rfl rfl rfl (q_inv (CanCall.mk Tryz.call178) rfl rfl (.cons rfl inferInstance (.cons rfl inferInstance (.nil))) (fun w hw => m_less (blk_here hw (by exact .head _))) (fun _ w hw => callq hw (less_spec sq m k ((k - 1) / 2) w (stb_own hw (by exact .tail _ (.head _))) hk (by omega) (hchm.arg hw)))) ?_
  refine sr rfl rfl rfl ((q_not rfl rfl)) (sr rfl rfl rfl ((q_or2 rfl rfl rfl)) (sw_nil (post_then ?_)))
  refine cw_cond rfl (fun h => ?_) (fun h => ?_)
  · skip
    have h1 : k = 0 ∨ Itm.lt (nth m k) (nth m ((k - 1) / 2)) = false := by
      simp only [Bool.or_eq_true, decide_eq_true_eq, Bool.not_eq_true'] at h
      rcases h with h | h
      · left; omega
      · exact .inr h
    refine cw_exit (post_then_x (post_blk_ne rfl (post_then_x (post_blk_eq (post_end0 rfl ?_)))))
    exact fun w' hw => ⟨m, rfl, ⟨hm, up_stop hu h1⟩, hw⟩
  · skip
    have h1 : 0 < k ∧ Itm.lt (nth m k) (nth m ((k - 1) / 2)) = true := by
      simp only [Bool.or_eq_false_iff, decide_eq_false_iff_not, Bool.not_eq_false'] at h
      exact ⟨by omega, h.2⟩
    refine cw_skip (post_then (cw_seq (cw_region (sr rfl rfl rfl ((q_move rfl rfl)) (sr rfl rfl rfl ((q_move rfl rfl)) (sr rfl rfl rfl ((q_move rfl rfl)) ?_))))))
    refine sw_x rfl rfl rfl (e_invH (A := [ownL 144 sq.v m]) (F := [blk b [sq.v] 146]) (CanCall.mk Tryz.call181) rfl rfl (.cons rfl inferInstance (.cons rfl inferInstance (.nil))) (fun w hw => m_swap (blk_here hw (by exact .head _))) (.swap _ _ _) (fun w bs k1 k2 k3 k4 k5 => swap_spec sq m ((k - 1) / 2) k (by omega) hk w bs k1 k2 k3)) (fun u21 => ?_)
    refine sw_imp fun _ => (sw_nil (post_then (cw_region (sr rfl rfl rfl ((q_move rfl rfl)) (sr rfl rfl rfl ((q_assign rfl rfl)) (sw_nil (post_blk ?_)))))))
    exact post_next ((k - 1) / 2, swp m ((k - 1) / 2) k) (by exact .cons rfl (.cons rfl .nil)) (fun w h => Cl.sel (by exact .take 1 rfl (.take 0 rfl (.nil _))) w h) ⟨by simp only [swp_len]; omega, (swp_perm m (by omega) hk).trans hm, up_step itm_tot hk h1.1 hu h1.2⟩ (by simp only; omega)
theorem lt_irr (x : Itm) : Itm.lt x x = false := by
  cases h : Itm.lt x x
  · rfl
  · have := itm_tot.anti _ _ h; rw [h] at this; cases this
theorem down_spec (b : Nat) (sq : SlV) (l : List Itm) (n : Nat) (hn0 : n ≤ l.length) (hl : l.length ≤ 1000000000) (hd : DownOk Itm.lt l 0 n) (w : World) (bs : List Nat) (hs : Sep [blk b [sq.v] 146, ownL 144 sq.v l] w bs) (hn : bs.Nodup) (hlt : ∀ b ∈ bs, b < w.heap.size) (hch : ChOk w bs l) : Calls Tryz.prog 133 #[.iface 141 (.pointer (some ⟨b, 0, none⟩)), .int .i64 0, .int .i64 n] w fun e w' => ∃ x : Bool × List Itm, e = .returned (.bool x.1) ∧ (x.2.Perm l ∧ HeapN Itm.lt x.2 n ∧ ∀ k, n ≤ k → nth x.2 k = nth l k) ∧ Cl w bs [blk b [sq.v] 146, ownL 144 sq.v x.2] w' := by
  refine calls_cw (vs := [_, _, _]) Tryz.func133 rfl Tryz.ntmps133 rfl (Cl.start hs hn hlt) (cw_seq (cw_region (sr rfl rfl rfl ((q_assign rfl rfl)) (sw_nil (post_then (cw_seq (cw_region (sr rfl rfl rfl ((q_move rfl rfl)) (sr rfl rfl rfl ((q_assign rfl rfl)) (sw_nil (post_then (cw_seq (cw_block ?_)))))))))))))
  refine cw_loop (S := Nat × List Itm) (fun y => [(0, [], .iface 141 (.pointer (some ⟨b, 0, none⟩))), (1, [], .int .i64 0), (2, [], .int .i64 n), (7, [], .int .i64 y.1)]) (fun y => Cl w bs [blk b [sq.v] 146, ownL 144 sq.v y.2]) (fun y => (y.1 = 0 ∨ y.1 < n) ∧ y.2.Perm l ∧ DownOk Itm.lt y.2 y.1 n ∧ ∀ k, n ≤ k → nth y.2 k = nth l k) (fun y => n - y.1) (0, l) ⟨.inl rfl, .refl _, hd, fun _ _ => rfl⟩ (by exact .cons rfl (.cons rfl (.cons rfl (.cons rfl .nil)))) (fun _ h => h) ?_
  rintro ⟨i, m⟩ ⟨hi, hm, hdn, hrest⟩
  dsimp only at hi hm hdn hrest ⊢
  have hml := hm.length_eq
  have hchm := chOk_perm hch hm
  refine cw_block (cw_seq (cw_region (sr rfl rfl rfl ((q_move rfl rfl)) ?_)))
  refine sr rfl rfl rfl ((q_mul rfl rfl rfl (by intro hc; omega))) ?_
  refine sr rfl rfl rfl ((q_add rfl rfl rfl (by intro hc; omega))) ?_
  refine sr rfl rfl rfl ((q_assign rfl rfl)) (sw_nil (post_then (cw_seq (cw_seq (cw_region (sr rfl rfl rfl ((q_move rfl rfl)) (sr rfl rfl rfl ((q_move rfl rfl)) (sr rfl rfl rfl ((q_geq rfl rfl rfl)) (sr rfl rfl rfl ((q_move rfl rfl)) (sr rfl rfl rfl ((q_move rfl rfl)) (sr rfl rfl rfl ((q_lss rfl rfl rfl)) (sr rfl rfl rfl ((q_or2 rfl rfl rfl)) (sw_nil (post_then ?_))))))))))))))
  refine cw_cond rfl (fun h => ?_) (fun h => ?_)
  · skip
    have h1 : n ≤ 2 * i + 1 := by simp only [Bool.or_eq_true, decide_eq_true_eq] at h; omega
    refine cw_exit (post_then_x (post_blk_ne rfl (post_then_x (post_blk_eq (post_then (cw_seq (cw_region (sr rfl rfl rfl ((q_move rfl rfl)) (sr rfl rfl rfl ((q_move rfl rfl)) (sr rfl rfl rfl ((q_gtr rfl rfl rfl)) (sr rfl rfl rfl ((q_assign rfl rfl)) (sw_nil (post_then (cw_ret (post_ret1 rfl (resOk_tmp rfl) ?_)))))))))))))))
    exact fun w' hw => ⟨(_, m), rfl, ⟨hm, down_stop hdn (fun k k0 hk hp => by omega), hrest⟩, hw⟩
  · skip
    have h1 : 2 * i + 1 < n := by simp only [Bool.or_eq_false_iff, decide_eq_false_iff_not] at h; omega
    refine cw_skip (post_then (cw_seq (cw_region (sr rfl rfl rfl ((q_move rfl rfl)) (sr rfl rfl rfl ((q_assign rfl rfl)) (sw_nil (post_then (cw_seq (cw_seq (cw_region (sr rfl rfl rfl ((q_move rfl rfl)) ?_)))))))))))
    refine sr rfl rfl rfl ((q_add rfl rfl rfl (by intro hc; omega))) ?_
    refine sr rfl rfl rfl ((q_assign rfl rfl)) (sw_nil (post_then (cw_seq (cw_region (sr rfl rfl rfl ((q_move rfl rfl)) (sr rfl rfl rfl ((q_move rfl rfl)) (sr rfl rfl rfl ((q_lss rfl rfl rfl)) (sr rfl rfl rfl ((q_move rfl rfl)) (sr rfl rfl rfl ((q_move rfl rfl)) (sr rfl rfl rfl ((q_move rfl rfl)) (sr rfl rfl rfl ((q_move rfl rfl)) ?_)))))))))))
    have e1 : ((2 : Int) * i + 1) = ((2 * i + 1 : Nat) : Int) := by omega
    have e2 : ((2 : Int) * i + 1 + 1) = ((2 * i + 2 : Nat) : Int) := by omega
    have hlt1 : ∀ {cs : List Bool}, cs = [decide ((2 : Int) * i + 1 + 1 < n)] → AllT cs → 2 * i + 2 < n := fun hcs hc => by
      have := hc _ (by rw [hcs]; exact .head _)
      simp only [decide_eq_true_eq] at this; omega
    refine sw_step rfl rfl rfl (q_inv (v := .bool (Itm.lt (nth m (2 * i + 2)) (nth m (2 * i + 1)))) (CanCall.mk Tryz.call178) rfl rfl (.cons rfl inferInstance (.cons rfl inferInstance (.nil))) (fun w hw => m_less (blk_here hw (by exact .head _))) (fun hc w hw => callq hw (by have hh := hlt1 rfl hc; rw [e2, e1]; exact less_spec sq m (2 * i + 2) (2 * i + 1) w (stb_own hw (by exact .tail _ (.head _))) (by omega) (by omega) (hchm.arg hw)))) ?_
    refine sr rfl rfl rfl ((q_and2 rfl rfl rfl)) (sw_nil (post_then ?_))
    refine cw_cut (S := Nat) (fun j => [(0, [], .iface 141 (.pointer (some ⟨b, 0, none⟩))), (1, [], .int .i64 0), (2, [], .int .i64 n), (7, [], .int .i64 i), (9, [], .int .i64 j)]) (fun _ => Cl w bs [blk b [sq.v] 146, ownL 144 sq.v m]) (fun j => j < n ∧ 0 < j ∧ (j - 1) / 2 = i ∧ ∀ k, 0 < k → k < n → (k - 1) / 2 = i → Itm.lt (nth m k) (nth m j) = false) ?_ ?_
    · refine cw_cond rfl (fun h2 => ?_) (fun h2 => ?_)
      · skip
        have h3 : 2 * i + 2 < n ∧ Itm.lt (nth m (2 * i + 2)) (nth m (2 * i + 1)) = true := by
          simp only [Bool.and_eq_true, decide_eq_true_eq] at h2
          exact ⟨by omega, h2.2⟩
        refine cw_region (sr rfl rfl rfl ((q_move rfl rfl)) (sr rfl rfl rfl ((q_assign rfl rfl)) (sw_nil ?_)))
        refine post_meet (2 * i + 2) (by exact .cons rfl (.cons rfl (.cons rfl (.cons rfl (.cons rfl .nil))))) (fun _ h => h) ⟨h3.1, by omega, by omega, fun k k0 hk hp => ?_⟩
        by_cases hk1 : k = 2 * i + 1
        · rw [hk1]; exact itm_tot.anti _ _ h3.2
        · have : k = 2 * i + 2 := by omega
          rw [this]; exact lt_irr _
      · skip
        have h3 : 2 * i + 2 < n → Itm.lt (nth m (2 * i + 2)) (nth m (2 * i + 1)) = false := by
          intro hh
          have hh2 : ((2 : Int) * i + 1 + 1 < n) := by omega
          simpa [hh2] using h2
        refine cw_skip ?_
        refine post_meet (2 * i + 1) (by exact .cons rfl (.cons rfl (.cons rfl (.cons rfl (.cons rfl .nil))))) (fun _ h => h) ⟨h1, by omega, by omega, fun k k0 hk hp => ?_⟩
        by_cases hk1 : k = 2 * i + 1
        · rw [hk1]; exact lt_irr _
        · have : k = 2 * i + 2 := by omega
          rw [this]; exact h3 (by omega)
    · rintro j ⟨hj1, hj2, hj3, hj4⟩
      refine post_then (cw_seq (cw_seq (cw_region (sr rfl rfl rfl ((q_move rfl rfl)) (sr rfl rfl rfl ((q_move rfl rfl)) (sr rfl rfl rfl ((q_move rfl rfl)) ?_))))))
      refine sw_step rfl rfl rfl (q_inv (CanCall.mk Tryz.call178) rfl rfl (.cons rfl inferInstance (.cons rfl inferInstance (.nil))) (fun w hw => m_less (blk_here hw (by exact .head _))) (fun _ w hw => callq hw (less_spec sq m j i w (stb_own hw (by exact .tail _ (.head _))) (by omega) (by omega) (hchm.arg hw)))) ?_
      refine sr rfl rfl rfl ((q_not rfl rfl)) (sw_nil (post_then ?_))
      refine cw_cond rfl (fun h5 => ?_) (fun h5 => ?_)
      · skip
        have h6 : Itm.lt (nth m j) (nth m i) = false := by simpa using h5
        refine cw_exit (post_then_x (post_blk_ne rfl (post_then_x (post_blk_eq (post_then (cw_seq (cw_region (sr rfl rfl rfl ((q_move rfl rfl)) (sr rfl rfl rfl ((q_move rfl rfl)) (sr rfl rfl rfl ((q_gtr rfl rfl rfl)) (sr rfl rfl rfl ((q_assign rfl rfl)) (sw_nil (post_then (cw_ret (post_ret1 rfl (resOk_tmp rfl) ?_)))))))))))))))
        exact fun w' hw => ⟨(_, m), rfl, ⟨hm, down_stop hdn (fun k k0 hk hp => itm_tot.tr _ _ _ h6 (hj4 k k0 hk hp)), hrest⟩, hw⟩
      · skip
        have h6 : Itm.lt (nth m j) (nth m i) = true := by simpa using h5
        refine cw_skip (post_then (cw_seq (cw_region (sr rfl rfl rfl ((q_move rfl rfl)) (sr rfl rfl rfl ((q_move rfl rfl)) (sr rfl rfl rfl ((q_move rfl rfl)) ?_))))))
        refine sw_x rfl rfl rfl (e_invH (A := [ownL 144 sq.v m]) (F := [blk b [sq.v] 146]) (CanCall.mk Tryz.call181) rfl rfl (.cons rfl inferInstance (.cons rfl inferInstance (.nil))) (fun w hw => m_swap (blk_here hw (by exact .head _))) (.swap _ _ _) (fun w bs k1 k2 k3 k4 k5 => swap_spec sq m i j (by omega) (by omega) w bs k1 k2 k3)) (fun u43 => ?_)
        refine sw_imp fun _ => (sw_nil (post_then (cw_region (sr rfl rfl rfl ((q_move rfl rfl)) (sr rfl rfl rfl ((q_assign rfl rfl)) (sw_nil (post_blk ?_)))))))
        exact post_next (j, swp m i j) (by exact .cons rfl (.cons rfl (.cons rfl (.cons rfl .nil)))) (fun w h => Cl.sel (by exact .take 1 rfl (.take 0 rfl (.nil _))) w h) ⟨.inr hj1, (swp_perm m (by omega) (by omega)).trans hm, down_step itm_tot (by omega) hj1 hj2 hj3 hdn hj4 h6, fun k hk => by rw [swp_nth m (by omega) (by omega), if_neg (by omega), if_neg (by omega)]; exact hrest k hk⟩ (by simp only; omega)
end Go.Proofs.YtomjbfeafodfbaaGreat

set_option autoImplicit false
set_option maxRecDepth 100000
namespace Go.Proofs.YtomjbfeafodfbaaGreat
open Go.Sx
open Enc (enc val)
theorem hpush_spec (b : Nat) (sq : SlV) (l : List Itm) (x : Itm) (hl : l.length + 1 ≤ 1000000000) (hh : HeapN Itm.lt l l.length) (w : World) (bs : List Nat) (hs : Sep [blk b [sq.v] 146, ownL 144 sq.v l] w bs) (hn : bs.Nodup) (hlt : ∀ b ∈ bs, b < w.heap.size) (hch : ChOk w bs (l ++ [x])) :
    Calls Tryz.prog 110 #[.iface 141 (.pointer (some ⟨b, 0, none⟩)), .iface 144 (val x)] w fun e w' => ∃ y : SlV × List Itm, e = .returned (.tuple #[]) ∧ (y.2.Perm (l ++ [x]) ∧ HeapN Itm.lt y.2 y.2.length) ∧ Cl w bs [blk b [y.1.v] 146, ownL 144 y.1.v y.2] w' := by
  refine calls_cw (vs := [_, _]) Tryz.func110 rfl Tryz.ntmps110 rfl (Cl.start hs hn hlt) (cw_seq (cw_region (sr rfl rfl rfl ((q_move rfl rfl)) (sr rfl rfl rfl ((q_move rfl rfl)) ?_))))
  refine sw_x rfl rfl rfl (e_invH (A := [blk b [sq.v] 146, ownL 144 sq.v l]) (F := []) (CanCall.mk Tryz.call180) rfl rfl (.cons rfl inferInstance (.nil)) (fun w hw => m_push _ w) (.refl _) (fun w bs k1 k2 k3 k4 k5 => qpush_spec b sq l x (by omega) w bs k1 k2 k3)) (fun s6 => ?_)
  refine sw_imp fun _ => (sw_nil (post_then (cw_region (sr rfl rfl rfl ((q_move rfl rfl)) (sr rfl rfl rfl ((q_move rfl rfl)) ?_)))))
  refine sw_step rfl rfl rfl (q_inv (CanCall.mk Tryz.call177) rfl rfl (.nil) (fun w hw => m_len (blk_here hw (by exact .head _))) (fun _ w hw => callq hw (qlen_spec s6 (l ++ [x]) w (stb_own hw (by exact .tail _ (.head _)))))) ?_
  have e1 : (((l ++ [x]).length : Nat) : Int) - 1 = (l.length : Nat) := by simp
  refine sr rfl rfl rfl ((q_sub rfl rfl rfl (by intro hc; omega))) ?_
  rw [e1]
  refine sw_x rfl rfl rfl (e_callH (A := [blk b [s6.v] 146, ownL 144 s6.v (l ++ [x])]) (F := []) (CanCall.mk Tryz.call135) rfl rfl (.cons rfl inferInstance (.cons rfl inferInstance (.nil))) (.refl _) (fun w bs k1 k2 k3 k4 k5 => up_spec b s6 (l ++ [x]) l.length (by simp) (by simpa using hl) (up_push itm_tot hh x) w bs k1 k2 k3 (fun z hz => ⟨k4 _ (hch z hz).1, (hch z hz).2⟩))) (fun l11 => ?_)
  refine sw_imp fun hl11 => (sw_nil (post_end0 rfl ?_))
  exact fun w' hw => ⟨(s6, l11), rfl, hl11, hw⟩
theorem hpop_spec (b : Nat) (sq : SlV) (l : List Itm) (h0 : 0 < l.length) (hl : l.length ≤ 1000000000) (hh : HeapN Itm.lt l l.length) (w : World) (bs : List Nat) (hs : Sep [blk b [sq.v] 146, ownL 144 sq.v l] w bs) (hn : bs.Nodup) (hlt : ∀ b ∈ bs, b < w.heap.size) (hch : ChOk w bs l) :
    Calls Tryz.prog 108 #[.iface 141 (.pointer (some ⟨b, 0, none⟩))] w fun e w' => ∃ y : Itm × (SlV × List Itm), e = .returned (.iface 144 (val y.1)) ∧ (l.Perm (y.1 :: y.2.2) ∧ HeapN Itm.lt y.2.2 y.2.2.length ∧ ∀ z ∈ y.2.2, Itm.lt z y.1 = false) ∧ Cl w bs [blk b [y.2.1.v] 146, ownL 144 y.2.1.v y.2.2] w' := by
  have e1 : (l.length : Int) - 1 = ((l.length - 1 : Nat) : Int) := by omega
  refine calls_cw (vs := [_]) Tryz.func108 rfl Tryz.ntmps108 rfl (Cl.start hs hn hlt) (cw_seq (cw_region (sr rfl rfl rfl ((q_assign rfl rfl)) (sw_nil (post_then (cw_seq (cw_region (sr rfl rfl rfl ((q_move rfl rfl)) ?_))))))))
  refine sw_step rfl rfl rfl (q_inv (CanCall.mk Tryz.call177) rfl rfl (.nil) (fun w hw => m_len (blk_here hw (by exact .head _))) (fun _ w hw => callq hw (qlen_spec sq l w (stb_own hw (by exact .tail _ (.head _)))))) ?_
  refine sr rfl rfl rfl ((q_sub rfl rfl rfl (by intro hc; omega))) ?_
  refine sr rfl rfl rfl ((q_assign rfl rfl)) (sw_nil (post_then (cw_seq (cw_region (sr rfl rfl rfl ((q_move rfl rfl)) (sr rfl rfl rfl ((q_move rfl rfl)) ?_))))))
  rw [e1]
  refine sw_x rfl rfl rfl (e_invH (A := [ownL 144 sq.v l]) (F := [blk b [sq.v] 146]) (CanCall.mk Tryz.call181) rfl rfl (.cons rfl inferInstance (.cons rfl inferInstance (.nil))) (fun w hw => m_swap (blk_here hw (by exact .head _))) (.swap _ _ _) (fun w bs k1 k2 k3 k4 k5 => swap_spec sq l 0 (l.length - 1) h0 (by omega) w bs k1 k2 k3)) (fun u9 => ?_)
  refine sw_imp fun _ => ?_
  have hsp := swp_perm l h0 (show l.length - 1 < l.length by omega)
  refine sw_nil (post_then (cw_seq (cw_region (sr rfl rfl rfl ((q_move rfl rfl)) (sr rfl rfl rfl ((q_move rfl rfl)) ?_)))))
  refine sw_x rfl rfl rfl (e_callH (A := [blk b [sq.v] 146, ownL 144 sq.v (swp l 0 (l.length - 1))]) (F := []) (CanCall.mk Tryz.call133) rfl rfl (.cons rfl inferInstance (.cons rfl inferInstance (.cons rfl inferInstance (.nil)))) (.swap _ _ _) (fun w bs k1 k2 k3 k4 k5 => down_spec b sq (swp l 0 (l.length - 1)) (l.length - 1) (by rw [swp_len]; omega) (by rw [swp_len]; omega) (down_begin hh (by omega)) w bs k1 k2 k3 (fun z hz => ⟨k4 _ (hch z (hsp.mem_iff.1 hz)).1, (hch z (hsp.mem_iff.1 hz)).2⟩))) (fun y12 => ?_)
  refine sw_imp fun hy => ?_
  obtain ⟨c12, m⟩ := y12
  obtain ⟨hm1, hm2, hm3⟩ := hy
  dsimp only at hm1 hm2 hm3 ⊢
  have hml : m.length = l.length := by rw [hm1.length_eq, swp_len]
  have hlast : nth m (m.length - 1) = nth l 0 := by
    rw [hml, hm3 _ (Nat.le_refl _), swp_nth l h0 (by omega), if_pos rfl]
  refine sw_nil (post_then (cw_seq (cw_region (sr rfl rfl rfl ((q_move rfl rfl)) ?_))))
  refine sw_x rfl rfl rfl (e_invH (A := [blk b [sq.v] 146, ownL 144 sq.v m]) (F := []) (CanCall.mk Tryz.call179) rfl rfl (.nil) (fun w hw => m_pop _ w) (.refl _) (fun w bs k1 k2 k3 k4 k5 => qpop_spec b sq m (by omega) (by omega) w bs k1 k2 k3)) (fun s14 => ?_)
  refine sw_imp fun _ => (sr rfl rfl rfl ((q_assign rfl rfl)) (sw_nil (post_then (cw_ret (post_ret1 rfl (resOk_tmp rfl) ?_)))))
  refine fun w' hw => ⟨(nth m (m.length - 1), (s14, m.take (m.length - 1))), rfl, ⟨?_, ?_, ?_⟩, hw⟩
  · refine ((hm1.trans hsp).symm).trans ?_
    have hd : m = m.take (m.length - 1) ++ [nth m (m.length - 1)] := by
      have h2 : m.drop (m.length - 1) = [nth m (m.length - 1)] := by
        rw [List.drop_eq_getElem_cons (by omega), nth_get (by omega), List.drop_of_length_le (by omega)]
      rw [← h2, List.take_append_drop]
    refine (List.Perm.of_eq hd).trans ?_
    exact List.perm_append_singleton _ _
  · have hlen : (m.take (m.length - 1)).length = l.length - 1 := by rw [List.length_take]; omega
    intro k k0 hk
    simp only at hk ⊢
    rw [hlen] at hk
    have e2 : ∀ q, q < l.length - 1 → nth (m.take (m.length - 1)) q = nth m q := fun q hq => by
      rw [nth_get (by rw [hlen]; exact hq), nth_get (by omega), List.getElem_take]
    rw [e2 k hk, e2 _ (by omega)]
    exact hm2 k k0 hk
  · intro z hz
    simp only at hz ⊢
    rw [hlast]
    have hz2 : z ∈ l := (hm1.trans hsp).mem_iff.1 (List.mem_of_mem_take hz)
    obtain ⟨i, hi, rfl⟩ := List.getElem_of_mem hz2
    rw [← nth_get hi]
    exact heap_min itm_tot hh i hi
end Go.Proofs.YtomjbfeafodfbaaGreat

/-
  Maps keyed by pairs of integers; the two halves of m[k]++ in a draw. General lemmas, no program text.
-/
set_option autoImplicit false
set_option linter.unusedSectionVars false
namespace Go.Sx
open Enc (enc val)
structure P2 where
  a : Int
  b : Int
deriving DecidableEq
instance : Inhabited P2 := ⟨⟨0, 0⟩⟩
instance : Enc P2 := ⟨fun c => [.int .i64 c.a, .int .i64 c.b], 2, fun c => .agg #[.int .i64 c.a, .int .i64 c.b], fun _ => rfl, by simp [Value.oneCell'], fun _ => rfl, by decide⟩
section pair
variable {P : Program} {kt : TypeId} {e : TypeId}
theorem part_int (he : P.underlying e = some (.int .i64)) (hs : ∀ w, (sizeOf e).run P w = .ok 1 w) (hg : ∀ w, (isAgg e).run P w = .ok false w) (cs : Array Value) (i : Nat) (n : Int) (h : cs[i]? = some (.int .i64 n)) (w : World) : (part e cs i).run P w = .ok (.int .i64 n) w := by
  simp [part, hg, h, Result.andThen]
theorem chk_int (he : P.underlying e = some (.int .i64)) (em : Bool) (n : Nat) (x : Int) (w : World) : (Instr.checkKey em (n + 1) e (.int .i64 x)).run P w = .ok () w := by
  simp [Instr.checkKey, run_underlying he, Result.andThen]
theorem pair_chk0 (hk : P.underlying kt = some (.array 2 e)) (he : P.underlying e = some (.int .i64)) (hs : ∀ w, (sizeOf e).run P w = .ok 1 w) (hg : ∀ w, (isAgg e).run P w = .ok false w) (k : P2) (em : Bool) (n : Nat) (w : World) : (Instr.checkKey em (n + 1 + 1) kt (val k)).run P w = .ok () w := by
  have h1 := part_int he hs hg #[.int .i64 k.a, .int .i64 k.b] 0 k.a rfl w
  have h2 := part_int he hs hg #[.int .i64 k.a, .int .i64 k.b] 1 k.b rfl w
  have c1 := chk_int (P := P) he em n k.a w
  have c2 := chk_int (P := P) he em n k.b w
  unfold Instr.checkKey
  simp only [Sem.run_bind, run_underlying hk, Result.andThen, Enc.val]
  simp [Std.Legacy.Range.forIn_eq_forIn_range', Std.Legacy.Range.size, List.range'_succ, hs w, h1, h2, c1, c2, Result.andThen]
theorem eq_int (he : P.underlying e = some (.int .i64)) (d : Nat) (x y : Int) (w : World) : (Op.equalIn (d + 1) e (.int .i64 x) (.int .i64 y)).run P w = .ok (decide (x = y)) w := by
  simp [Op.equalIn, run_underlying he, Result.andThen]
  rfl
theorem pair_eq {i : TypeInfo} (hk : P.underlying kt = some (.array 2 e)) (he : P.underlying e = some (.int .i64)) (hi : P.info? e = some i) (hc : P.cellsOf e = 1) (hg : ∀ w, (isAgg e).run P w = .ok false w) (hs : ∀ w, (sizeOf e).run P w = .ok 1 w) (k k' : P2) (w : World) : (Op.equal kt (val k) (val k')).run P w = .ok (decide (k' = k)) w := by
  obtain ⟨ka, kb⟩ := k
  obtain ⟨ka', kb'⟩ := k'
  have a0 := part_int he hs hg #[.int .i64 ka, .int .i64 kb] 0 ka rfl w
  have a1 := part_int he hs hg #[.int .i64 ka, .int .i64 kb] 1 kb rfl w
  have b0 := part_int he hs hg #[.int .i64 ka', .int .i64 kb'] 0 ka' rfl w
  have b1 := part_int he hs hg #[.int .i64 ka', .int .i64 kb'] 1 kb' rfl w
  have e0 := fun d => eq_int (P := P) he d ka ka' w
  have e1 := fun d => eq_int (P := P) he d kb kb' w
  show (Op.equalIn (9998 + 1 + 1) kt (.agg #[.int .i64 ka, .int .i64 kb]) (.agg #[.int .i64 ka', .int .i64 kb'])).run P w = _
  rw [run_equalIn_array (w := w) (9998 + 1) _ _ hk hi, hc]
  have hr : List.range 2 = [0, 1] := rfl
  rw [hr]
  simp only [Op.eqItems, Sem.run_bind, Nat.zero_mul, Nat.one_mul, a0, a1, b0, b1, e0, e1, Result.andThen_ok]
  by_cases h1 : ka = ka'
  · by_cases h2 : kb = kb'
    · subst h1 h2; simp [a1, e1, Result.andThen]
    · subst h1; have h2' : ¬ kb' = kb := fun e => h2 e.symm
      simp [a1, b1, e1, h2, h2', Result.andThen]
  · have h1' : ¬ ka' = ka := fun e => h1 e.symm
    simp [h1, h1', Result.andThen]
theorem keyT_pair {i : TypeInfo} (hk : P.underlying kt = some (.array 2 e)) (he : P.underlying e = some (.int .i64)) (hi : P.info? e = some i) (hc : P.cellsOf e = 1) (hg : ∀ w, (isAgg e).run P w = .ok false w) (hs : ∀ w, (sizeOf e).run P w = .ok 1 w) : KeyT P kt P2 where
  chk k em w := pair_chk0 hk he hs hg k em 9998 w
  find {ν _} k es w := by
    rw [run_findKey_eq w (by rw [hk])]
    have key : ∀ (es : Ents P2 ν) (j : Nat), (Instr.findAsking kt (val k) (es.map rawE) j).run P w = .ok ((findK k es j).map fun p => (p.1, val p.2)) w := by
      intro es
      induction es with
      | nil => intro j; rfl
      | cons x es ih =>
        intro j
        have h1 := pair_eq hk he hi hc hg hs k x.1 w
        have h2 := ih (j + 1)
        simp only [List.map_cons, Instr.findAsking, Sem.run_bind, findK]
        rw [show (rawE x).key = val x.1 from rfl, h1]
        simp only [Result.andThen_ok]
        by_cases hx : x.1 = k
        · simp [hx, rawE]
        · simp [hx, h2]
    exact key es 0
  stays k w := by
    have h1 : ∀ n : Nat, Instr.sameBits (n + 1 + 1) (Value.agg #[.int .i64 k.a, .int .i64 k.b]) (Value.agg #[.int .i64 k.a, .int .i64 k.b]) = true := fun n => by simp [Instr.sameBits]
    have h2 : Instr.sameBits 10000 (val k) (val k) = true := h1 9998
    unfold Instr.keyThatStays
    rw [h2]; rfl
end pair
/-- An array: its elements' size and its zero value. -/
class ArT (P : Program) (t : TypeId) (sz : outParam Nat) (z : outParam (List Value)) : Prop where
  built : ∀ parts, P.built t parts = Instr.fill (fun i => some (i * sz, sz)) z.toArray parts
theorem q_buildA {P : Program} {n : Fr} {E : Env} {C : World → Prop} {cs : List Bool} {o : Oper} {t : TypeId} {ps : List (Nat × Operand)} {vs : List Value} {cells z : List Value} {sz : Nat} (ho : o.op = .build t ps.toArray) (hv : Evs E cs (ps.map (·.2)) vs) [ht : ArT P t sz z]
    (hb0 : Instr.fill (fun i => some (i * sz, sz)) z.toArray ((ps.map (·.1)).zip vs) = some cells.toArray) : OpR P n E C cs o (.agg cells.toArray) :=
  .of_run fun e he hc w _ => by
    have hb := (ht.built ((ps.map (·.1)).zip vs)).trans hb0
    clear hb0
    unfold execOp; simp only [ho]
    have h1 : ps.map (fun (i, x) => (i, e.eval x)) = (ps.map (·.1)).zip vs := by
      rw [← hv.eval he hc]
      clear ho hb hv
      induction ps with
      | nil => rfl
      | cons p ps ih => simp [ih]
    simp only [List.map_toArray, h1]
    simp [run_build (P := P) w t ((ps.map (·.1)).zip vs).toArray cells.toArray hb]
section mem
variable {κ ν : Type} [DecidableEq κ] [Enc κ] [Enc ν] {P : Program} {n : Fr} {E : Env} {C : World → Prop} {cs : List Bool} {o : Oper} {w0 : World} {fp : List Nat} {H : List Asn}
structure EntX (κ ν : Type) where
  es : Ents κ ν
  clock : Nat
  m : Nat
  v : ν
  st : Nat
structure EntXok (z : ν) (l : List (κ × ν)) (k : κ) (X : EntX κ ν) : Prop where
  ok : EntsOk X.es X.clock
  at' : X.es[X.m]? = some (k, X.v, X.st)
  get : ∀ k', getZ z (kvs X.es) k' = getZ z l k'
  put : ∀ u, kvs (X.es.modify X.m fun e => (k, u, e.2.2)) = upd l k u
theorem getZ_push {z : ν} {l : List (κ × ν)} {k : κ} (h : get? l k = none) (k' : κ) : getZ z (l ++ [(k, z)]) k' = getZ z l k' := by
  induction l with
  | nil =>
    simp only [List.nil_append, getZ, get?]
    split <;> rfl
  | cons x l ih =>
    obtain ⟨a, b⟩ := x
    simp only [get?] at h
    split at h
    · cases h
    · have := ih h
      simp only [List.cons_append, getZ, get?] at this ⊢
      split
      · rfl
      · exact this
theorem modify_last {α : Type} (l : List α) (x : α) (f : α → α) : (l ++ [x]).modify l.length f = l ++ [f x] := by
  induction l with
  | nil => rfl
  | cons y l ih => simp [ih]
theorem run_mapEntry {t kt et : TypeId} {z : ν} [ht : MapT P t kt et] [hK : KeyT P kt κ] [hz : ZeroV P et ν z] {w : World} {b clock : Nat} {es : Ents κ ν} (hb : w.heap[b]? = some (mapO es clock)) (ok : EntsOk es clock) (k : κ) :
    ∃ X : EntX κ ν, EntXok z (kvs es) k X ∧ (Instr.mapEntry t (.map (some b)) (val k)).run P w = .ok (.tuple #[val X.v, .int .i64 X.st]) { w with heap := w.heap.setIfInBounds b (mapO X.es X.clock) } := by
  have h1 := hK.find k es w
  have h2 := MapKept.run_getObj_map (P := P) hb
  cases hf : findK k es 0 with
  | none =>
    rw [hf] at h1
    obtain ⟨h3, h5, h4⟩ := findK_none hf
    refine ⟨⟨es ++ [(k, z, clock)], clock + 1, es.length, z, clock⟩, ⟨ok_push ok h3 z, by simp, fun k' => ?_, fun u => ?_⟩, ?_⟩
    · have : kvs (es ++ [(k, z, clock)]) = kvs es ++ [(k, z)] := by simp [kvs]
      rw [this]; exact getZ_push h5 k'
    · rw [h4 u]
      simp only [modify_last]
      simp [kvs]
    · simp [Instr.mapEntry, run_underlying ht.und, h2, hK.chk, h1, hz.zero, MapKept.run_setObj_map _ hb, Result.andThen, mapO, rawE, goInt]
  | some p =>
    rw [hf] at h1
    obtain ⟨j, u⟩ := p
    obtain ⟨m, bb, rfl, h3, _, h4⟩ := findK_some hf
    have e0 : (es.modify m fun e => (k, u, e.2.2)) = es := by
      apply List.ext_getElem?
      intro i
      rw [List.getElem?_modify]
      split
      · rename_i hi; subst hi; rw [h3]; rfl
      · cases es[i]? <;> rfl
    refine ⟨⟨es, clock, m, u, bb⟩, ⟨ok, h3, fun _ => rfl, h4⟩, ?_⟩
    have e1 : ((es.map rawE).toArray[0 + m]?.map (·.key)).getD (val k) = val k := by rw [Nat.zero_add, raw_get, h3]; rfl
    have e2 : ((es.map rawE).toArray[m]?.map (fun x => (x.born : Int))).getD 0 = (bb : Int) := by rw [raw_get, h3]; rfl
    have e3 : ((es.map rawE).toArray.modify m fun e => { e with key := val k }) = (es.map rawE).toArray := by
      apply Array.ext_getElem?
      intro i
      simp only [Array.getElem?_modify, raw_get]
      split
      · rename_i hi; subst hi; rw [h3]; rfl
      · rfl
    simp only [Instr.mapEntry, Sem.run_bind, run_underlying ht.und, Result.andThen, h2, hK.chk, h1, Option.map_some, e1, hK.stays, MapKept.run_setObj_map _ hb, mapO]
    rw [Nat.zero_add, e3, e2]
    rfl
theorem e_mapEntry {t kt et : TypeId} {z : ν} {x y : Operand} {cx cy : List Bool} {b i : Nat} {k : κ} {l : List (κ × ν)} (ho : o.op = .mapEntry t x y) (hx : evl E x = some (cx, .map (some b))) (hy : evl E y = some (cy, val k))
    [sx : Sub cx []] [sy : Sub cy []] [ht : MapT P t kt et] [hK : KeyT P kt κ] [hz : ZeroV P et ν z] (hi : nthA H i = some (mpA b l)) :
    OpE P n E (Cl w0 fp H) o (fun u w' => ∃ X : EntX κ ν, u = .tuple #[val X.v, .int .i64 X.st] ∧ EntXok z l k X ∧ Cl w0 fp (setA H i (obj b (mapO X.es X.clock))) w') :=
  .of_run fun a w ha hw => by
    obtain ⟨bs, ⟨b1, b2, rfl, ⟨rfl, es, clock, ok, rfl, hb⟩, rfl⟩, _, hlt, _, _, h6⟩ := (hw.focus hi).split
    obtain ⟨X, hX, hr⟩ := run_mapEntry (P := P) (t := t) (z := z) hb ok k
    have hl : b < w.heap.size := hlt b (by simp)
    refine ⟨_, { w with heap := w.heap.setIfInBounds b (mapO X.es X.clock) }, ?_, X, rfl, hX, (h6 [obj b (mapO X.es X.clock)] _ ?_).set hi⟩
    · have e1 := ha.eval hx sx AllT.nil
      have e2 := ha.eval hy sy AllT.nil
      unfold execOp; simp only [ho]; rw [e1, e2]; simp [hr, Result.andThen]
    · refine ⟨⟨rfl, rfl, rfl, by simp, fun k hk hn => ?_⟩, [b], ⟨[b], [], rfl, ⟨rfl, ?_⟩, rfl⟩, by simp, fun k hk => ?_⟩
      · have : k ≠ b := by simpa using hn
        exact Array.getElem?_setIfInBounds_ne (Ne.symm this)
      · simp [hl]
      · simp at hk; subst hk; exact ⟨.inl (by simp), by simpa using hl⟩
theorem e_entryStore {t : TypeId} {z : ν} {x y u : Operand} {cx cy cu : List Bool} {b i : Nat} {k : κ} {v : ν} {l : List (κ × ν)} {X : EntX κ ν} (ho : o.op = .entryStore t x y u) (hx : evl E x = some (cx, .map (some b))) (hy : evl E y = some (cy, .int .i64 X.st)) (hu : evl E u = some (cu, val v))
    [sx : Sub cx []] [sy : Sub cy []] [su : Sub cu []] (hX : EntXok z l k X) (hi : nthA H i = some (obj b (mapO X.es X.clock))) :
    OpE P n E (Cl w0 fp H) o (fun uu w' => uu = undef ∧ Cl w0 fp (setA H i (mpA b (upd l k v))) w') :=
  .of_run0 fun a w ha hw => by
    obtain ⟨bs, ⟨b1, b2, rfl, ⟨rfl, hb⟩, rfl⟩, _, hlt, _, _, h6⟩ := (hw.focus hi).split
    have hl : b < w.heap.size := hlt b (by simp)
    have h2 := MapKept.run_getObj_map (P := P) (w := w) (es := (X.es.map rawE).toArray) (clock := X.clock) hb
    have hm := hX.at'
    have hlt' : X.m < X.es.length := (List.getElem?_eq_some_iff.1 hm).1
    have hge : X.es[X.m] = (k, X.v, X.st) := (List.getElem?_eq_some_iff.1 hm).2
    have hfind : (X.es.map rawE).toArray.findIdx? (fun e => (e.born : Int) == (X.st : Int)) = some X.m := by
      rw [List.findIdx?_toArray, List.findIdx?_eq_some_iff_getElem]
      refine ⟨by simpa using hlt', by simp [rawE, hge], fun j hj => ?_⟩
      have hjl : j < X.es.length := by omega
      have hnd := List.pairwise_iff_getElem.1 hX.ok.born j X.m (by simpa using hjl) (by simpa using hlt') hj
      simp only [List.getElem_map, hge] at hnd
      simp [rawE]
      omega
    refine ⟨{ w with heap := w.heap.setIfInBounds b (mapO (X.es.modify X.m fun e => (k, v, e.2.2)) X.clock) }, ?_, (h6 [mpA b (upd l k v)] _ ?_).set hi⟩
    · have e1 := ha.eval hx sx AllT.nil
      have e2 := ha.eval hy sy AllT.nil
      have e3 := ha.eval hu su AllT.nil
      have e4 : ((X.es.map rawE).toArray.modify X.m fun e => { e with val := val v }) = ((X.es.modify X.m fun e => (k, v, e.2.2)).map rawE).toArray := by
        apply Array.ext_getElem?
        intro i
        simp only [Array.getElem?_modify, raw_get, List.getElem?_modify]
        split
        · rename_i hi; subst hi; rw [hm]; rfl
        · cases X.es[i]? <;> rfl
      unfold execOp; simp only [ho]; rw [e1, e2, e3]
      have e5 : (Instr.entryStore t (.map (some b)) (.int .i64 X.st) (val v)).run P w = .ok () { w with heap := w.heap.setIfInBounds b (mapO (X.es.modify X.m fun e => (k, v, e.2.2)) X.clock) } := by
        have e6 : (asInt (.int .i64 (X.st : Int))).run P w = .ok (X.st : Int) w := rfl
        unfold Instr.entryStore
        simp only [Sem.run_bind, h2, Result.andThen, e6, hfind, e4, MapKept.run_setObj_map _ hb, mapO]
      simp [e5, Result.andThen]
    · refine ⟨⟨rfl, rfl, rfl, by simp, fun k hk hn => ?_⟩, [b], ⟨[b], [], rfl, ⟨rfl, _, X.clock, ok_modify hX.ok hm v, hX.put v, ?_⟩, rfl⟩, by simp, fun k hk => ?_⟩
      · have : k ≠ b := by simpa using hn
        exact Array.getElem?_setIfInBounds_ne (Ne.symm this)
      · simp [hl]
      · simp at hk; subst hk; exact ⟨.inl (by simp), by simpa using hl⟩
/-- A map that answers f. -/
def RdF (z : ν) (b : Nat) (f : κ → ν) (w : World) : Prop := ∃ l, RdM (.map (some b)) l w ∧ ∀ k, getZ z l k = f k
theorem q_lookupF {t kt et : TypeId} {x y : Operand} {cx cy : List Bool} {b : Nat} {k : κ} {f : κ → ν} {z : ν} (ho : o.op = .lookup t x y false) (hx : evl E x = some (cx, .map (some b))) (hy : evl E y = some (cy, val k)) [sx : Sub cx cs] [sy : Sub cy cs]
    [ht : MapT P t kt et] [hK : KeyT P kt κ] [hz : ZeroV P et ν z] (hR : ∀ w, C w → RdF z b f w) : OpR P n E C cs o (val (f k)) := fun a ha hc w hw => by
  obtain ⟨l, h1, h2⟩ := hR w hw
  have := q_lookup (P := P) (n := n) (E := E) (C := fun w' => w' = w) (cs := cs) (o := o) (κ := κ) (ν := ν) (l := l) (z := z) ho hx hy (fun w' e => e ▸ h1) a ha hc w rfl
  rw [h2] at this
  exact this
end mem
end Go.Sx

/- Maps whose keys are structs of two integers; v, ok := m[k]; x[a:b:c]; the table's rows. General lemmas, no program text. -/
set_option autoImplicit false
namespace Go.Sx
open Enc (enc val)
theorem keyT_two {P : Program} {kt : TypeId} {fs : Array Field} (hk : P.underlying kt = some (.struct fs)) (hc : ∀ (k : P2) (em : Bool) (w : World), (Instr.checkKey em 10000 kt (val k)).run P w = .ok () w)
    (he : ∀ (k k' : P2) (w : World), (Op.equal kt (val k) (val k')).run P w = .ok (decide (k' = k)) w) : KeyT P kt P2 where
  chk k em w := hc k em w
  find {ν _} k es w := by
    rw [run_findKey_eq w (by rw [hk])]
    have key : ∀ (es : Ents P2 ν) (j : Nat), (Instr.findAsking kt (val k) (es.map rawE) j).run P w = .ok ((findK k es j).map fun p => (p.1, val p.2)) w := by
      intro es
      induction es with
      | nil => intro j; rfl
      | cons x es ih =>
        intro j
        have h1 := he k x.1 w
        have h2 := ih (j + 1)
        simp only [List.map_cons, Instr.findAsking, Sem.run_bind, findK]
        rw [show (rawE x).key = val x.1 from rfl, h1]
        simp only [Result.andThen_ok]
        by_cases hx : x.1 = k
        · simp [hx, rawE]
        · simp [hx, h2]
    exact key es 0
  stays k w := by
    have h1 : ∀ n : Nat, Instr.sameBits (n + 1 + 1) (Value.agg #[.int .i64 k.a, .int .i64 k.b]) (Value.agg #[.int .i64 k.a, .int .i64 k.b]) = true := fun n => by simp [Instr.sameBits]
    have h2 : Instr.sameBits 10000 (val k) (val k) = true := h1 9998
    unfold Instr.keyThatStays
    rw [h2]; rfl
section
variable {κ ν : Type} [DecidableEq κ] [Enc κ] [Enc ν] {P : Program} {n : Fr} {E : Env} {C : World → Prop} {cs : List Bool} {o : Oper}
theorem q_lookup2 {t kt et : TypeId} {x y : Operand} {cx cy : List Bool} {mv : Value} {k : κ} {l : List (κ × ν)} {z : ν} (ho : o.op = .lookup t x y true) (hx : evl E x = some (cx, mv)) (hy : evl E y = some (cy, val k)) [sx : Sub cx cs] [sy : Sub cy cs]
    [ht : MapT P t kt et] [hK : KeyT P kt κ] [hz : ZeroV P et ν z] (hm : ∀ w, C w → RdM mv l w) : OpR P n E C cs o (.tuple #[val (getZ z l k), .bool (get? l k).isSome]) :=
  .of_run fun a ha hc w hw => by
    unfold execOp; simp only [ho]; rw [ha.eval hx sx hc, ha.eval hy sy hc]
    rcases hm w hw with ⟨rfl, rfl⟩ | ⟨b, es, clock, rfl, ok, rfl, hb⟩
    · have h1 := hK.find (ν := ν) k [] w
      simp only [List.map_nil] at h1
      simp [Instr.lookup, run_underlying ht.und, hK.chk, h1, findK, hz.zero, Result.andThen, getZ, get?]
    · have h1 := hK.find k es w
      have h2 := MapKept.run_getObj_map (P := P) hb
      cases hf : findK k es 0 with
      | none =>
        rw [hf] at h1
        simp [Instr.lookup, run_underlying ht.und, h2, hK.chk, h1, hz.zero, Result.andThen, getZ, (findK_none hf).2.1]
      | some p =>
        rw [hf] at h1
        obtain ⟨j, u⟩ := p
        obtain ⟨m, bb, _, _, h3, _⟩ := findK_some hf
        simp [Instr.lookup, run_underlying ht.und, h2, hK.chk, h1, Result.andThen, getZ, h3]
end
section
variable {α : Type} [Enc α] {P : Program} {n : Fr} {E : Env} {C : World → Prop} {cs : List Bool} {o : Oper}
/-- A block's cells, from one on, are those of y. -/
def BlkIs (b k : Nat) (y : α) (w : World) : Prop := ∀ j v, (enc y)[j]? = some v → w.cell? ⟨b, k + j, none⟩ = some v
theorem blkIs_of {b k : Nat} {cells : List Value} {t : TypeId} {y : α} {w : World} (h : BlkAt b cells t w) (hc : ∀ j v, (enc y)[j]? = some v → cells[k + j]? = some v) : BlkIs b k y w := fun j v hv => by
  obtain ⟨bs, hb⟩ := h
  rw [blk.cell hb]; exact hc j v hv
theorem q_loadI {t : TypeId} {x : Operand} {cx : List Bool} {b k : Nat} {y : α} (ho : o.op = .load t x) (hx : evl E x = some (cx, .pointer (some ⟨b, k, none⟩))) [hs : Sub cx cs] [ht : HasTy P t α]
    (hH : ∀ w, C w → BlkIs b k y w) : OpR P n E C cs o (val y) :=
  load_run ho hx hs fun _ w hw => ⟨_, rfl, ht.load w _ _ fun j v hv => by rw [addr_add]; exact hH w hw j v hv⟩
theorem q_loadElY [Inhabited α] {t : TypeId} {x : Operand} {cx : List Bool} {sv : Value} {i sz : Nat} {xs : List α} {y : α} (hy : nth xs i = y) (ho : o.op = .load t x) (hx : evl E x = some (cx, elP sv i sz 0)) [hs : Sub cx cs] [ht : HasTy P t α]
    (hsz : sz = Enc.sz α) (hR : ∀ w, C w → RdL sv xs w) (hi : AllT cs → i < xs.length) : OpR P n E C cs o (val y) := by
  rw [← hy]; exact q_loadEl ho hx hsz hR hi
/-- x[a:b:b] -/
def SlV.row (s : SlV) (sz lo hi : Nat) : SlV := ⟨if hi = lo then s.addr else s.addr.map (·.add (lo * sz)), hi - lo, hi - lo⟩
theorem rd_row {s : SlV} {l : List α} {w : World} (h : RdL s.v l w) {a b : Nat} (hab : a ≤ b) (hb : b ≤ l.length) : RdL (s.row (Enc.sz α) a b).v ((l.take b).drop a) w := by
  obtain ⟨l1, l2, l3⟩ := rd_lens h
  by_cases e : b = a
  · subst e
    have : (l.take b).drop b = [] := by rw [List.drop_eq_nil_iff]; simp; omega
    rw [this]
    exact ⟨_, _, _, rfl, by simp [SlV.row], by simp [SlV.row], by simp [SlV.row, maxLen], fun i x j v hx => by simp at hx⟩
  · have h2 := rd_sub h hab hb
    obtain ⟨ad, n, cap, h3, h4, h5, h6, h7⟩ := h2
    have hc : s.cap ≠ a := by omega
    simp only [SlV.sub, SlV.v, hc, if_false, Value.slice.injEq] at h3
    obtain ⟨rfl, rfl, rfl⟩ := h3
    refine ⟨s.addr.map (·.add (a * Enc.sz α)), b - a, b - a, by simp [SlV.row, SlV.v, e], h4, Nat.le_refl _, by omega, fun i x j v hx hv => h7 i x j v hx hv⟩
theorem stb_row {s : SlV} {l : List α} {w : World} {fp : List Nat} (h : Stb w fp (RdL s.v l)) {a b : Nat} (hab : a ≤ b) (hb : b ≤ l.length) : Stb w fp (RdL (s.row (Enc.sz α) a b).v ((l.take b).drop a)) := ⟨fun w' k => rd_row (h.stb w' k) hab hb⟩
theorem q_slice3 {t e : TypeId} {sz : Nat} {x y z u : Operand} {cx cy cz cu : List Bool} {s : SlV} {l : List α} {a b : Int} (ho : o.op = .slice t x (some y) (some z) (some u)) (hx : evl E x = some (cx, s.v)) (hy : evl E y = some (cy, .int .i64 a)) (hz : evl E z = some (cz, .int .i64 b)) (hu : evl E u = some (cu, .int .i64 b))
    [sx : Sub cx cs] [sy : Sub cy cs] [sz' : Sub cz cs] [su : Sub cu cs] [ht : SlT P t e] [hs : SzT P e sz] (hrd : ∀ w, C w → RdL s.v l w) (h : AllT cs → 0 ≤ a ∧ a ≤ b ∧ b ≤ l.length) : OpR P n E C cs o (s.row sz a.toNat b.toNat).v :=
  .of_run fun e he hc w hw => by
    obtain ⟨h1, h2, h3⟩ := h hc
    obtain ⟨l1, l2, l3⟩ := rd_lens (hrd w hw)
    unfold execOp; simp only [ho]
    have e1 := he.eval hx sx hc
    have e2 := he.eval hy sy hc
    have e3 := he.eval hz sz' hc
    have e4 := he.eval hu su hc
    have f1 := run_sliceBound (P := P) (w := w) .i64 b s.cap .slice3Acap (by omega) (by omega)
    have f2 := run_sliceBound (P := P) (w := w) .i64 b b.toNat .slice3B (by omega) (by omega)
    have f3 := run_sliceBound (P := P) (w := w) .i64 a b.toNat .slice3C (by omega) (by omega)
    have hb : (Instr.sliceBounds true s.len s.cap (some (.int .i64 a)) (some (.int .i64 b)) (some (.int .i64 b))).run P w = .ok (a.toNat, b.toNat, b.toNat) w := by
      simp [Instr.sliceBounds, f1, f2, f3, Result.andThen]
    have g1 := run_underlying (P := P) (w := w) ht.und
    simp [e1, e2, e3, e4, Instr.sliceAt, Instr.slice, g1, hb, hs.sz, Result.andThen, SlV.v, SlV.row]
theorem elP_row {s : SlV} {lo hi sz i off : Nat} (h : hi ≠ lo) : elP (s.row sz lo hi).v i sz off = elP s.v (lo + i) sz off := by
  cases ha : s.addr with
  | none => simp [elP, SlV.row, SlV.v, h, ha]
  | some a =>
    simp [elP, SlV.row, SlV.v, h, ha]
    rw [addr_add_assoc, Nat.add_mul, Nat.add_assoc]
theorem q_indexRow {t e : TypeId} {x y : Operand} {cx cy : List Bool} {s : SlV} {lo hi sz : Nat} {k : IntKind} {i : Int} {xs : List α} (ho : o.op = .indexAddr t x y) (hx : evl E x = some (cx, (s.row sz lo hi).v)) (hy : evl E y = some (cy, .int k i))
    [sx : Sub cx cs] [sy : Sub cy cs] [ht : SlT P t e] [hz : SzT P e sz] (hR : ∀ w, C w → RdL s.v xs w) (hsz : sz = Enc.sz α) (h : AllT cs → 0 ≤ i ∧ lo + i.toNat < hi ∧ hi ≤ xs.length) : OpR P n E C cs o (elP s.v (lo + i.toNat) sz 0) := by
  intro a ha hc w hw
  have hh := h hc
  subst hsz
  have := q_index (P := P) (n := n) (E := E) (C := C) (cs := cs) (o := o) (xs := (xs.take hi).drop lo) ho hx hy (fun w hw => rd_row (hR w hw) (by omega) (by omega)) (fun _ => by simp; omega) a ha hc w hw
  rwa [elP_row (by omega)] at this
end
end Go.Sx

set_option autoImplicit false
set_option maxRecDepth 100000
namespace Go.Proofs.YtomjbfeafodfbaaGreat
open Go.Sx
open Enc (enc val)
theorem chk140 (k : P2) (em : Bool) (w : World) : (Instr.checkKey em 10000 140 (val k)).run Tryz.prog w = .ok () w := by kernel_rfl
theorem eq140 (k k' : P2) (w : World) : (Op.equal 140 (val k) (val k')).run Tryz.prog w = .ok (decide (k' = k)) w := by
  obtain ⟨a1, a2⟩ := k
  obtain ⟨b1, b2⟩ := k'
  simp only [Enc.val, P2.mk.injEq, Op.equal, Op.maxDepth]
  simp [go_sem]
  by_cases h1 : a1 = b1 <;> by_cases h2 : a2 = b2 <;> simp [h1, h2] <;> omega
instance : KeyT Tryz.prog 140 P2 := keyT_two Tryz.underlying140 chk140 eq140
structure TK where
  sp : SlV
  p : List Un
  tp : SlV
  tgt : List Wan
  x : Wts
  us : SlV
  usv : List SlV
  bk : Nat
  b3 : Nat
  b4 : Nat
  b5 : Nat
  b14 : Nat
  bm : Nat
def idxs (p : List Un) (k : Nat) (ph : ByteArray) : List Int := ((List.range k).filter fun i => decide ((nth p i).phone = ph)).map fun (i : Nat) => (i : Int)
namespace TK
variable (K : TK)
def U (i : Nat) : List Int := idxs K.p K.p.length (nth K.tgt i).phone
def F (i : Nat) (u : Int) : Int := fitC K.x (nth K.p u.toNat) (nth K.tgt i)
def J (u v : Int) : Int := joinC K.x (nth K.p u.toNat) (nth K.p v.toNat)
def t : Tsk := ⟨K.tgt.length, K.U, K.F, K.J⟩
structure Rd (w : World) : Prop where
  bk : BlkAt K.bk [K.sp.v, K.tp.v, .int .i64 K.x.beside, .int .i64 K.x.pitch, .int .i64 K.x.length, .int .i64 K.x.join, K.us.v, .func (.func 105) #[] #[.pointer (some ⟨K.b14, 0, none⟩), .pointer (some ⟨K.b3, 0, none⟩), .pointer (some ⟨K.b4, 0, none⟩), .pointer (some ⟨K.b5, 0, none⟩)]] 131 w
  b14 : BlkAt K.b14 [.map (some K.bm)] 138 w
  b3 : BlkAt K.b3 [K.sp.v] 22 w
  b4 : BlkAt K.b4 [K.tp.v] 23 w
  b5 : BlkAt K.b5 (enc K.x) 25 w
  us : RdL K.us.v K.usv w
  un : K.usv.length = K.tgt.length
  uu : ∀ i, i < K.tgt.length → RdL (nth K.usv i).v (K.U i) w
  tp : RdL K.tp.v K.tgt w
  vo : VoRd w K.sp K.p
structure Ok : Prop where
  vo : voiceB K.p = true
  wa : ∀ t ∈ K.tgt, waB t = true
  wt : wtB K.x = true
  n1 : K.p.length ≤ 2000
  n2 : K.tgt.length ≤ 500
theorem Ok.un {K : TK} (h : K.Ok) {u : Int} (hu : 0 ≤ u ∧ u < K.p.length) : UnOk (nth K.p u.toNat) ∧ nth K.p u.toNat ∈ K.p := by
  have hm : nth K.p u.toNat ∈ K.p := by rw [nth_get (by omega)]; exact List.getElem_mem (by omega)
  have := h.vo
  simp only [voiceB, Bool.and_eq_true] at this
  exact ⟨un_ok (List.all_eq_true.1 this.1.1 _ hm), hm⟩
theorem Ok.tg {K : TK} (h : K.Ok) {i : Nat} (hi : i < K.tgt.length) : WaOk (nth K.tgt i) := wa_ok (h.wa _ (by rw [nth_get hi]; exact List.getElem_mem hi))
theorem Ok.bl {K : TK} (h : K.Ok) {u v : Int} (hu : 0 ≤ u ∧ u < K.p.length) (hv : 0 ≤ v ∧ v < K.p.length) : (nth K.p u.toNat).el.length = (nth K.p v.toNat).bl.length := by
  have := h.vo
  simp only [voiceB, eqB, Bool.and_eq_true, List.all_eq_true, decide_eq_true_eq] at this
  have h1 := this.1.2 _ (h.un hu).2
  have h2 := this.1.2 _ (h.un hv).2
  omega
theorem idx_mem {p : List Un} {k : Nat} {ph : ByteArray} {u : Int} : u ∈ idxs p k ph ↔ 0 ≤ u ∧ u < k ∧ (nth p u.toNat).phone = ph := by
  simp only [idxs, List.mem_map, List.mem_filter, List.mem_range, decide_eq_true_eq]
  constructor
  · rintro ⟨i, ⟨h1, h2⟩, rfl⟩
    exact ⟨by omega, by omega, h2⟩
  · rintro ⟨h1, h2, h3⟩
    exact ⟨u.toNat, ⟨by omega, h3⟩, by omega⟩
theorem U_mem {i : Nat} {u : Int} (h : u ∈ K.U i) : 0 ≤ u ∧ u < K.p.length := by
  have := idx_mem.1 h
  exact ⟨this.1, this.2.1⟩
def MemoOk (m : List (P2 × Int)) : Prop := ∀ k v, get? m k = some v → v = K.F k.a.toNat k.b
end TK
theorem stb_map {w : World} {bs : List Nat} {R S : World → Prop} (h : Stb w bs R) (f : ∀ w', R w' → S w') : Stb w bs S := ⟨fun w' k => f w' (h.stb w' k)⟩
theorem cost_spec (K : TK) (hK : K.Ok) (i : Nat) (hi : i < K.tgt.length) (u : Int) (hu : 0 ≤ u ∧ u < K.p.length) (m : List (P2 × Int)) (hm : K.MemoOk m) (w : World) (bs : List Nat) (hs : Sep [mpA K.bm m] w bs) (hn : bs.Nodup) (hlt : ∀ b ∈ bs, b < w.heap.size) (hR : Stb w bs K.Rd) :
    Calls Tryz.prog 105 #[.int .i64 i, .int .i64 u, .pointer (some ⟨K.b14, 0, none⟩), .pointer (some ⟨K.b3, 0, none⟩), .pointer (some ⟨K.b4, 0, none⟩), .pointer (some ⟨K.b5, 0, none⟩)] w fun e w' => ∃ m' : List (P2 × Int), e = .returned (.int .i64 (K.F i u)) ∧ K.MemoOk m' ∧ Cl w bs [mpA K.bm m'] w' := by
  have h14 := stb_map hR fun _ h => h.b14
  have h3 := stb_map hR fun _ h => h.b3
  have h4 := stb_map hR fun _ h => h.b4
  have h5 : Stb w bs (BlkIs K.b5 0 K.x) := stb_map hR fun _ h => blkIs_of h.b5 (fun j v hj => by simpa using hj)
  have htp := stb_map hR fun _ h => h.tp
  have hsp := stb_map hR fun _ h => h.vo.l.here
  have hun := hK.un hu
  refine calls_cw (vs := [_, _, _, _, _, _]) Tryz.func105 rfl Tryz.ntmps105 rfl (Cl.start hs hn hlt) (cw_seq (cw_region (sr rfl rfl rfl ((q_assign rfl rfl)) (sw_nil (post_then (cw_seq (cw_region (sr rfl rfl rfl ((q_move rfl rfl)) (sr rfl rfl rfl ((q_move rfl rfl)) (sr rfl rfl rfl ((q_build rfl (.cons rfl inferInstance (.cons rfl inferInstance (.nil))) rfl)) ?_))))))))))
  refine sw_x rfl rfl rfl (e_alloc rfl) (fun b9 => ?_)
  refine sw_eff0 rfl rfl (e_store (i := 0) rfl rfl rfl rfl rfl rfl rfl rfl) (sw_nil (post_then (cw_seq (cw_region ?_))))
  refine sr rfl rfl rfl ((q_loadS rfl rfl (fun w hw => Stb.cl (by assumption) hw) rfl)) ?_
  refine sr rfl rfl rfl ((q_loadA rfl rfl (by exact .head _) rfl)) ?_
  refine sr rfl rfl rfl ((q_lookup2 (k := (⟨i, u⟩ : P2)) (z := (0 : Int)) (l := m) rfl rfl rfl (by exact fun w hw => rdm_own hw (by exact .tail _ (.head _))))) ?_
  refine sr rfl rfl rfl ((q_move rfl rfl)) (sr rfl rfl rfl ((q_extract rfl rfl rfl)) (sr rfl rfl rfl ((q_extract rfl rfl rfl)) (sr rfl rfl rfl ((q_assign rfl rfl)) (sr rfl rfl rfl ((q_assign rfl rfl)) (sw_nil (post_then (cw_seq (cw_seq (cw_region (sr rfl rfl rfl ((q_move rfl rfl)) (sr rfl rfl rfl ((q_not rfl rfl)) (sw_nil (post_then ?_)))))))))))))
  refine cw_cond rfl (fun h => ?_) (fun h => ?_)
  · skip
    have h0 : get? m (⟨i, u⟩ : P2) = none := by simpa using h
    refine cw_seq ?_
    refine cw_region_q mixed_Tryz (by kernel_rfl) ?_
    refine qr rfl rfl rfl ((q_loadS rfl rfl (fun w hw => Stb.cl (by assumption) hw) rfl)) ?_
    refine qr rfl rfl rfl ((q_move rfl rfl)) ?_
    refine qr rfl rfl rfl ((q_index rfl rfl rfl (by exact fun w hw => Stb.cl (by assumption) hw) (by intro hc; omega))) ?_
    refine qr rfl rfl rfl ((q_loadEl rfl rfl rfl (by exact fun w hw => Stb.cl (by assumption) hw) (by intro hc; omega))) ?_
    refine qr rfl rfl rfl ((q_loadS rfl rfl (fun w hw => Stb.cl (by assumption) hw) rfl)) ?_
    refine qr rfl rfl rfl ((q_move rfl rfl)) ?_
    refine qr rfl rfl rfl ((q_indexN rfl rfl rfl (by exact fun w hw => Stb.cl (by assumption) hw) (by intro hc; omega))) ?_
    refine qr rfl rfl rfl ((q_loadEl rfl rfl rfl (by exact fun w hw => Stb.cl (by assumption) hw) (by intro hc; omega))) ?_
    refine qr rfl rfl rfl ((q_loadI rfl rfl (fun w hw => Stb.cl (by assumption) hw))) ?_
    refine qw_step rfl rfl rfl (q_call (CanCall.mk Tryz.call90) rfl (.cons rfl inferInstance (.cons rfl inferInstance (.cons rfl inferInstance (.nil)))) (fun _ w hw => callq hw (fitting_spec _ _ _ w hun.1 (hK.tg hi) (wt_ok hK.wt)))) (qr rfl rfl rfl ((q_assign rfl rfl)) (qw_end (post_then (cw_region ?_))))
    refine sr rfl rfl rfl ((q_loadS rfl rfl (fun w hw => Stb.cl (by assumption) hw) rfl)) ?_
    refine sr rfl rfl rfl ((q_loadA rfl rfl (by exact .head _) rfl)) ?_
    refine sr rfl rfl rfl ((q_move rfl rfl)) (sw_eff0 rfl rfl (e_mapUpdate (κ := P2) (ν := Int) (k := ⟨i, u⟩) (v := K.F i u) (i := 1) (.inl rfl) rfl rfl rfl rfl) (sw_nil (post_then (cw_seq (cw_region (sr rfl rfl rfl ((q_move rfl rfl)) (sr rfl rfl rfl ((q_assign rfl rfl)) (sw_nil (post_then (cw_ret (post_ret1 rfl (resOk_tmp rfl) ?_)))))))))))
    refine fun w' hw => ⟨upd m ⟨i, u⟩ (K.F i u), rfl, fun k v hk => ?_, (fun w h => Cl.sel (by exact .take 1 rfl (.nil _)) w h) _ hw⟩
    rw [get?_upd] at hk
    by_cases e : k = ⟨i, u⟩
    · rw [if_pos e] at hk; cases hk; rw [e]; rfl
    · rw [if_neg e] at hk; exact hm k v hk
  · skip
    obtain ⟨v, h0⟩ : ∃ v, get? m (⟨i, u⟩ : P2) = some v := by
      cases hh : get? m (⟨i, u⟩ : P2)
      · rw [hh] at h; simp at h
      · exact ⟨_, rfl⟩
    have hv := hm _ _ h0
    have hz : getZ (0 : Int) m (⟨i, u⟩ : P2) = K.F i u := by rw [getZ, h0, Option.getD_some, hv]; rfl
    refine cw_skip (post_then (cw_seq (cw_region (sr rfl rfl rfl ((q_move rfl rfl)) (sr rfl rfl rfl ((q_assign rfl rfl)) (sw_nil (post_then (cw_ret (post_ret1 rfl (resOk_tmp rfl) ?_)))))))))
    exact fun w' hw => ⟨m, by rw [hz]; rfl, hm, (fun w h => Cl.sel (by exact .take 1 rfl (.nil _)) w h) _ hw⟩
end Go.Proofs.YtomjbfeafodfbaaGreat

set_option autoImplicit false
set_option maxRecDepth 100000
namespace Go.Proofs.YtomjbfeafodfbaaGreat
open Go.Sx
open Enc (enc val)
def TK.possB (K : TK) : Bool := (List.range K.tgt.length).all fun i => decide (K.U i ≠ [])
theorem TK.poss {K : TK} (h : K.possB = true) {i : Nat} (hi : i < K.tgt.length) : K.U i ≠ [] := by
  have := List.all_eq_true.1 h i (by simpa using hi)
  simpa using this
theorem poss1_spec (xs : List SlV) : PredL Tryz.prog 106 #[] (fun s : SlV => decide (s.len = 0)) (fun _ => True) xs := fun x _ w _ => by
  refine calls_cw (vs := [_]) Tryz.func106 rfl Tryz.ntmps106 rfl (Cl.start0 w) (cw_seq (cw_region (sr rfl rfl rfl ((q_assign rfl rfl)) (sw_nil (post_then (cw_seq (cw_region (sr rfl rfl rfl ((q_move rfl rfl)) (sr rfl rfl rfl ((q_lenV rfl (.cons rfl inferInstance (.nil)))) (sr rfl rfl rfl ((q_eql rfl rfl rfl)) (sr rfl rfl rfl ((q_assign rfl rfl)) (sw_nil (post_then (cw_ret (post_ret1 rfl (resOk_tmp rfl) ?_)))))))))))))))
  exact fun w' hw => ⟨by congr 2; rw [decide_eq_decide]; omega, hw⟩
theorem possible_spec (K : TK) (w : World) (hR : Stb w [] K.Rd) : Calls Tryz.prog 65 #[.pointer (some ⟨K.bk, 0, none⟩)] w fun e w' => e = .returned (.bool K.possB) ∧ Cl w [] [] w' := by
  have hbk := stb_map hR fun _ h => h.bk
  have hus := stb_map hR fun _ h => h.us
  refine calls_cw (vs := [_]) Tryz.func65 rfl Tryz.ntmps65 rfl (Cl.start0 w) (cw_seq (cw_region (sr rfl rfl rfl ((q_assign rfl rfl)) (sw_nil (post_then (cw_seq (cw_region (sr rfl rfl rfl ((q_move rfl rfl)) (sr rfl rfl rfl ((q_nilCheck rfl rfl)) (sr rfl rfl rfl ((q_fieldAddr rfl rfl)) ?_))))))))))
  refine sr rfl rfl rfl ((q_loadS rfl rfl (fun w hw => Stb.cl (by assumption) hw) rfl)) ?_
  refine sw_step rfl rfl rfl (q_call (CanCall.mk Tryz.call95) rfl (.cons rfl inferInstance (.cons rfl inferInstance (.nil))) (fun _ w hw => callq hw (containsRow_spec _ _ _ _ _ _ w (by exact stb_arg hw (by assumption)) (stb_true w []) (CanCall.mk Tryz.call106) (poss1_spec _)))) ?_
  refine sr rfl rfl rfl ((q_not rfl rfl)) (sr rfl rfl rfl ((q_assign rfl rfl)) (sw_nil (post_then (cw_ret (post_ret1 rfl (resOk_tmp rfl) ?_)))))
  refine fun w' hw => ⟨?_, hw⟩
  congr 2
  rw [List.not_any_eq_all_not]
  have hun := hR.here.un
  rw [Bool.eq_iff_iff, List.all_eq_true]
  unfold TK.possB
  rw [List.all_eq_true]
  have hlen : ∀ i, i < K.tgt.length → (nth K.usv i).len = (K.U i).length := fun i hi => (rd_lens (hR.here.uu i hi)).1
  constructor
  · intro h i hi
    simp only [List.mem_range] at hi
    have := h (nth K.usv i) (by rw [nth_get (by omega)]; exact List.getElem_mem (by omega))
    simp only [Bool.not_eq_true', decide_eq_false_iff_not] at this
    rw [hlen i hi] at this
    simpa using this
  · intro h s hs
    obtain ⟨i, hi, rfl⟩ := List.getElem_of_mem hs
    have h2 := h i (by simp; omega)
    have h3 := hlen i (by omega)
    rw [nth_get hi] at h3
    simp only [ne_eq, decide_eq_true_eq, Bool.not_eq_true', decide_eq_false_iff_not] at h2 ⊢
    rw [h3]
    simpa using h2
theorem plus_spec (n m : Int) (w : World) (hn : 0 ≤ n ∧ n ≤ 4611686018427387904) (hm : -4611686018427387904 ≤ m) : Calls Tryz.prog 97 #[.int .i64 n, .int .i64 m] w fun e w' => e = .returned (.int .i64 (min (n + m) 9223372036854775807)) ∧ Cl w [] [] w' := by
  refine calls_cw (vs := [_, _]) Tryz.func97 rfl Tryz.ntmps97 rfl (Cl.start0 w) (cw_seq (cw_region (sr rfl rfl rfl ((q_assign rfl rfl)) (sw_nil (post_then (cw_seq (cw_seq (cw_region (sr rfl rfl rfl ((q_move rfl rfl)) (sr rfl rfl rfl ((q_move rfl rfl)) ?_))))))))))
  refine sr rfl rfl rfl ((q_sub rfl rfl rfl (by intro hc; omega))) ?_
  refine sr rfl rfl rfl ((q_gtr rfl rfl rfl)) (sw_nil (post_then ?_))
  refine cw_cond rfl (fun h => ?_) (fun h => ?_)
  · skip
    have h1 : 9223372036854775807 - n < m := by simpa using h
    refine cw_seq (cw_region (sr rfl rfl rfl ((q_assign rfl rfl)) (sw_nil (post_then (cw_ret (post_then_r (post_ret1 rfl (resOk_tmp rfl) ?_)))))))
    exact fun w' hw => ⟨by congr 2; omega, hw⟩
  · skip
    have h1 : ¬ 9223372036854775807 - n < m := by simpa using h
    refine cw_skip (post_then (cw_seq (cw_region (sr rfl rfl rfl ((q_move rfl rfl)) (sr rfl rfl rfl ((q_move rfl rfl)) ?_)))))
    refine sr rfl rfl rfl ((q_add rfl rfl rfl (by intro hc; omega))) ?_
    refine sr rfl rfl rfl ((q_assign rfl rfl)) (sw_nil (post_then (cw_ret (post_ret1 rfl (resOk_tmp rfl) ?_))))
    exact fun w' hw => ⟨by congr 2; omega, hw⟩
def nextTo (K : TK) (row : List Int) (i : Nat) (after : Int) (k : Nat) : Int := (((K.U i).take k).map fun v => K.J after v + nth row v.toNat).foldl min 9223372036854775807
theorem nextTo_le (K : TK) (row : List Int) (i : Nat) (after : Int) (k : Nat) : nextTo K row i after k ≤ 9223372036854775807 := (foldl_min_le _ _).1
theorem nextTo_succ (K : TK) (row : List Int) (i : Nat) (after : Int) {k : Nat} (hk : k < (K.U i).length) : nextTo K row i after (k + 1) = min (nextTo K row i after k) (K.J after (nth (K.U i) k) + nth row (nth (K.U i) k).toNat) := by
  simp only [nextTo]
  rw [List.take_succ_eq_append_getElem hk, List.map_append, List.foldl_append, ← nth_get hk]
  simp
theorem next_spec (K : TK) (hK : K.Ok) (rv : Value) (row : List Int) (i : Nat) (hi : i < K.tgt.length) (after : Int) (ha : 0 ≤ after ∧ after < K.p.length) (hrow : row.length = K.p.length) (hlow : ∀ v ∈ K.U i, -4611686018427387904 ≤ nth row v.toNat) (w : World) (hrv : Stb w [] (RdL rv row)) (hR : Stb w [] K.Rd) :
    Calls Tryz.prog 98 #[.pointer (some ⟨K.bk, 0, none⟩), rv, .int .i64 i, .int .i64 after] w fun e w' => e = .returned (.int .i64 (minL ((K.U i).map fun v => K.J after v + nth row v.toNat))) ∧ Cl w [] [] w' := by
  have hbk := stb_map hR fun _ h => h.bk
  have hus := stb_map hR fun _ h => h.us
  have huu := stb_map hR fun _ h => h.uu i hi
  have hsp := stb_map hR fun _ h => h.vo.l.here
  have hun := hR.here.un
  have hUL := rd_len huu.here
  have hx : Stb w [] (BlkIs K.bk 2 K.x) := stb_map hR fun _ h => blkIs_of h.bk (fun j v hj => by
    match j, hj with
    | 0, hj => exact hj
    | 1, hj => exact hj
    | 2, hj => exact hj
    | 3, hj => exact hj
    | j + 4, hj => simp [Enc.enc] at hj)
  have hvo := stb_map hR fun _ h => h.vo
  refine calls_cw (vs := [_, _, _, _]) Tryz.func98 rfl Tryz.ntmps98 rfl (Cl.start0 w) (cw_seq (cw_region (sr rfl rfl rfl ((q_assign rfl rfl)) (sw_nil (post_then (cw_seq (cw_region (sr rfl rfl rfl ((q_assign rfl rfl)) (sw_nil (post_then (cw_seq (cw_seq (cw_region (sr rfl rfl rfl ((q_move rfl rfl)) (sr rfl rfl rfl ((q_nilCheck rfl rfl)) (sr rfl rfl rfl ((q_fieldAddr rfl rfl)) ?_))))))))))))))))
  refine sr rfl rfl rfl ((q_loadS rfl rfl (fun w hw => Stb.cl (by assumption) hw) rfl)) ?_
  refine sr rfl rfl rfl ((q_move rfl rfl)) ?_
  refine sr rfl rfl rfl ((q_indexN rfl rfl rfl (by exact fun w hw => Stb.cl (by assumption) hw) (by intro hc; omega))) ?_
  refine sr rfl rfl rfl ((q_loadEl rfl rfl rfl (by exact fun w hw => Stb.cl (by assumption) hw) (by intro hc; omega))) ?_
  refine sr rfl rfl rfl ((q_len rfl (.cons rfl inferInstance (.nil)) (by exact fun w hw => Stb.cl (by assumption) hw))) ?_
  refine sr rfl rfl rfl ((q_move rfl rfl)) (sw_nil (post_then (cw_block ?_)))
  refine cw_loop (S := Nat) (fun k => [(0, [], .pointer (some ⟨K.bk, 0, none⟩)), (1, [], rv), (3, [], .int .i64 after), (9, [], .int .i64 (nextTo K row i after k)), (18, [], (nth K.usv i).v), (19, [], .int .i64 (K.U i).length), (20, [], .int .i64 k)]) (fun _ => Cl w [] []) (fun k => k ≤ (K.U i).length) (fun k => (K.U i).length - k) 0 (Nat.zero_le _) (by exact .cons rfl (.cons rfl (.cons rfl (.cons rfl (.cons rfl (.cons rfl (.cons rfl .nil))))))) (fun _ h => h) ?_
  intro k hk
  refine cw_seq (cw_region (sr rfl rfl rfl ((q_lss rfl rfl rfl)) (sw_nil (post_then (cw_seq ?_)))))
  refine cw_cond rfl (fun h => ?_) (fun h => ?_)
  · skip
    have hk' : k < (K.U i).length := by simp only [decide_eq_true_eq] at h; omega
    have hv := K.U_mem (i := i) (u := nth (K.U i) k) (by rw [nth_get hk']; exact List.getElem_mem hk')
    have hl := hlow (nth (K.U i) k) (by rw [nth_get hk']; exact List.getElem_mem hk')
    have hun1 := hK.un ha
    have hun2 := hK.un hv
    have hbd := joinC_bd (wt_ok hK.wt) hun1.1 hun2.1
    have hle := nextTo_le K row i after k
    refine cw_skip (post_then (cw_seq (cw_block (cw_seq (cw_region ?_)))))
    refine sr rfl rfl rfl ((q_indexN rfl rfl rfl (by exact fun w hw => Stb.cl (by assumption) hw) (by intro hc; omega))) ?_
    refine sr rfl rfl rfl ((q_loadEl rfl rfl rfl (by exact fun w hw => Stb.cl (by assumption) hw) (by intro hc; omega))) ?_
    refine sr rfl rfl rfl ((q_assign rfl rfl)) (sw_nil (post_then ?_))
    refine cw_region_q mixed_Tryz (by kernel_rfl) ?_
    refine qr rfl rfl rfl ((q_move rfl rfl)) (qr rfl rfl rfl ((q_move rfl rfl)) (qr rfl rfl rfl ((q_nilCheck rfl rfl)) (qr rfl rfl rfl ((q_fieldAddr rfl rfl)) ?_)))
    refine qr rfl rfl rfl ((q_loadS rfl rfl (fun w hw => Stb.cl (by assumption) hw) rfl)) ?_
    refine qr rfl rfl rfl ((q_move rfl rfl)) ?_
    refine qr rfl rfl rfl ((q_index rfl rfl rfl (by exact fun w hw => Stb.cl (by assumption) hw) (by intro hc; omega))) ?_
    refine qr rfl rfl rfl ((q_loadEl rfl rfl rfl (by exact fun w hw => Stb.cl (by assumption) hw) (by intro hc; omega))) ?_
    refine qr rfl rfl rfl ((q_move rfl rfl)) (qr rfl rfl rfl ((q_nilCheck rfl rfl)) (qr rfl rfl rfl ((q_fieldAddr rfl rfl)) ?_))
    refine qr rfl rfl rfl ((q_loadS rfl rfl (fun w hw => Stb.cl (by assumption) hw) rfl)) ?_
    refine qr rfl rfl rfl ((q_move rfl rfl)) ?_
    refine qr rfl rfl rfl ((q_index rfl rfl rfl (by exact fun w hw => Stb.cl (by assumption) hw) (by intro hc; omega))) ?_
    refine qr rfl rfl rfl ((q_loadEl rfl rfl rfl (by exact fun w hw => Stb.cl (by assumption) hw) (by intro hc; omega))) ?_
    refine qr rfl rfl rfl ((q_move rfl rfl)) (qr rfl rfl rfl ((q_nilCheck rfl rfl)) (qr rfl rfl rfl ((q_fieldAddr rfl rfl)) ?_))
    refine qr rfl rfl rfl ((q_loadI rfl rfl (fun w hw => Stb.cl (by assumption) hw))) ?_
    refine qw_step rfl rfl rfl (q_call (CanCall.mk Tryz.call94) rfl (.cons rfl inferInstance (.cons rfl inferInstance (.cons rfl inferInstance (.nil)))) (fun _ w hw => callq hw (joining_spec _ _ _ w ((hvo.cl hw).u _ hun1.2) ((hvo.cl hw).u _ hun2.2) hun1.1 hun2.1 (hK.bl ha hv) (wt_ok hK.wt)))) (qr rfl rfl rfl ((q_move rfl rfl)) (qr rfl rfl rfl ((q_move rfl rfl)) ?_))
    refine qr rfl rfl rfl ((q_index rfl rfl rfl (by exact fun w hw => Stb.cl (by assumption) hw) (by intro hc; omega))) ?_
    refine qr rfl rfl rfl ((q_loadEl rfl rfl rfl (by exact fun w hw => Stb.cl (by assumption) hw) (by intro hc; omega))) ?_
    refine qw_step rfl rfl rfl (q_call (CanCall.mk Tryz.call97) rfl (.cons rfl inferInstance (.cons rfl inferInstance (.nil))) (fun _ w hw => callq hw (plus_spec _ _ w (by omega) (by omega)))) ?_
    refine qr rfl rfl rfl ((q_min rfl (.cons rfl inferInstance (.cons rfl inferInstance (.nil))))) (qr rfl rfl rfl ((q_assign rfl rfl)) (qw_end (post_blk (post_then (cw_region ?_)))))
    refine sr rfl rfl rfl ((q_add rfl rfl rfl (by intro hc; omega))) ?_
    refine sr rfl rfl rfl ((q_move rfl rfl)) (sw_nil ?_)
    refine post_next (k + 1) ?_ (fun _ h => h) (by omega) (by omega)
    rw [nextTo_succ K row i after hk']
    refine Le.cons rfl (Le.cons rfl (Le.cons rfl (Le.cons' rfl (by congr 1; simp only [TK.J]; omega) (Le.cons rfl (Le.cons rfl (Le.cons rfl Le.nil))))))
  · skip
    have hk' : k = (K.U i).length := by simp only [decide_eq_false_iff_not] at h; omega
    subst hk'
    refine cw_exit (post_then_x (post_then_x (post_blk_eq (post_then (cw_seq (cw_region (sr rfl rfl rfl ((q_move rfl rfl)) (sr rfl rfl rfl ((q_assign rfl rfl)) (sw_nil (post_then (cw_ret (post_ret1 rfl (resOk_tmp rfl) ?_))))))))))))
    exact fun w' hw => ⟨by simp only [nextTo, List.take_length]; rfl, hw⟩
end Go.Proofs.YtomjbfeafodfbaaGreat

set_option autoImplicit false
set_option maxRecDepth 100000
namespace Go.Proofs.YtomjbfeafodfbaaGreat
open Go.Sx
open Enc (enc val)
def rowsTo (sc : SlV) (W T k : Nat) : List SlV := (List.range T).map fun j => if j < k then sc.row 1 (j * W) ((j + 1) * W) else ⟨none, 0, 0⟩
theorem rowsTo_len (sc : SlV) (W T k : Nat) : (rowsTo sc W T k).length = T := by simp [rowsTo]
theorem rowsTo_nth (sc : SlV) (W T k j : Nat) (hj : j < T) : nth (rowsTo sc W T k) j = if j < k then sc.row 1 (j * W) ((j + 1) * W) else ⟨none, 0, 0⟩ := by
  rw [nth_get (by rw [rowsTo_len]; exact hj)]; simp [rowsTo]
theorem rowsTo_succ (sc : SlV) (W T k : Nat) (hk : k < T) : (rowsTo sc W T k).set k (sc.row 1 (k * W) ((k + 1) * W)) = rowsTo sc W T (k + 1) := by
  apply List.ext_getElem (by simp [rowsTo])
  intro i h1 h2
  rw [List.getElem_set]
  have hi : i < T := by simpa [rowsTo] using h2
  by_cases e : k = i
  · subst e; simp [rowsTo]
  · rw [if_neg e]
    simp only [rowsTo, List.getElem_map, List.getElem_range]
    by_cases h3 : i < k
    · rw [if_pos h3, if_pos (by omega)]
    · rw [if_neg h3, if_neg (by omega)]
theorem rowsTo_zero (sc : SlV) (W T : Nat) : List.replicate T (⟨none, 0, 0⟩ : SlV) = rowsTo sc W T 0 := by
  apply List.ext_getElem (by simp [rowsTo])
  intro i h1 h2
  simp [rowsTo]
theorem prod_bd {j T W : Nat} (hj : j < T) (hT : T ≤ 500) (hW : W ≤ 2000) : j * W ≤ (j + 1) * W ∧ (j + 1) * W ≤ T * W ∧ T * W ≤ 1000000 ∧ (j + 1) * W = j * W + W :=
  ⟨Nat.mul_le_mul_right _ (by omega), Nat.mul_le_mul_right _ (by omega), Nat.mul_le_mul hT hW, by rw [Nat.add_mul, Nat.one_mul]⟩
theorem table_spec (K : TK) (hK : K.Ok) (w : World) (hR : Stb w [] K.Rd) : Calls Tryz.prog 107 #[.pointer (some ⟨K.bk, 0, none⟩)] w fun e w' => ∃ y : SlV × SlV, e = .returned y.1.v ∧ True ∧ Cl w [] [ownL 28 y.1.v (rowsTo y.2 K.p.length K.tgt.length K.tgt.length), ownL 3 y.2.v (List.replicate (K.tgt.length * K.p.length) (0 : Int))] w' := by
  have hbk := stb_map hR fun _ h => h.bk
  have hsp := stb_map hR fun _ h => h.vo.l.here
  have htp := stb_map hR fun _ h => h.tp
  have n1 := hK.n1
  have n2 := hK.n2
  have hTW : K.tgt.length * K.p.length ≤ 1000000 := Nat.mul_le_mul n2 n1
  have eTW : ((K.tgt.length : Int) * (K.p.length : Int)) = ((K.tgt.length * K.p.length : Nat) : Int) := by rw [Int.natCast_mul]
  refine calls_cw (vs := [_]) Tryz.func107 rfl Tryz.ntmps107 rfl (Cl.start0 w) (cw_seq (cw_region (sr rfl rfl rfl ((q_assign rfl rfl)) (sw_nil (post_then (cw_seq (cw_region (sr rfl rfl rfl ((q_move rfl rfl)) (sr rfl rfl rfl ((q_nilCheck rfl rfl)) (sr rfl rfl rfl ((q_fieldAddr rfl rfl)) ?_))))))))))
  refine sr rfl rfl rfl ((q_loadS rfl rfl (fun w hw => Stb.cl (by assumption) hw) rfl)) ?_
  refine sr rfl rfl rfl ((q_len rfl (.cons rfl inferInstance (.nil)) (by exact fun w hw => Stb.cl (by assumption) hw))) ?_
  refine sr rfl rfl rfl ((q_assign rfl rfl)) (sw_nil (post_then (cw_seq (cw_region (sr rfl rfl rfl ((q_move rfl rfl)) (sr rfl rfl rfl ((q_nilCheck rfl rfl)) (sr rfl rfl rfl ((q_fieldAddr rfl rfl)) ?_)))))))
  refine sr rfl rfl rfl ((q_loadS rfl rfl (fun w hw => Stb.cl (by assumption) hw) rfl)) ?_
  refine sr rfl rfl rfl ((q_len rfl (.cons rfl inferInstance (.nil)) (by exact fun w hw => Stb.cl (by assumption) hw))) ?_
  refine sr rfl rfl rfl ((q_move rfl rfl)) ?_
  refine sr rfl rfl rfl ((q_mul rfl rfl rfl (by intro hc; omega))) ?_
  rw [eTW]
  refine sw_x rfl rfl rfl (e_make (α := Int) (zero := 0) rfl rfl rfl rfl rfl (by omega) (by omega) (by decide)) (fun s19 => ?_)
  refine sr rfl rfl rfl ((q_assign rfl rfl)) (sw_nil (post_then (cw_seq (cw_region (sr rfl rfl rfl ((q_move rfl rfl)) (sr rfl rfl rfl ((q_nilCheck rfl rfl)) (sr rfl rfl rfl ((q_fieldAddr rfl rfl)) ?_)))))))
  refine sr rfl rfl rfl ((q_loadS rfl rfl (fun w hw => Stb.cl (by assumption) hw) rfl)) ?_
  refine sr rfl rfl rfl ((q_len rfl (.cons rfl inferInstance (.nil)) (by exact fun w hw => Stb.cl (by assumption) hw))) ?_
  refine sw_x rfl rfl rfl (e_make (α := SlV) (zero := ⟨none, 0, 0⟩) rfl rfl rfl rfl rfl (by omega) (by omega) (by decide)) (fun s25 => ?_)
  refine sr rfl rfl rfl ((q_assign rfl rfl)) (sw_nil (post_then (cw_seq (cw_seq (cw_region (sr rfl rfl rfl ((q_move rfl rfl)) ?_))))))
  refine sr rfl rfl rfl ((q_len rfl (.cons rfl inferInstance (.nil)) (by exact fun w hw => rd_own hw (by exact .head _)))) ?_
  refine sr rfl rfl rfl ((q_move rfl rfl)) (sw_nil (post_then (cw_block ?_)))
  refine cw_loop (S := Nat) (fun k => [(3, [], .int .i64 K.p.length), (4, [], s19.v), (5, [], s25.v), (27, [], .int .i64 K.tgt.length), (28, [], .int .i64 k)]) (fun k => Cl w [] [ownL 28 s25.v (rowsTo s19 K.p.length K.tgt.length k), ownL 3 s19.v (List.replicate (K.tgt.length * K.p.length) (0 : Int))]) (fun k => k ≤ K.tgt.length) (fun k => K.tgt.length - k) 0 (Nat.zero_le _) (Le.cons rfl (Le.cons rfl (Le.cons rfl (Le.cons' rfl (by simp) (Le.cons rfl Le.nil))))) (fun _ h => by rw [← rowsTo_zero]; exact h) ?_
  intro k hk
  have hrl := rowsTo_len s19 K.p.length K.tgt.length k
  refine cw_seq (cw_region (sr rfl rfl rfl ((q_lss rfl rfl rfl)) (sw_nil (post_then (cw_seq ?_)))))
  refine cw_cond rfl (fun h => ?_) (fun h => ?_)
  · skip
    have hk' : k < K.tgt.length := by simp only [decide_eq_true_eq] at h; omega
    obtain ⟨q1, q2, q3, q4⟩ := prod_bd hk' n2 n1
    have e1 : ((k : Int) * (K.p.length : Int)) = ((k * K.p.length : Nat) : Int) := by rw [Int.natCast_mul]
    have e2 : (((k : Int) + 1) * (K.p.length : Int)) = (((k + 1) * K.p.length : Nat) : Int) := by rw [Int.natCast_mul]; rfl
    refine cw_skip (post_then (cw_seq (cw_block (cw_seq (cw_region (sr rfl rfl rfl ((q_move rfl rfl)) (sr rfl rfl rfl ((q_assign rfl rfl)) (sw_nil (post_then (cw_region (sr rfl rfl rfl ((q_move rfl rfl)) (sr rfl rfl rfl ((q_move rfl rfl)) (sr rfl rfl rfl ((q_move rfl rfl)) (sr rfl rfl rfl ((q_move rfl rfl)) (sr rfl rfl rfl ((q_move rfl rfl)) ?_)))))))))))))))
    refine sr rfl rfl rfl ((q_mul rfl rfl rfl (by intro hc; omega))) ?_
    refine sr rfl rfl rfl ((q_move rfl rfl)) ?_
    refine sr rfl rfl rfl ((q_add rfl rfl rfl (by intro hc; omega))) ?_
    refine sr rfl rfl rfl ((q_move rfl rfl)) ?_
    refine sr rfl rfl rfl ((q_mul rfl rfl rfl (by intro hc; omega))) ?_
    refine sr rfl rfl rfl ((q_move rfl rfl)) ?_
    refine sr rfl rfl rfl ((q_add rfl rfl rfl (by intro hc; omega))) ?_
    refine sr rfl rfl rfl ((q_move rfl rfl)) ?_
    refine sr rfl rfl rfl ((q_mul rfl rfl rfl (by intro hc; omega))) ?_
    rw [e1, e2]
    refine sr rfl rfl rfl ((q_slice3 (l := List.replicate (K.tgt.length * K.p.length) (0 : Int)) rfl rfl rfl rfl rfl (by exact fun w hw => rd_own hw (by exact .tail _ (.head _))) (fun _ => ⟨by omega, by omega, by rw [List.length_replicate]; omega⟩))) ?_
    refine sr rfl rfl rfl ((q_indexN rfl rfl rfl (by exact fun w hw => rd_own hw (by exact .head _)) (by intro hc; omega))) ?_
    refine sw_eff0 rfl rfl (e_storeEl1 (i := 0) rfl rfl rfl rfl rfl (by omega)) ?_
    refine sw_nil (post_blk (post_then (cw_region ?_)))
    refine sr rfl rfl rfl ((q_add rfl rfl rfl (by intro hc; omega))) ?_
    refine sr rfl rfl rfl ((q_move rfl rfl)) (sw_nil ?_)
    refine post_next (k + 1) (by exact .cons rfl (.cons rfl (.cons rfl (.cons rfl (.cons rfl .nil))))) (fun w3 hw3 => ?_) (by omega) (by omega)
    rw [← rowsTo_succ _ _ _ _ hk']
    exact hw3
  · skip
    have hk' : k = K.tgt.length := by simp only [decide_eq_false_iff_not] at h; omega
    subst hk'
    refine cw_exit (post_then_x (post_then_x (post_blk_eq (post_then (cw_seq (cw_region (sr rfl rfl rfl ((q_move rfl rfl)) (sr rfl rfl rfl ((q_assign rfl rfl)) (sw_nil (post_then (cw_ret (post_ret1 rfl (resOk_tmp rfl) ?_))))))))))))
    exact fun w' hw => ⟨(s25, s19), rfl, trivial, hw⟩
end Go.Proofs.YtomjbfeafodfbaaGreat

set_option autoImplicit false
set_option maxRecDepth 100000
namespace Go.Proofs.YtomjbfeafodfbaaGreat
open Go.Sx
open Enc (enc val)
theorem rowsAll_nth (sc : SlV) (W T j : Nat) (hj : j < T) : nth (rowsTo sc W T T) j = sc.row 1 (j * W) ((j + 1) * W) := by rw [rowsTo_nth _ _ _ _ _ hj, if_pos hj]
theorem idx_one {j j' u u' W : Nat} (hu : u < W) (hu' : u' < W) (h : j * W + u = j' * W + u') : j = j' ∧ u = u' := by
  have h1 : (j * W + u) / W = j := by rw [Nat.add_comm, Nat.add_mul_div_right _ _ (by omega), Nat.div_eq_of_lt hu, Nat.zero_add]
  have h2 : (j' * W + u') / W = j' := by rw [Nat.add_comm, Nat.add_mul_div_right _ _ (by omega), Nat.div_eq_of_lt hu', Nat.zero_add]
  have : j = j' := by rw [← h1, h, h2]
  subst this
  exact ⟨rfl, by omega⟩
namespace TK
variable (K : TK)
theorem J_bd {K : TK} (hK : K.Ok) (u : Int) {v : Int} (hv : 0 ≤ v ∧ v < K.p.length) : 0 ≤ K.J u v ∧ K.J u v ≤ 800000000 := by
  by_cases hu : u.toNat < K.p.length
  · have h1 := hK.un (u := u.toNat) (by omega)
    simp only [Int.toNat_natCast] at h1
    exact joinC_bd (wt_ok hK.wt) h1.1 (hK.un hv).1
  · have e : nth K.p u.toNat = default := by simp [nth, List.getD, List.getElem?_eq_none (show K.p.length ≤ u.toNat by omega)]
    simp only [J, joinC, e]
    split
    · omega
    · have : dist (default : Un).el (nth K.p v.toNat).bl = 0 := rfl
      rw [this]; simp
theorem F_bd {K : TK} (hK : K.Ok) {i : Nat} (hi : i < K.tgt.length) {u : Int} (hu : 0 ≤ u ∧ u < K.p.length) : 0 ≤ K.F i u ∧ K.F i u ≤ 102002000 := fitC_bd (wt_ok hK.wt) (hK.un hu).1 (hK.tg hi)
theorem R_bd {K : TK} (hK : K.Ok) (hp : K.possB = true) : ∀ (k : Nat) (u : Int), k ≤ K.tgt.length → 1 ≤ k → 0 ≤ u → u < K.p.length → 0 ≤ K.t.R k u ∧ K.t.R k u ≤ 902002000 * k
  | 0, _, _, h, _, _ => by omega
  | k + 1, u, hk, _, h0, h1 => by
    have hf := F_bd hK (i := K.tgt.length - (k + 1)) (by omega) ⟨h0, h1⟩
    have e : K.t.R (k + 1) u = K.F (K.tgt.length - (k + 1)) u + (if k = 0 then 0 else minL ((K.U (K.tgt.length - k)).map fun v => K.J u v + K.t.R k v)) := rfl
    rw [e]
    by_cases hk0 : k = 0
    · rw [if_pos hk0]; omega
    · rw [if_neg hk0]
      have hne := TK.poss hp (i := K.tgt.length - k) (by omega)
      have hall : ∀ x ∈ (K.U (K.tgt.length - k)).map (fun v => K.J u v + K.t.R k v), 0 ≤ x ∧ x ≤ 800000000 + 902002000 * k := by
        intro x hx
        obtain ⟨v, hv, rfl⟩ := List.mem_map.1 hx
        have hv2 := K.U_mem hv
        have h2 := J_bd hK u hv2
        have h3 := R_bd hK hp k v (by omega) (by omega) hv2.1 hv2.2
        omega
      have hmem := minL_mem (l := (K.U (K.tgt.length - k)).map (fun v => K.J u v + K.t.R k v)) (by simpa using hne) (fun x hx => by have := hall x hx; have := hK.n2; omega)
      have := hall _ hmem
      omega
def Tab (cells : List Int) (n : Nat) : Prop := cells.length = K.tgt.length * K.p.length ∧ ∀ j u, j < K.tgt.length → u < K.p.length → nth cells (j * K.p.length + u) = if n ≤ j ∧ (u : Int) ∈ K.U j then K.t.R (K.tgt.length - j) u else 0
def TabK (cells : List Int) (i k : Nat) : Prop := cells.length = K.tgt.length * K.p.length ∧ ∀ j u, j < K.tgt.length → u < K.p.length → nth cells (j * K.p.length + u) = if (i < j ∧ (u : Int) ∈ K.U j) ∨ (j = i ∧ (u : Int) ∈ (K.U i).take k) then K.t.R (K.tgt.length - j) u else 0
theorem tab_begin {cells : List Int} {i : Nat} (h : K.Tab cells (i + 1)) : K.TabK cells i 0 := ⟨h.1, fun j u hj hu => by rw [h.2 j u hj hu]; simp only [List.take_zero, List.not_mem_nil, and_false, or_false]; rfl⟩
theorem tab_end {cells : List Int} {i : Nat} (h : K.TabK cells i (K.U i).length) : K.Tab cells i := ⟨h.1, fun j u hj hu => by
  rw [h.2 j u hj hu, List.take_length]
  by_cases e : j = i
  · subst e; simp
  · have : (i < j ↔ i ≤ j) := by omega
    simp [e, this]⟩
theorem tab_step {cells : List Int} {i k : Nat} (h : K.TabK cells i k) (hi : i < K.tgt.length) (hk : k < (K.U i).length) : K.TabK (cells.set (i * K.p.length + (nth (K.U i) k).toNat) (K.t.R (K.tgt.length - i) (nth (K.U i) k))) i (k + 1) := by
  have hv := K.U_mem (i := i) (u := nth (K.U i) k) (by rw [nth_get hk]; exact List.getElem_mem hk)
  have hT : (i + 1) * K.p.length ≤ K.tgt.length * K.p.length := Nat.mul_le_mul_right _ hi
  rw [Nat.add_mul, Nat.one_mul] at hT
  refine ⟨by rw [List.length_set, h.1], fun j u hj hu => ?_⟩
  rw [nth_setP _ _ _ _ (by rw [h.1]; omega)]
  by_cases e : j * K.p.length + u = i * K.p.length + (nth (K.U i) k).toNat
  · obtain ⟨rfl, e2⟩ := idx_one hu (by omega) e
    have e3 : (u : Int) = nth (K.U j) k := by omega
    rw [if_pos e, if_pos, e3]
    exact .inr ⟨rfl, by rw [e3, List.take_succ_eq_append_getElem hk, nth_get hk]; exact List.mem_append_right _ (List.mem_singleton.2 rfl)⟩
  · rw [if_neg e, h.2 j u hj hu]
    by_cases ej : j = i
    · subst ej
      have e4 : ¬ (u : Int) = nth (K.U j) k := fun e5 => e (by omega)
      have e6 : ((u : Int) ∈ (K.U j).take (k + 1)) ↔ (u : Int) ∈ (K.U j).take k := by
        rw [List.take_succ_eq_append_getElem hk, ← nth_get hk]; simp [e4]
      simp [e6]
    · simp [ej]
end TK
end Go.Proofs.YtomjbfeafodfbaaGreat

set_option autoImplicit false
set_option maxRecDepth 100000
namespace Go.Proofs.YtomjbfeafodfbaaGreat
open Go.Sx
open Enc (enc val)
theorem rest_spec (K : TK) (hK : K.Ok) (hp : K.possB = true) (m : List (P2 × Int)) (hm : K.MemoOk m) (w : World) (bs : List Nat) (hs : Sep [mpA K.bm m] w bs) (hn : bs.Nodup) (hlt : ∀ b ∈ bs, b < w.heap.size) (hR : Stb w bs K.Rd) :
    Calls Tryz.prog 66 #[.pointer (some ⟨K.bk, 0, none⟩)] w fun e w' => ∃ y : (SlV × SlV) × (List Int × List (P2 × Int)), e = .returned y.1.1.v ∧ (K.Tab y.2.1 0 ∧ K.MemoOk y.2.2) ∧ Cl w bs [mpA K.bm y.2.2, ownL 28 y.1.1.v (rowsTo y.1.2 K.p.length K.tgt.length K.tgt.length), ownL 3 y.1.2.v y.2.1] w' := by
  have hbk := stb_map hR fun _ h => h.bk
  have htp := stb_map hR fun _ h => h.tp
  have hus := stb_map hR fun _ h => h.us
  have hun := hR.here.un
  have n1 := hK.n1
  have n2 := hK.n2
  refine calls_cw (vs := [_]) Tryz.func66 rfl Tryz.ntmps66 rfl (Cl.start hs hn hlt) (cw_seq (cw_region (sr rfl rfl rfl ((q_assign rfl rfl)) (sw_nil (post_then (cw_seq (cw_region (sr rfl rfl rfl ((q_move rfl rfl)) ?_))))))))
  refine sw_x rfl rfl rfl (e_call (CanCall.mk Tryz.call107) rfl (.cons rfl inferInstance (.nil)) (fun w hw => table_spec K hK w (stb_arg hw hR))) (fun y8 => ?_)
  refine sw_imp fun _ => ?_
  obtain ⟨so, sc⟩ := y8
  dsimp only
  refine sr rfl rfl rfl ((q_assign rfl rfl)) (sw_nil (post_then (cw_seq (cw_seq (cw_region (sr rfl rfl rfl ((q_move rfl rfl)) (sr rfl rfl rfl ((q_nilCheck rfl rfl)) (sr rfl rfl rfl ((q_fieldAddr rfl rfl)) ?_))))))))
  refine sr rfl rfl rfl ((q_loadS rfl rfl (fun w hw => Stb.cl (by assumption) hw) rfl)) ?_
  refine sr rfl rfl rfl ((q_len rfl (.cons rfl inferInstance (.nil)) (by exact fun w hw => Stb.cl (by assumption) hw))) ?_
  refine sr rfl rfl rfl ((q_sub rfl rfl rfl (by intro hc; omega))) ?_
  refine sr rfl rfl rfl ((q_assign rfl rfl)) (sw_nil (post_then (cw_block ?_)))
  refine cw_loop (S := Nat × (List Int × List (P2 × Int))) (fun y => [(0, [], .pointer (some ⟨K.bk, 0, none⟩)), (3, [], so.v), (4, [], .int .i64 ((y.1 : Int) - 1))]) (fun y => Cl w bs [mpA K.bm y.2.2, ownL 28 so.v (rowsTo sc K.p.length K.tgt.length K.tgt.length), ownL 3 sc.v y.2.1]) (fun y => y.1 ≤ K.tgt.length ∧ K.Tab y.2.1 y.1 ∧ K.MemoOk y.2.2) (fun y => y.1) (K.tgt.length, (List.replicate (K.tgt.length * K.p.length) 0, m)) ⟨Nat.le_refl _, ⟨by simp, fun j u hj hu => ?_⟩, hm⟩ (by exact .cons rfl (.cons rfl (.cons rfl .nil))) (fun _ h => (fun w h => Cl.sel (by exact .take 2 rfl (.take 0 rfl (.take 0 rfl (.nil _)))) w h) _ h) ?_
  · have h1 : j * K.p.length + K.p.length ≤ K.tgt.length * K.p.length := by rw [← Nat.succ_mul]; exact Nat.mul_le_mul_right _ hj
    rw [if_neg (by simp only; omega), nth_get (by rw [List.length_replicate]; omega), List.getElem_replicate]
  rintro ⟨n, ⟨cells, m1⟩⟩ ⟨hn1, htab, hm1⟩
  dsimp only at hn1 htab hm1 ⊢
  refine cw_seq (cw_seq (cw_region (sr rfl rfl rfl ((q_move rfl rfl)) (sr rfl rfl rfl ((q_geq rfl rfl rfl)) (sw_nil (post_then ?_))))))
  refine cw_cond rfl (fun h => ?_) (fun h => ?_)
  · skip
    obtain ⟨i, rfl⟩ : ∃ i, n = i + 1 := ⟨n - 1, by simp only [decide_eq_true_eq] at h; omega⟩
    have e0 : (((i + 1 : Nat) : Int) - 1) = (i : Int) := by omega
    rw [e0]
    have hi : i < K.tgt.length := by omega
    have huu := stb_map hR fun _ h => h.uu i hi
    have hUL := rd_len huu.here
    obtain ⟨q1, q2, q3, q4⟩ := prod_bd hi n2 n1
    have hrow := rowsAll_nth sc K.p.length K.tgt.length i hi
    have hrl := rowsTo_len sc K.p.length K.tgt.length K.tgt.length
    refine cw_skip (post_then (cw_seq (cw_block (cw_seq (cw_region (sr rfl rfl rfl ((q_move rfl rfl)) (sr rfl rfl rfl ((q_nilCheck rfl rfl)) (sr rfl rfl rfl ((q_fieldAddr rfl rfl)) ?_))))))))
    refine sr rfl rfl rfl ((q_loadS rfl rfl (fun w hw => Stb.cl (by assumption) hw) rfl)) ?_
    refine sr rfl rfl rfl ((q_move rfl rfl)) ?_
    refine sr rfl rfl rfl ((q_indexN rfl rfl rfl (by exact fun w hw => Stb.cl (by assumption) hw) (by intro hc; omega))) ?_
    refine sr rfl rfl rfl ((q_loadEl rfl rfl rfl (by exact fun w hw => Stb.cl (by assumption) hw) (by intro hc; omega))) ?_
    refine sr rfl rfl rfl ((q_len rfl (.cons rfl inferInstance (.nil)) (by exact fun w hw => Stb.cl (by assumption) hw))) ?_
    refine sr rfl rfl rfl ((q_move rfl rfl)) (sw_nil (post_then (cw_block ?_)))
    refine cw_loop (S := Nat × (List Int × List (P2 × Int))) (fun y => [(0, [], .pointer (some ⟨K.bk, 0, none⟩)), (3, [], so.v), (4, [], .int .i64 i), (25, [], (nth K.usv i).v), (26, [], .int .i64 (K.U i).length), (27, [], .int .i64 y.1)]) (fun y => Cl w bs [mpA K.bm y.2.2, ownL 28 so.v (rowsTo sc K.p.length K.tgt.length K.tgt.length), ownL 3 sc.v y.2.1]) (fun y => y.1 ≤ (K.U i).length ∧ K.TabK y.2.1 i y.1 ∧ K.MemoOk y.2.2) (fun y => (K.U i).length - y.1) (0, (cells, m1)) ⟨Nat.zero_le _, K.tab_begin htab, hm1⟩ (by exact .cons rfl (.cons rfl (.cons rfl (.cons rfl (.cons rfl (.cons rfl .nil)))))) (fun _ h => h) ?_
    rintro ⟨k, ⟨cs1, m2⟩⟩ ⟨hk, htk, hm2⟩
    dsimp only at hk htk hm2 ⊢
    refine cw_seq (cw_region (sr rfl rfl rfl ((q_lss rfl rfl rfl)) (sw_nil (post_then (cw_seq ?_)))))
    refine cw_cond rfl (fun h2 => ?_) (fun h2 => ?_)
    · skip
      have hk' : k < (K.U i).length := by simp only [decide_eq_true_eq] at h2; omega
      have hu := K.U_mem (i := i) (u := nth (K.U i) k) (by rw [nth_get hk']; exact List.getElem_mem hk')
      have hcl := htk.1
      have hstep := K.tab_step htk hi hk'
      have hF := TK.F_bd hK hi hu
      obtain ⟨u, hue⟩ : ∃ u, nth (K.U i) k = u := ⟨_, rfl⟩
      rw [hue] at hu hstep hF
      refine cw_skip (post_then (cw_seq (cw_block (cw_seq (cw_region ?_)))))
      refine sr rfl rfl rfl ((q_indexN rfl rfl rfl (by exact fun w hw => Stb.cl (by assumption) hw) (by intro hc; omega))) ?_
      refine sr rfl rfl rfl ((q_loadEl rfl rfl rfl (by exact fun w hw => Stb.cl (by assumption) hw) (by intro hc; omega))) ?_
      refine sr rfl rfl rfl ((q_assign rfl rfl)) (sw_nil (post_then (cw_seq (cw_region_a (Cl w bs [ownL 28 so.v (rowsTo sc K.p.length K.tgt.length K.tgt.length), ownL 3 sc.v cs1]) [13] mixed_Tryz ?_))))
      refine aw_pure 0 rfl (by kernel_rfl) (by kernel_rfl) (by kernel_rfl) (by kernel_rfl) (by kernel_rfl) rfl rfl rfl (q_move rfl rfl) ?_
      refine aw_pure 1 rfl (by kernel_rfl) (by kernel_rfl) (by kernel_rfl) (by kernel_rfl) (by kernel_rfl) rfl rfl rfl (q_move rfl rfl) ?_
      refine aw_take 2 (fun w h => Cl.sel (by exact .take 1 rfl (.take 1 rfl (.nil _))) w h) rfl (by kernel_rfl) (by kernel_rfl) (by kernel_rfl) (by kernel_rfl) (by kernel_rfl) (by kernel_rfl) rfl rfl rfl (q_indexN rfl rfl rfl (by exact fun w hw => rd_own hw (by exact .head _)) (by intro hc; omega)) ?_
      refine aw_take 3 (fun w h => Cl.sel (by exact .take 1 rfl (.take 1 rfl (.nil _))) w h) rfl (by kernel_rfl) (by kernel_rfl) (by kernel_rfl) (by kernel_rfl) (by kernel_rfl) (by kernel_rfl) rfl rfl rfl (q_loadEl rfl rfl rfl (by exact fun w hw => rd_own hw (by exact .head _)) (by intro hc; omega)) ?_
      refine aw_pure 4 rfl (by kernel_rfl) (by kernel_rfl) (by kernel_rfl) (by kernel_rfl) (by kernel_rfl) rfl rfl rfl (q_move rfl rfl) ?_
      refine aw_pure 5 rfl (by kernel_rfl) (by kernel_rfl) (by kernel_rfl) (by kernel_rfl) (by kernel_rfl) rfl rfl rfl (q_move rfl rfl) ?_
      refine aw_pure 6 rfl (by kernel_rfl) (by kernel_rfl) (by kernel_rfl) (by kernel_rfl) (by kernel_rfl) rfl rfl rfl (q_nilCheck rfl rfl) ?_
      refine aw_take 7 (fun w h => Cl.sel (by exact .take 1 rfl (.take 1 rfl (.nil _))) w h) rfl (by kernel_rfl) (by kernel_rfl) (by kernel_rfl) (by kernel_rfl) (by kernel_rfl) (by kernel_rfl) rfl rfl rfl (q_fieldAddr rfl rfl) ?_
      refine aw_take 8 (fun w h => Cl.sel (by exact .take 1 rfl (.take 1 rfl (.nil _))) w h) rfl (by kernel_rfl) (by kernel_rfl) (by kernel_rfl) (by kernel_rfl) (by kernel_rfl) (by kernel_rfl) rfl rfl rfl (q_loadS rfl rfl (fun w hw => Stb.cl (by assumption) hw) rfl) ?_
      refine aw_pure 9 rfl (by kernel_rfl) (by kernel_rfl) (by kernel_rfl) (by kernel_rfl) (by kernel_rfl) rfl rfl rfl (q_move rfl rfl) ?_
      refine aw_pure 10 rfl (by kernel_rfl) (by kernel_rfl) (by kernel_rfl) (by kernel_rfl) (by kernel_rfl) rfl rfl rfl (q_move rfl rfl) ?_
      rw [hrow, show val (nth (K.U i) k) = Value.int .i64 u by rw [hue]; rfl]
      refine aw_x 11 (by kernel_rfl) rfl rfl rfl rfl (e_callH (A := [mpA K.bm m2]) (F := [ownL 28 so.v (rowsTo sc K.p.length K.tgt.length K.tgt.length), ownL 3 sc.v cs1]) (CanCall.mk Tryz.call105) rfl rfl (.cons rfl inferInstance (.cons rfl inferInstance (.nil))) (.refl _) (fun w bs k1 k2 k3 k4 k5 => cost_spec K hK i hi u hu m2 hm2 w bs k1 k2 k3 (k4 _ hR))) (by intro hb; exact fun _ w h => (fun w h => Cl.sel (by exact .take 1 rfl (.take 1 rfl (.nil _))) w h) w h.2) (fun m3 => ?_)
      refine aw_imp fun hm3 => ?_
      refine aw_take 12 (fun w h => Cl.sel (by exact .take 1 rfl (.take 1 rfl (.nil _))) w h) rfl (by kernel_rfl) (by kernel_rfl) (by kernel_rfl) (by kernel_rfl) (by kernel_rfl) (by kernel_rfl) rfl rfl rfl (q_indexRow rfl rfl rfl (fun w h => rd_own (e := 3) h (by exact .tail _ (.head _))) rfl (fun _ => by omega)) ?_
      refine aw_one0 13 (by kernel_rfl) rfl rfl rfl (e_storeEl1 (i := 2) rfl rfl rfl rfl rfl (by omega)) (by intro hb; (exact absurd hb (by decide))) ?_
      refine aw_end (by kernel_rfl) ?_
      refine post_then (cw_seq (cw_region (sr rfl rfl rfl ((q_move rfl rfl)) ?_)))
      refine sr rfl rfl rfl ((q_add rfl rfl rfl (by intro hc; omega))) ?_
      refine sr rfl rfl rfl ((q_move rfl rfl)) (sr rfl rfl rfl ((q_nilCheck rfl rfl)) (sr rfl rfl rfl ((q_fieldAddr rfl rfl)) ?_))
      refine sr rfl rfl rfl ((q_loadS rfl rfl (fun w hw => Stb.cl (by assumption) hw) rfl)) ?_
      refine sr rfl rfl rfl ((q_len rfl (.cons rfl inferInstance (.nil)) (by exact fun w hw => Stb.cl (by assumption) hw))) ?_
      refine sr rfl rfl rfl ((q_lss rfl rfl rfl)) (sw_nil (post_then ?_))
      have hidx : i * K.p.length + u.toNat < cs1.length := by omega
      have hcl2 : (cs1.set (i * K.p.length + u.toNat) (K.F i u)).length = K.tgt.length * K.p.length := by rw [List.length_set, hcl]
      refine cw_cond rfl (fun h3 => ?_) (fun h3 => ?_)
      · skip
        have hi1 : i + 1 < K.tgt.length := by simp only [decide_eq_true_eq] at h3; omega
        obtain ⟨r1, r2, r3, r4⟩ := prod_bd hi1 n2 n1
        have hrow1 : nth (rowsTo sc K.p.length K.tgt.length K.tgt.length) ((i : Int) + 1).toNat = sc.row 1 ((i + 1) * K.p.length) ((i + 1 + 1) * K.p.length) := rowsAll_nth sc K.p.length K.tgt.length (i + 1) hi1
        have hcs2 : nth (cs1.set (i * K.p.length + u.toNat) (K.F i u)) (i * K.p.length + u.toNat) = K.F i u := by rw [nth_setP _ _ _ _ hidx, if_pos rfl]
        have hR1 := TK.R_bd hK hp (K.tgt.length - i) u (by omega) (by omega) hu.1 hu.2
        have hRe : K.t.R (K.tgt.length - i) u = K.F i u + minL ((K.U (i + 1)).map fun v => K.J u v + K.t.R (K.tgt.length - (i + 1)) v) := by
          obtain ⟨q, hq⟩ : ∃ q, K.tgt.length - i = q + 1 := ⟨K.tgt.length - i - 1, by omega⟩
          have e : K.t.R (q + 1) u = K.F (K.tgt.length - (q + 1)) u + (if q = 0 then 0 else minL ((K.U (K.tgt.length - q)).map fun v => K.J u v + K.t.R q v)) := rfl
          rw [hq, e, if_neg (by omega), show K.tgt.length - (q + 1) = i by omega, show K.tgt.length - q = i + 1 by omega, show K.tgt.length - (i + 1) = q by omega]
        obtain ⟨row, hrw⟩ : ∃ row, ((cs1.set (i * K.p.length + u.toNat) (K.F i u)).take ((i + 1 + 1) * K.p.length)).drop ((i + 1) * K.p.length) = row := ⟨_, rfl⟩
        have hrwl : row.length = K.p.length := by rw [← hrw]; simp; omega
        have hrwn : ∀ v ∈ K.U (i + 1), nth row v.toNat = K.t.R (K.tgt.length - (i + 1)) v := by
          intro v hv
          have hv2 := K.U_mem hv
          have e1 : nth row v.toNat = nth (cs1.set (i * K.p.length + u.toNat) (K.F i u)) ((i + 1) * K.p.length + v.toNat) := by
            rw [nth_get (by omega), nth_get (by omega)]
            subst hrw
            simp
          rw [e1, nth_setP _ _ _ _ hidx, if_neg (by omega), htk.2 (i + 1) v.toNat hi1 (by omega), if_pos]
          · rw [show ((v.toNat : Nat) : Int) = v by omega]
          · exact .inl ⟨by omega, by rw [show ((v.toNat : Nat) : Int) = v by omega]; exact hv⟩
        have hmin : minL ((K.U (i + 1)).map fun v => K.J u v + nth row v.toNat) = K.t.R (K.tgt.length - i) u - K.F i u := by
          rw [hRe]
          have : (K.U (i + 1)).map (fun v => K.J u v + nth row v.toNat) = (K.U (i + 1)).map fun v => K.J u v + K.t.R (K.tgt.length - (i + 1)) v := List.map_congr_left fun v hv => by rw [hrwn v hv]
          rw [this]; omega
        have hlow : ∀ v ∈ K.U (i + 1), -4611686018427387904 ≤ nth row v.toNat := fun v hv => by
          have hv2 := K.U_mem hv
          have := TK.R_bd hK hp (K.tgt.length - (i + 1)) v (by omega) (by omega) hv2.1 hv2.2
          rw [hrwn v hv]; omega
        refine cw_region_a (Cl w bs [ownL 28 so.v (rowsTo sc K.p.length K.tgt.length K.tgt.length), ownL 3 sc.v (cs1.set (i * K.p.length + u.toNat) (K.F i u))]) [19] mixed_Tryz ?_
        refine aw_pure 0 rfl (by kernel_rfl) (by kernel_rfl) (by kernel_rfl) (by kernel_rfl) (by kernel_rfl) rfl rfl rfl (q_move rfl rfl) ?_
        refine aw_pure 1 rfl (by kernel_rfl) (by kernel_rfl) (by kernel_rfl) (by kernel_rfl) (by kernel_rfl) rfl rfl rfl (q_move rfl rfl) ?_
        refine aw_take 2 (fun w h => Cl.sel (by exact .take 1 rfl (.take 1 rfl (.nil _))) w h) rfl (by kernel_rfl) (by kernel_rfl) (by kernel_rfl) (by kernel_rfl) (by kernel_rfl) (by kernel_rfl) rfl rfl rfl (q_indexN rfl rfl rfl (by exact fun w hw => rd_own hw (by exact .head _)) (by intro hc; omega)) ?_
        refine aw_take 3 (fun w h => Cl.sel (by exact .take 1 rfl (.take 1 rfl (.nil _))) w h) rfl (by kernel_rfl) (by kernel_rfl) (by kernel_rfl) (by kernel_rfl) (by kernel_rfl) (by kernel_rfl) rfl rfl rfl (q_loadElY hrow rfl rfl rfl (by exact fun w hw => rd_own hw (by exact .head _)) (by intro hc; omega)) ?_
        refine aw_pure 4 rfl (by kernel_rfl) (by kernel_rfl) (by kernel_rfl) (by kernel_rfl) (by kernel_rfl) rfl rfl rfl (q_move rfl rfl) ?_
        refine aw_take 5 (fun w h => Cl.sel (by exact .take 1 rfl (.take 1 rfl (.nil _))) w h) rfl (by kernel_rfl) (by kernel_rfl) (by kernel_rfl) (by kernel_rfl) (by kernel_rfl) (by kernel_rfl) rfl rfl rfl (q_indexRow rfl rfl rfl (fun w h => rd_own (e := 3) h (by exact .tail _ (.head _))) rfl (fun _ => by omega)) ?_
        refine aw_take 6 (fun w h => Cl.sel (by exact .take 1 rfl (.take 1 rfl (.nil _))) w h) rfl (by kernel_rfl) (by kernel_rfl) (by kernel_rfl) (by kernel_rfl) (by kernel_rfl) (by kernel_rfl) rfl rfl rfl (q_loadElY hcs2 rfl rfl rfl (fun w h => rd_own (e := 3) h (by exact .tail _ (.head _))) (fun _ => by omega)) ?_
        refine aw_pure 7 rfl (by kernel_rfl) (by kernel_rfl) (by kernel_rfl) (by kernel_rfl) (by kernel_rfl) rfl rfl rfl (q_move rfl rfl) ?_
        refine aw_pure 8 rfl (by kernel_rfl) (by kernel_rfl) (by kernel_rfl) (by kernel_rfl) (by kernel_rfl) rfl rfl rfl (q_move rfl rfl) ?_
        refine aw_pure 9 rfl (by kernel_rfl) (by kernel_rfl) (by kernel_rfl) (by kernel_rfl) (by kernel_rfl) rfl rfl rfl (q_move rfl rfl) ?_
        refine aw_pure 10 rfl (by kernel_rfl) (by kernel_rfl) (by kernel_rfl) (by kernel_rfl) (by kernel_rfl) rfl rfl rfl (q_add rfl rfl rfl (by intro hc; omega)) ?_
        refine aw_take 11 (fun w h => Cl.sel (by exact .take 1 rfl (.take 1 rfl (.nil _))) w h) rfl (by kernel_rfl) (by kernel_rfl) (by kernel_rfl) (by kernel_rfl) (by kernel_rfl) (by kernel_rfl) rfl rfl rfl (q_index rfl rfl rfl (by exact fun w hw => rd_own hw (by exact .head _)) (by intro hc; omega)) ?_
        refine aw_take 12 (fun w h => Cl.sel (by exact .take 1 rfl (.take 1 rfl (.nil _))) w h) rfl (by kernel_rfl) (by kernel_rfl) (by kernel_rfl) (by kernel_rfl) (by kernel_rfl) (by kernel_rfl) rfl rfl rfl (q_loadElY hrow1 rfl rfl rfl (by exact fun w hw => rd_own hw (by exact .head _)) (by intro hc; omega)) ?_
        refine aw_pure 13 rfl (by kernel_rfl) (by kernel_rfl) (by kernel_rfl) (by kernel_rfl) (by kernel_rfl) rfl rfl rfl (q_move rfl rfl) ?_
        refine aw_pure 14 rfl (by kernel_rfl) (by kernel_rfl) (by kernel_rfl) (by kernel_rfl) (by kernel_rfl) rfl rfl rfl (q_add rfl rfl rfl (by intro hc; omega)) ?_
        refine aw_pure 15 rfl (by kernel_rfl) (by kernel_rfl) (by kernel_rfl) (by kernel_rfl) (by kernel_rfl) rfl rfl rfl (q_move rfl rfl) ?_
        refine aw_q 16 (by kernel_rfl) rfl rfl rfl rfl (q_call (v := .int .i64 (K.t.R (K.tgt.length - i) u - K.F i u)) (CanCall.mk Tryz.call98) rfl (.cons rfl inferInstance (.cons rfl inferInstance (.cons rfl inferInstance (.cons rfl inferInstance (.nil))))) (fun _ w hw => callq hw (by rw [← hmin]; exact next_spec K hK _ row (i + 1) hi1 u hu hrwl hlow w (by have := stb_row (a := (i + 1) * K.p.length) (b := (i + 1 + 1) * K.p.length) (stb_own (e := 3) hw (by exact .tail _ (.tail _ (.head _)))) (by omega) (by omega); rw [hrw] at this; exact this) (stb_arg hw hR)))) (by intro hb; exact (fun w h => Cl.sel (by exact .take 1 rfl (.take 1 rfl (.nil _))) w h)) ?_
        refine aw_pure 17 rfl (by kernel_rfl) (by kernel_rfl) (by kernel_rfl) (by kernel_rfl) (by kernel_rfl) rfl rfl rfl (q_add rfl rfl rfl (by intro hc; omega)) ?_
        refine aw_take 18 (fun w h => Cl.sel (by exact .take 1 rfl (.take 1 rfl (.nil _))) w h) rfl (by kernel_rfl) (by kernel_rfl) (by kernel_rfl) (by kernel_rfl) (by kernel_rfl) (by kernel_rfl) rfl rfl rfl (q_indexRow rfl rfl rfl (fun w h => rd_own (e := 3) h (by exact .tail _ (.head _))) rfl (fun _ => by omega)) ?_
        refine aw_one0 19 (by kernel_rfl) rfl rfl rfl (e_storeEl1 (i := 2) rfl rfl rfl rfl rfl (by omega)) (by intro hb; (exact absurd hb (by decide))) ?_
        refine aw_end (by kernel_rfl) ?_
        refine post_blk (post_then (cw_region ?_))
        refine sr rfl rfl rfl ((q_add rfl rfl rfl (by intro hc; omega))) ?_
        refine sr rfl rfl rfl ((q_move rfl rfl)) (sw_nil ?_)
        refine post_next (k + 1, ((cs1.set (i * K.p.length + u.toNat) (K.F i u)).set (i * K.p.length + u.toNat) (K.t.R (K.tgt.length - i) u), m3)) (by exact .cons rfl (.cons rfl (.cons rfl (.cons rfl (.cons rfl (.cons rfl .nil)))))) (fun w3 hw3 => ?_) ⟨by simp only; omega, by simp only [List.set_set]; exact hstep, hm3⟩ (by simp only; omega)
        rw [show K.F i u + (K.t.R (K.tgt.length - i) u - K.F i u) = K.t.R (K.tgt.length - i) u by omega] at hw3
        exact hw3
      · skip
        have hi1 : K.tgt.length - i = 1 := by simp only [decide_eq_false_iff_not] at h3; omega
        have hRe : K.t.R (K.tgt.length - i) u = K.F i u := by
          rw [hi1]
          have e : K.t.R 1 u = K.F (K.tgt.length - 1) u + 0 := rfl
          rw [e, show K.tgt.length - 1 = i by omega]; omega
        rw [hRe] at hstep
        refine cw_skip (post_blk (post_then (cw_region ?_)))
        refine sr rfl rfl rfl ((q_add rfl rfl rfl (by intro hc; omega))) ?_
        refine sr rfl rfl rfl ((q_move rfl rfl)) (sw_nil ?_)
        exact post_next (k + 1, (cs1.set (i * K.p.length + u.toNat) (K.F i u), m3)) (by exact .cons rfl (.cons rfl (.cons rfl (.cons rfl (.cons rfl (.cons rfl .nil)))))) (fun _ h => h) ⟨by simp only; omega, hstep, hm3⟩ (by simp only; omega)
    · skip
      have hk' : k = (K.U i).length := by simp only [decide_eq_false_iff_not] at h2; omega
      subst hk'
      refine cw_exit (post_then_x (post_then_x (post_blk_eq (post_blk (post_then (cw_region (sr rfl rfl rfl ((q_move rfl rfl)) ?_)))))))
      refine sr rfl rfl rfl ((q_sub rfl rfl rfl (by intro hc; omega))) ?_
      refine sr rfl rfl rfl ((q_assign rfl rfl)) (sw_nil ?_)
      exact post_next (i, (cs1, m2)) (by exact .cons rfl (.cons rfl (.cons rfl .nil))) (fun _ h => h) ⟨by simp only; omega, K.tab_end htk, hm2⟩ (by simp only; omega)
  · skip
    have hn0 : n = 0 := by simp only [decide_eq_false_iff_not] at h; omega
    subst hn0
    refine cw_exit (post_then_x (post_then_x (post_blk_eq (post_then (cw_seq (cw_region (sr rfl rfl rfl ((q_move rfl rfl)) (sr rfl rfl rfl ((q_assign rfl rfl)) (sw_nil (post_then (cw_ret (post_ret1 rfl (resOk_tmp rfl) ?_))))))))))))
    exact fun w' hw => ⟨((so, sc), (cells, m1)), rfl, ⟨htab, hm1⟩, hw⟩
end Go.Proofs.YtomjbfeafodfbaaGreat

set_option autoImplicit false
set_option maxRecDepth 100000
namespace Go.Proofs.YtomjbfeafodfbaaGreat
open Go.Sx
open Enc (enc val)
abbrev Node := Nat × (Option Addr × Int)
def nodeA (e : Node) : Asn := blk e.1 [.pointer e.2.1, .int .i64 e.2.2] 152
def chN (N : List Node) : List Int → Option Addr → Prop
  | [], p => p = none
  | u :: r, p => ∃ b q, p = some ⟨b, 0, none⟩ ∧ (b, (q, u)) ∈ N ∧ chN N r q
theorem chN_mono {N N' : List Node} (h : ∀ e ∈ N, e ∈ N') : ∀ {r : List Int} {p : Option Addr}, chN N r p → chN N' r p
  | [], _, hc => hc
  | u :: r, p, ⟨b, q, h1, h2, h3⟩ => ⟨b, q, h1, h _ h2, chN_mono h h3⟩
theorem chN_stb {N : List Node} {w : World} {bs : List Nat} (hN : ∀ e ∈ N, Stb w bs (BlkAt e.1 [.pointer e.2.1, .int .i64 e.2.2] 152)) : ∀ {r : List Int} {p : Option Addr}, chN N r p → Stb w bs (chR r p)
  | [], _, hc => ⟨fun _ _ => hc⟩
  | u :: r, p, ⟨b, q, h1, h2, h3⟩ => ⟨fun w' k => ⟨b, q, h1, (hN _ h2).stb w' k, (chN_stb hN h3).stb w' k⟩⟩
def ItN (N : List Node) (l : List Itm) : Prop := ∀ x ∈ l, chN N x.units.reverse x.ptr
theorem itN_ch {N : List Node} {w : World} {bs : List Nat} (hN : ∀ e ∈ N, Stb w bs (BlkAt e.1 [.pointer e.2.1, .int .i64 e.2.2] 152)) {l : List Itm} (h : ItN N l) (hl : ∀ x ∈ l, x.units.length ≤ 1000000) : ChOk w bs l := fun x hx => ⟨chN_stb hN (h x hx), hl x hx⟩
theorem lend_nodes {N : List Node} {F : List Asn} {w : World} {bs : List Nat} (h : ∀ G ∈ F, ∃ b2, Stb w bs fun w' => G.holds w' b2) (hs : ∀ e ∈ N, nodeA e ∈ F) : ∀ e ∈ N, Stb w bs (BlkAt e.1 [.pointer e.2.1, .int .i64 e.2.2] 152) := fun e he => lend_blk h (hs e he)
theorem nodup_flatMap {α β : Type} {f : α → List β} : ∀ {l : List α}, l.Nodup → (∀ a ∈ l, (f a).Nodup) → (∀ a ∈ l, ∀ b ∈ l, a ≠ b → ∀ x ∈ f a, x ∉ f b) → (l.flatMap f).Nodup
  | [], _, _, _ => by simp
  | a :: l, h1, h2, h3 => by
    rw [List.flatMap_cons, List.nodup_append]
    rw [List.nodup_cons] at h1
    refine ⟨h2 a (by simp), nodup_flatMap h1.2 (fun b hb => h2 b (by simp [hb])) (fun b hb c hc => h3 b (by simp [hb]) c (by simp [hc])), fun x hx y hy hxy => ?_⟩
    subst hxy
    obtain ⟨b, hb, hxb⟩ := List.mem_flatMap.1 hy
    exact h3 a (by simp) b (by simp [hb]) (fun e => h1.1 (e ▸ hb)) x hx hxb
theorem tl_nodup {t : Tsk} (h : ∀ i, (t.us i).Nodup) : ∀ k, (t.tl k).Nodup
  | 0 => by simp [Tsk.tl]
  | k + 1 => by
    rw [Tsk.tl]
    refine nodup_flatMap (h _) (fun a _ => ?_) (fun a _ b _ hab x hx hxb => ?_)
    · exact List.Pairwise.map _ (fun x y hxy e => hxy (by injection e)) (tl_nodup h k)
    · obtain ⟨s, _, rfl⟩ := List.mem_map.1 hx
      obtain ⟨s', _, e⟩ := List.mem_map.1 hxb
      injection e with e1
      exact hab e1.symm
theorem idxs_nodup (p : List Un) (k : Nat) (ph : ByteArray) : (idxs p k ph).Nodup := by
  unfold idxs
  have h : ((List.range k).filter fun i => decide ((nth p i).phone = ph)).Nodup := List.Pairwise.filter _ List.nodup_range
  exact List.Pairwise.map (S := fun a b : Int => a ≠ b) _ (fun a b (hab : a ≠ b) e => hab (by omega)) h
theorem perm_put {α : Type} {S : α} {P X Y : List α} : (S :: (P ++ (X ++ Y))).Perm (P ++ ((X ++ [S]) ++ Y)) := by
  have e : P ++ ((X ++ [S]) ++ Y) = (P ++ X) ++ (S :: Y) := by simp
  rw [e, ← List.append_assoc]
  exact List.perm_middle.symm
theorem perm_end {α : Type} {S : α} {P X Y : List α} : (S :: (P ++ (X ++ Y))).Perm (P ++ (X ++ (Y ++ [S]))) := by
  have e : P ++ (X ++ (Y ++ [S])) = (P ++ (X ++ Y)) ++ [S] := by simp
  rw [e]
  exact (List.perm_append_singleton _ _).symm
theorem perm_five {α : Type} {M B C Q O : α} : [M, B, C, Q, O].Perm [C, Q, B, M, O] :=
  (List.perm_middle (l₁ := [M, B]) (a := C) (l₂ := [Q, O])).trans (.cons C ((List.perm_middle (l₁ := [M, B]) (a := Q) (l₂ := [O])).trans (.cons Q (.swap B M [O]))))
theorem perm_two {α : Type} {S M B C Q O : α} {X Y : List α} : (S :: M :: B :: C :: Q :: O :: (X ++ Y)).Perm (C :: Q :: B :: M :: O :: (X ++ (Y ++ [S]))) :=
  (perm_end (S := S) (P := [M, B, C, Q, O]) (X := X) (Y := Y)).trans (perm_five.append_right (X ++ (Y ++ [S])))
theorem perm_one {α : Type} {S M B C Q O : α} {X Y : List α} : (M :: S :: B :: C :: Q :: O :: (X ++ Y)).Perm (C :: Q :: B :: M :: O :: (X ++ (Y ++ [S]))) := (List.Perm.swap S M _).trans perm_two
def sqA (q : Sq) : Asn := ownL 3 q.us.v q.ul
def keyS (q : Sq) : List Int × Int := (q.ul, q.cost)
theorem cl_drop {w0 w : World} {fp : List Nat} {F : List Asn} : ∀ {G : List Asn}, Cl w0 fp (F ++ G) w → Cl w0 fp F w
  | [], h => by simpa using h
  | X :: G, h => cl_drop (h.perm (List.perm_middle (l₁ := F) (l₂ := G) (a := X))).tail
theorem nodes_mem {N : List Node} {x e : Node} (he : e ∈ N ++ [x]) : nodeA e ∈ N.map nodeA ++ [nodeA x] := by
  have : N.map nodeA ++ [nodeA x] = (N ++ [x]).map nodeA := by simp
  rw [this]; exact List.mem_map_of_mem he
theorem kid_mem {t : Tsk} {x : Itm} {us : List Int} {ps : List (Option Addr)} {y : Itm} (hy : y ∈ List.zipWith (t.kid x) us ps) : ∃ u ∈ us, ∃ p, y = t.kid x u p := by
  rw [← List.map_uncurry_zip_eq_zipWith] at hy
  obtain ⟨⟨u, p⟩, hz, rfl⟩ := List.mem_map.1 hy
  exact ⟨u, (List.of_mem_zip hz).1, p, rfl⟩
theorem zip_snoc {t : Tsk} {x : Itm} {us : List Int} {ps : List (Option Addr)} {u : Int} {p : Option Addr} (h : us.length = ps.length) : List.zipWith (t.kid x) (us ++ [u]) (ps ++ [p]) = List.zipWith (t.kid x) us ps ++ [t.kid x u p] := by
  rw [List.zipWith_append h]; rfl
namespace TK
theorem tc_bd {K : TK} (hK : K.Ok) : ∀ (s : List Int) (i : Nat), i + s.length ≤ K.tgt.length → (∀ k, k < s.length → nth s k ∈ K.U (i + k)) → 0 ≤ K.t.tc i s ∧ K.t.tc i s ≤ 902002000 * s.length
  | [], i, _, _ => by simp [Tsk.tc]
  | [u], i, hi, h => by
    have h1 := TK.F_bd hK (i := i) (by simp at hi; omega) (K.U_mem (by simpa using h 0 (by simp)))
    simp only [Tsk.tc, List.length_singleton]
    have e : K.t.F i u = K.F i u := rfl
    rw [e]
    have e2 : nth [u] 0 = u := rfl
    rw [e2] at h1; omega
  | u :: v :: s, i, hi, h => by
    have h1 := TK.F_bd hK (i := i) (by simp at hi; omega) (K.U_mem (by simpa using h 0 (by simp)))
    have hv := K.U_mem (h 1 (by simp))
    have h2 := TK.J_bd hK u hv
    have h3 := tc_bd hK (v :: s) (i + 1) (by simp at hi ⊢; omega) (fun k hk => by
      have := h (k + 1) (by simpa using hk)
      rw [show i + 1 + k = i + (k + 1) by omega]; exact this)
    have e2 : nth (u :: v :: s) 0 = u := rfl
    have e3 : nth (u :: v :: s) 1 = v := rfl
    rw [e2] at h1
    rw [e3] at h2
    simp only [Tsk.tc]
    have e : K.t.F i u = K.F i u := rfl
    have e4 : K.t.J u v = K.J u v := rfl
    rw [e, e4]
    simp only [List.length_cons] at h3 ⊢
    omega
theorem ok_bd {K : TK} (hK : K.Ok) {x : Itm} (h : K.t.Ok x) : 0 ≤ x.cost ∧ x.cost ≤ 902002000 * 500 := by
  rw [h.cost]
  have h1 := h.len
  have e : K.t.T = K.tgt.length := rfl
  rw [e] at h1
  have h2 := tc_bd hK x.units 0 (by omega) (fun k hk => by rw [Nat.zero_add]; exact h.mem k hk)
  have h3 := hK.n2
  omega
theorem us_len {K : TK} (hK : K.Ok) (i : Nat) : (K.U i).length ≤ K.p.length := by
  unfold U idxs
  rw [List.length_map]
  exact Nat.le_trans (List.length_filter_le _ _) (by simp)
end TK
end Go.Proofs.YtomjbfeafodfbaaGreat

set_option autoImplicit false
set_option maxRecDepth 100000
namespace Go.Proofs.YtomjbfeafodfbaaGreat
open Go.Sx
open Enc (enc val)
structure FS where
  sq : SlV
  l : List Itm
  s7 : SlV
  outs : List Sq
  N : List Node
  m : List (P2 × Int)
def FS.H (bq : Nat) (K : TK) (y : FS) : List Asn := blk bq [y.sq.v] 146 :: ownL 144 y.sq.v y.l :: mpA K.bm y.m :: ownL 30 y.s7.v y.outs :: (y.outs.map sqA ++ y.N.map nodeA)
structure FS.Inv (K : TK) (n : Nat) (y : FS) : Prop where
  bf : K.t.BF y.l (y.outs.map keyS)
  hp : HeapN Itm.lt y.l y.l.length
  nd : ItN y.N y.l
  on : y.outs.length ≤ n
  mu : K.t.mu y.l ≤ 500000000
  mo : K.MemoOk y.m
def joinF (K : TK) (xu : List Int) (u : Int) : Int := match xu.getLast? with
  | some y => K.J y u
  | none => 0
theorem joinF_bd {K : TK} (hK : K.Ok) (xu : List Int) {u : Int} (hu : 0 ≤ u ∧ u < K.p.length) : 0 ≤ joinF K xu u ∧ joinF K xu u ≤ 800000000 := by
  unfold joinF
  split
  · exact TK.J_bd hK _ hu
  · omega
theorem first_spec (K : TK) (hK : K.Ok) (hp : K.possB = true) (n : Nat) (hn1 : n ≤ 1000) (hbig : (K.p.length + 1) ^ K.tgt.length ≤ 500000000) (so sc : SlV) (cells : List Int) (htab : K.Tab cells 0) (m : List (P2 × Int)) (hm : K.MemoOk m) (w : World) (bs : List Nat) (hs : Sep [mpA K.bm m] w bs) (hn : bs.Nodup) (hlt : ∀ b ∈ bs, b < w.heap.size) (hR : Stb w bs K.Rd)
    (hso : Stb w bs (RdL so.v (rowsTo sc K.p.length K.tgt.length K.tgt.length))) (hsc : Stb w bs (RdL sc.v cells)) :
    Calls Tryz.prog 67 #[.pointer (some ⟨K.bk, 0, none⟩), so.v, .int .i64 n] w fun e w' => ∃ y : FS, e = .returned y.s7.v ∧ (y.Inv K n ∧ (y.l = [] ∨ y.outs.length = n)) ∧ Cl w bs (mpA K.bm y.m :: ownL 30 y.s7.v y.outs :: y.outs.map sqA) w' := by
  have hbk := stb_map hR fun _ h => h.bk
  have htp := stb_map hR fun _ h => h.tp
  have hus := stb_map hR fun _ h => h.us
  have hsp := stb_map hR fun _ h => h.vo.l.here
  have hvo := stb_map hR fun _ h => h.vo
  have hun := hR.here.un
  have n1 := hK.n1
  have n2 := hK.n2
  have hx : Stb w bs (BlkIs K.bk 2 K.x) := stb_map hR fun _ h => blkIs_of h.bk (fun j v hj => by
    match j, hj with
    | 0, hj => exact hj
    | 1, hj => exact hj
    | 2, hj => exact hj
    | 3, hj => exact hj
    | j + 4, hj => simp [Enc.enc] at hj)
  refine calls_cw (vs := [_, _, _]) Tryz.func67 rfl Tryz.ntmps67 rfl (Cl.start hs hn hlt) (cw_seq (cw_region (sr rfl rfl rfl ((q_assign rfl rfl)) (sw_nil (post_then (cw_seq (cw_region (sr rfl rfl rfl ((q_assign rfl rfl)) (sw_nil (post_then (cw_seq (cw_region (sr rfl rfl rfl ((q_build rfl (.nil) rfl)) ?_)))))))))))))
  refine sw_x rfl rfl rfl (e_build1 (α := Itm) (x := (⟨none, [], 0, 0⟩ : Itm)) rfl rfl rfl rfl) (fun s14 => ?_)
  refine sw_x rfl rfl rfl (e_box rfl rfl rfl) (fun b15 => ?_)
  refine sr rfl rfl rfl ((q_iface rfl rfl Tryz.underlying141 rfl)) (sr rfl rfl rfl ((q_assign rfl rfl)) (sw_nil (post_then (cw_seq (cw_block ?_)))))
  have hmu0 : K.t.mu [⟨none, [], 0, 0⟩] ≤ 500000000 := by
    have h1 := Tsk.wgt_le K.t (c := K.p.length) (fun i => TK.us_len hK i) K.tgt.length
    have e : K.t.mu [⟨none, [], 0, 0⟩] = K.t.wgt (K.tgt.length - 0) + 0 := rfl
    rw [e, Nat.sub_zero]; omega
  refine cw_loop (S := FS) (fun y => [(0, [], .pointer (some ⟨K.bk, 0, none⟩)), (1, [], so.v), (2, [], .int .i64 n), (7, [], y.s7.v), (8, [], .iface 141 (.pointer (some ⟨b15, 0, none⟩)))]) (fun y => Cl w bs (y.H b15 K)) (fun y => y.Inv K n) (fun y => K.t.mu y.l) ⟨s14, [⟨none, [], 0, 0⟩], ⟨none, 0, 0⟩, [], [], m⟩ ⟨Tsk.BF.start, fun k k0 hk => by simp at hk; omega, fun x hx => by simp at hx; subst hx; rfl, Nat.zero_le _, hmu0, hm⟩ (by exact .cons rfl (.cons rfl (.cons rfl (.cons rfl (.cons rfl .nil))))) (fun w' (h : Cl w bs [blk b15 [s14.v] 146, ownL 144 s14.v [(⟨none, [], 0, 0⟩ : Itm)], mpA K.bm m] w') => (h.addNil (α := Sq) 30).perm (List.perm_append_comm (l₁ := [ownL 30 (SlV.v ⟨none, 0, 0⟩) ([] : List Sq)]) (l₂ := [blk b15 [s14.v] 146, ownL 144 s14.v [(⟨none, [], 0, 0⟩ : Itm)], mpA K.bm m]))) ?_
  rintro ⟨sq, l, s7, outs, N, m1⟩ ⟨hbf, hhp, hnd, hon, hmu, hmo⟩
  dsimp only [FS.H] at hbf hhp hnd hon hmu hmo ⊢
  refine cw_seq (cw_seq (cw_region (sr rfl rfl rfl ((q_move rfl rfl)) ?_)))
  refine sw_step rfl rfl rfl (q_inv (CanCall.mk Tryz.call182) rfl rfl (.nil) (fun w hw => m_empty (blk_here hw (by exact .head _))) (fun _ w hw => callq hw (qempty_spec sq l w (stb_own hw (by exact .tail _ (.head _)))))) ?_
  refine sr rfl rfl rfl ((q_not rfl rfl)) (sr rfl rfl rfl ((q_move rfl rfl)) (sr rfl rfl rfl ((q_move rfl rfl)) ?_))
  refine sr rfl rfl rfl ((q_len rfl (.cons rfl inferInstance (.nil)) (by exact fun w hw => rd_own hw (by exact .tail _ (.tail _ (.tail _ (.head _))))))) ?_
  refine sr rfl rfl rfl ((q_move rfl rfl)) (sr rfl rfl rfl ((q_lss rfl rfl rfl)) (sr rfl rfl rfl ((q_and2 rfl rfl rfl)) (sw_nil (post_then ?_))))
  refine cw_cond rfl (fun h => ?_) (fun h => ?_)
  · skip
    have h0 : 0 < l.length ∧ outs.length < n := by
      simp only [Bool.and_eq_true, Bool.not_eq_true', decide_eq_false_iff_not, decide_eq_true_eq] at h
      omega
    have hll := Tsk.len_mu K.t l
    have hlu : ∀ x ∈ l, x.units.length ≤ 1000000 := fun x hx => by
      have := (hbf.ok x hx).len
      have e : K.t.T = K.tgt.length := rfl
      omega
    refine cw_skip (post_then (cw_block (cw_seq (cw_region (sr rfl rfl rfl ((q_move rfl rfl)) ?_)))))
    refine sw_x rfl rfl rfl (e_callH (A := [blk b15 [sq.v] 146, ownL 144 sq.v l]) (F := mpA K.bm m1 :: ownL 30 s7.v outs :: (outs.map sqA ++ N.map nodeA)) (CanCall.mk Tryz.call108) rfl rfl (.cons rfl inferInstance (.nil)) (.refl _) (fun w bs k1 k2 k3 k4 k5 => hpop_spec b15 sq l h0.1 (by omega) hhp w bs k1 k2 k3 (itN_ch (lend_nodes k5 (fun e he => .tail _ (.tail _ (List.mem_append_right _ (List.mem_map_of_mem he))))) hnd hlu))) (fun y27 => ?_)
    refine sw_imp fun hy => ?_
    obtain ⟨x, sq2, l2⟩ := y27
    obtain ⟨hpm, hhp2, hmin⟩ := hy
    have hxm : x ∈ l := hpm.mem_iff.2 (by simp)
    have hok := hbf.ok x hxm
    have hxn := hnd x hxm
    have hlx := hlu x hxm
    have hxl := hok.len
    obtain ⟨xp, xu, xc, xl⟩ := x
    dsimp only at hpm hhp2 hmin hok hxn hlx hxl ⊢
    have eT : K.t.T = K.tgt.length := rfl
    rw [eT] at hxl
    refine sr rfl rfl rfl ((q_assert rfl rfl Tryz.underlying144 rfl)) ?_
    refine sw_x rfl rfl rfl (e_alloc rfl) (fun b9 => ?_)
    refine sw_eff0 rfl rfl (e_store (i := 0) rfl rfl rfl rfl rfl rfl rfl rfl) (sw_nil (post_then (cw_seq (cw_seq ?_))))
    refine cw_region_q mixed_Tryz (by kernel_rfl) ?_
    refine qr rfl rfl rfl ((q_fieldAddr rfl rfl)) ?_
    refine qr rfl rfl rfl ((q_loadC rfl rfl (by exact .head _) rfl)) ?_
    refine qr rfl rfl rfl ((q_move rfl rfl)) (qr rfl rfl rfl ((q_nilCheck rfl rfl)) (qr rfl rfl rfl ((q_fieldAddr rfl rfl)) ?_))
    refine qr rfl rfl rfl ((q_loadS rfl rfl (fun w hw => Stb.cl (by assumption) hw) rfl)) ?_
    refine qr rfl rfl rfl ((q_len rfl (.cons rfl inferInstance (.nil)) (by exact fun w hw => Stb.cl (by assumption) hw))) ?_
    refine qr rfl rfl rfl ((q_eql rfl rfl rfl)) (qw_end (post_then ?_))
    refine cw_cond rfl (fun h2 => ?_) (fun h2 => ?_)
    · skip
      have hxT : xu.length = K.tgt.length := by simp only [decide_eq_true_eq] at h2; omega
      refine cw_seq (cw_region_a (Cl w bs [blk b9 (enc (⟨xp, xu, xc, xl⟩ : Itm)) 144]) [] mixed_Tryz ?_)
      refine aw_pure 0 rfl (by kernel_rfl) (by kernel_rfl) (by kernel_rfl) (by kernel_rfl) (by kernel_rfl) rfl rfl rfl (q_move rfl rfl) ?_
      refine aw_take 1 (fun w h => Cl.sel (by exact .take 0 rfl (.nil _)) w h) rfl (by kernel_rfl) (by kernel_rfl) (by kernel_rfl) (by kernel_rfl) (by kernel_rfl) (by kernel_rfl) rfl rfl rfl (q_fieldAddr rfl rfl) ?_
      refine aw_take 2 (fun w h => Cl.sel (by exact .take 0 rfl (.nil _)) w h) rfl (by kernel_rfl) (by kernel_rfl) (by kernel_rfl) (by kernel_rfl) (by kernel_rfl) (by kernel_rfl) rfl rfl rfl (q_loadC rfl rfl (by exact .head _) rfl) ?_
      refine aw_take 4 (fun w h => Cl.sel (by exact .take 0 rfl (.nil _)) w h) rfl (by kernel_rfl) (by kernel_rfl) (by kernel_rfl) (by kernel_rfl) (by kernel_rfl) (by kernel_rfl) rfl rfl rfl (q_fieldAddr rfl rfl) ?_
      refine aw_take 5 (fun w h => Cl.sel (by exact .take 0 rfl (.nil _)) w h) rfl (by kernel_rfl) (by kernel_rfl) (by kernel_rfl) (by kernel_rfl) (by kernel_rfl) (by kernel_rfl) rfl rfl rfl (q_loadC rfl rfl (by exact .head _) rfl) ?_
      refine aw_x 3 (by kernel_rfl) rfl rfl rfl rfl (e_call (CanCall.mk Tryz.call109) rfl (.cons rfl inferInstance (.nil)) (fun w hw => list_spec xp xu w (chN_stb (fun e he => stb_blk hw (.tail _ (.tail _ (.tail _ (.tail _ (.tail _ (List.mem_append_right _ (List.mem_map_of_mem (f := nodeA) he)))))))) hxn) hlx)) (by intro hb; exact fun _ w h => (fun w h => Cl.sel (by exact .take 1 rfl (.nil _)) w h) w h.2) (fun s40 => ?_)
      refine aw_imp fun _ => ?_
      refine aw_pure 6 rfl (by kernel_rfl) (by kernel_rfl) (by kernel_rfl) (by kernel_rfl) (by kernel_rfl) rfl rfl rfl (q_build rfl (.cons rfl inferInstance (.cons rfl inferInstance (.nil))) rfl) ?_
      refine aw_x 7 (by kernel_rfl) rfl rfl rfl rfl (e_build1 (α := Sq) (x := (⟨s40, xc, xu⟩ : Sq)) rfl rfl rfl rfl) (by intro hb; exact fun _ => (fun w h => Cl.sel (by exact .take 2 rfl (.nil _)) w h)) (fun s44 => ?_)
      refine aw_x 8 (by kernel_rfl) rfl rfl rfl rfl (e_append (i := 6) rfl (.cons rfl inferInstance (.cons rfl inferInstance (.nil))) rfl rfl (by exact fun w hw => rd_own hw (by exact .head _)) (by simp only [List.length_set, List.length_append, List.length_cons, List.length_nil, List.length_replicate, List.length_take, List.length_drop, List.length_map]; omega) rfl) (by intro hb; exact fun _ => (fun w h => Cl.sel (by exact .take 2 rfl (.nil _)) w h)) (fun s45 => ?_)
      refine aw_pure 9 rfl (by kernel_rfl) (by kernel_rfl) (by kernel_rfl) (by kernel_rfl) (by kernel_rfl) rfl rfl rfl (q_assign rfl rfl) ?_
      refine aw_end (by kernel_rfl) ?_
      refine post_then (cw_exit (post_then_x (post_blk_eq ?_)))
      have hbt := hbf.take (tl_nodup (fun i => idxs_nodup _ _ _) _) hpm hmin hxT
      refine post_next ⟨sq2, l2, s45, outs ++ [(⟨s40, xc, xu⟩ : Sq)], N, m1⟩ (by exact .cons rfl (.cons rfl (.cons rfl (.cons rfl (.cons rfl .nil))))) (fun w3 hw3 => ?_) ⟨by simpa [keyS] using hbt, hhp2, fun z hz => hnd z (hpm.mem_iff.2 (by simp [hz])), by simp; omega, Nat.le_trans (Nat.le_of_lt (Tsk.mu_take K.t hpm)) hmu, hmo⟩ (Tsk.mu_take K.t hpm)
      have h1 : Cl w bs (ownL 30 s44.v [(⟨s40, xc, xu⟩ : Sq)] :: ownL 3 s40.v xu :: blk b9 _ 144 :: blk b15 [sq2.v] 146 :: ownL 144 sq2.v l2 :: mpA K.bm m1 :: ownL 30 s45.v (outs ++ [(⟨s40, xc, xu⟩ : Sq)]) :: (outs.map sqA ++ N.map nodeA)) w3 := hw3
      have h3 := (h1.tail.perm (.swap _ _ _)).tail
      have h4 := h3.perm (perm_put (P := [blk b15 [sq2.v] 146, ownL 144 sq2.v l2, mpA K.bm m1, ownL 30 s45.v (outs ++ [(⟨s40, xc, xu⟩ : Sq)])]) (X := outs.map sqA) (Y := N.map nodeA))
      simp only [FS.H, List.map_append, List.map_cons, List.map_nil]
      exact h4
    · skip
      have hxT : xu.length < K.tgt.length := by simp only [decide_eq_false_iff_not] at h2; omega
      have huu := stb_map hR fun _ h => h.uu xu.length hxT
      have hUL := rd_len huu.here
      have hUp := TK.us_len hK xu.length
      have hrl := rowsTo_len sc K.p.length K.tgt.length K.tgt.length
      have hrow := rowsAll_nth sc K.p.length K.tgt.length xu.length hxT
      obtain ⟨q1, q2, q3, q4⟩ := prod_bd hxT n2 n1
      have hcl := htab.1
      have hxcb := TK.ok_bd hK hok
      dsimp only at hxcb
      refine cw_skip (post_then (cw_seq ?_))
      refine cw_region_q mixed_Tryz (by kernel_rfl) ?_
      refine qr rfl rfl rfl ((q_move rfl rfl)) (qr rfl rfl rfl ((q_nilCheck rfl rfl)) (qr rfl rfl rfl ((q_fieldAddr rfl rfl)) ?_))
      refine qr rfl rfl rfl ((q_loadS rfl rfl (fun w hw => Stb.cl (by assumption) hw) rfl)) ?_
      refine qr rfl rfl rfl ((q_fieldAddr rfl rfl)) ?_
      refine qr rfl rfl rfl ((q_loadC rfl rfl (by exact .head _) rfl)) ?_
      refine qr rfl rfl rfl ((q_indexN rfl rfl rfl (by exact fun w hw => Stb.cl (by assumption) hw) (by intro hc; (simp only [List.length_set, List.length_append, List.length_cons, List.length_nil, List.length_replicate, List.length_take, List.length_drop, List.length_map]; omega)))) ?_
      refine qr rfl rfl rfl ((q_loadEl rfl rfl rfl (by exact fun w hw => Stb.cl (by assumption) hw) (by intro hc; (simp only [List.length_set, List.length_append, List.length_cons, List.length_nil, List.length_replicate, List.length_take, List.length_drop, List.length_map]; omega)))) ?_
      refine qr rfl rfl rfl ((q_len rfl (.cons rfl inferInstance (.nil)) (by exact fun w hw => Stb.cl (by assumption) hw))) ?_
      refine qr rfl rfl rfl ((q_move rfl rfl)) (qw_end (post_then (cw_block ?_)))
      refine cw_loop (S := Nat × (List (Option Addr) × FS)) (fun y => [(0, [], .pointer (some ⟨K.bk, 0, none⟩)), (1, [], so.v), (2, [], .int .i64 n), (7, [], s7.v), (8, [], .iface 141 (.pointer (some ⟨b15, 0, none⟩))), (9, [], .pointer (some ⟨b9, 0, none⟩)), (53, [], (nth K.usv xu.length).v), (54, [], .int .i64 (K.U xu.length).length), (55, [], .int .i64 y.1)])
        (fun y => Cl w bs (blk b9 (enc (⟨xp, xu, xc, xl⟩ : Itm)) 144 :: blk b15 [y.2.2.sq.v] 146 :: ownL 144 y.2.2.sq.v y.2.2.l :: mpA K.bm y.2.2.m :: ownL 30 s7.v outs :: (outs.map sqA ++ y.2.2.N.map nodeA)))
        (fun y => y.1 ≤ (K.U xu.length).length ∧ y.2.1.length = y.1 ∧ y.2.2.l.Perm (l2 ++ List.zipWith (K.t.kid ⟨xp, xu, xc, xl⟩) ((K.U xu.length).take y.1) y.2.1) ∧ HeapN Itm.lt y.2.2.l y.2.2.l.length ∧ ItN y.2.2.N y.2.2.l ∧ (∀ e ∈ N, e ∈ y.2.2.N) ∧ K.MemoOk y.2.2.m) (fun y => (K.U xu.length).length - y.1) (0, ([], ⟨sq2, l2, s7, outs, N, m1⟩))
        ⟨Nat.zero_le _, rfl, by simp, hhp2, fun z hz => hnd z (hpm.mem_iff.2 (by simp [hz])), fun e he => he, hmo⟩ (by exact .cons rfl (.cons rfl (.cons rfl (.cons rfl (.cons rfl (.cons rfl (.cons rfl (.cons rfl (.cons rfl .nil))))))))) (fun _ h => h) ?_
      rintro ⟨j, ⟨ps, ⟨sq', l', s7', outs', N', m'⟩⟩⟩ ⟨hj, hps, hpm', hhp', hnd', hNN, hmo'⟩
      dsimp only at hj hps hpm' hhp' hnd' hNN hmo' ⊢
      refine cw_seq (cw_region (sr rfl rfl rfl ((q_lss rfl rfl rfl)) (sw_nil (post_then (cw_seq ?_)))))
      refine cw_cond rfl (fun h3 => ?_) (fun h3 => ?_)
      · skip
        have hj' : j < (K.U xu.length).length := by simp only [decide_eq_true_eq] at h3; omega
        have hu := K.U_mem (i := xu.length) (u := nth (K.U xu.length) j) (by rw [nth_get hj']; exact List.getElem_mem hj')
        have humem : nth (K.U xu.length) j ∈ K.U xu.length := by rw [nth_get hj']; exact List.getElem_mem hj'
        obtain ⟨u, hue⟩ : ∃ u, nth (K.U xu.length) j = u := ⟨_, rfl⟩
        have hjb := joinF_bd hK xu hu
        rw [hue] at hu humem hjb
        refine cw_skip (post_then (cw_seq (cw_block (cw_seq (cw_region ?_)))))
        refine sr rfl rfl rfl ((q_indexN rfl rfl rfl (by exact fun w hw => Stb.cl (by assumption) hw) (by intro hc; omega))) ?_
        refine sr rfl rfl rfl ((q_loadEl rfl rfl rfl (by exact fun w hw => Stb.cl (by assumption) hw) (by intro hc; omega))) ?_
        refine sr rfl rfl rfl ((q_assign rfl rfl)) (sw_nil (post_then (cw_seq (cw_region (sr rfl rfl rfl ((q_assign rfl rfl)) (sw_nil (post_then (cw_seq (cw_seq (cw_region (sr rfl rfl rfl ((q_fieldAddr rfl rfl)) ?_)))))))))))
        refine sr rfl rfl rfl ((q_loadC rfl rfl (by exact .head _) rfl)) ?_
        refine sr rfl rfl rfl ((q_neqPNil rfl rfl (by kernel_rfl))) ?_
        refine sw_nil (post_then ?_)
        rw [show val (nth (K.U xu.length) j) = Value.int .i64 u by rw [hue]; rfl]
        refine cw_cut (S := Unit) (fun _ => [(0, [], .pointer (some ⟨K.bk, 0, none⟩)), (1, [], so.v), (2, [], .int .i64 n), (7, [], s7.v), (8, [], .iface 141 (.pointer (some ⟨b15, 0, none⟩))), (9, [], .pointer (some ⟨b9, 0, none⟩)), (53, [], (nth K.usv xu.length).v), (54, [], .int .i64 (K.U xu.length).length), (55, [], .int .i64 j), (11, [], .int .i64 u), (12, [], .int .i64 (joinF K xu u))])
          (fun _ => Cl w bs (blk b9 (enc (⟨xp, xu, xc, xl⟩ : Itm)) 144 :: blk b15 [sq'.v] 146 :: ownL 144 sq'.v l' :: mpA K.bm m' :: ownL 30 s7.v outs :: (outs.map sqA ++ N'.map nodeA))) (fun _ => True) ?_ ?_
        · refine cw_cond rfl (fun h4 => ?_) (fun h4 => ?_)
          · skip
            cases hrev : xu.reverse with
            | nil => exfalso; rw [hrev] at hxn; simp only [chN] at hxn; rw [hxn] at h4; cases h4
            | cons y r =>
              rw [hrev] at hxn
              obtain ⟨b', q', e1, e2, _⟩ := hxn
              subst e1
              have hlast : xu.getLast? = some y := by rw [List.getLast?_eq_head?_reverse, hrev]; rfl
              have hym : y ∈ xu := by rw [← List.mem_reverse, hrev]; simp
              obtain ⟨q, hq, hqe⟩ := List.getElem_of_mem hym
              have hy := K.U_mem (hok.mem q hq)
              rw [show nth xu q = y by rw [nth_get hq, hqe]] at hy
              have hmem : blk b' [.pointer q', .int .i64 y] 152 ∈ blk b9 (enc (⟨some ⟨b', 0, none⟩, xu, xc, xl⟩ : Itm)) 144 :: blk b15 [sq'.v] 146 :: ownL 144 sq'.v l' :: mpA K.bm m' :: ownL 30 s7.v outs :: (outs.map sqA ++ N'.map nodeA) := .tail _ (.tail _ (.tail _ (.tail _ (.tail _ (List.mem_append_right _ (List.mem_map_of_mem (f := nodeA) (hNN _ e2)))))))
              have hun1 := hK.un hy
              have hun2 := hK.un hu
              have hbd := joinC_bd (wt_ok hK.wt) hun1.1 hun2.1
              refine cw_region_q mixed_Tryz (by kernel_rfl) ?_
              refine qr rfl rfl rfl ((q_move rfl rfl)) (qr rfl rfl rfl ((q_nilCheck rfl rfl)) (qr rfl rfl rfl ((q_fieldAddr rfl rfl)) ?_))
              refine qr rfl rfl rfl ((q_loadS rfl rfl (fun w hw => Stb.cl (by assumption) hw) rfl)) ?_
              refine qr rfl rfl rfl ((q_fieldAddr rfl rfl)) ?_
              refine qr rfl rfl rfl ((q_loadC rfl rfl (by exact .head _) rfl)) ?_
              refine qr rfl rfl rfl ((q_nilCheck rfl rfl)) (qr rfl rfl rfl ((q_fieldAddr rfl rfl)) ?_)
              refine qr rfl rfl rfl ((q_loadC rfl rfl (by assumption) rfl)) ?_
              refine qr rfl rfl rfl ((q_index rfl rfl rfl (by exact fun w hw => Stb.cl (by assumption) hw) (by intro hc; omega))) ?_
              refine qr rfl rfl rfl ((q_loadEl rfl rfl rfl (by exact fun w hw => Stb.cl (by assumption) hw) (by intro hc; omega))) ?_
              refine qr rfl rfl rfl ((q_move rfl rfl)) (qr rfl rfl rfl ((q_nilCheck rfl rfl)) (qr rfl rfl rfl ((q_fieldAddr rfl rfl)) ?_))
              refine qr rfl rfl rfl ((q_loadS rfl rfl (fun w hw => Stb.cl (by assumption) hw) rfl)) ?_
              refine qr rfl rfl rfl ((q_move rfl rfl)) ?_
              refine qr rfl rfl rfl ((q_index rfl rfl rfl (by exact fun w hw => Stb.cl (by assumption) hw) (by intro hc; omega))) ?_
              refine qr rfl rfl rfl ((q_loadEl rfl rfl rfl (by exact fun w hw => Stb.cl (by assumption) hw) (by intro hc; omega))) ?_
              refine qr rfl rfl rfl ((q_move rfl rfl)) (qr rfl rfl rfl ((q_nilCheck rfl rfl)) (qr rfl rfl rfl ((q_fieldAddr rfl rfl)) ?_))
              refine qr rfl rfl rfl ((q_loadI rfl rfl (fun w hw => Stb.cl (by assumption) hw))) ?_
              refine qw_step rfl rfl rfl (q_call (CanCall.mk Tryz.call94) rfl (.cons rfl inferInstance (.cons rfl inferInstance (.cons rfl inferInstance (.nil)))) (fun _ w hw => callq hw (joining_spec _ _ _ w ((hvo.cl hw).u _ hun1.2) ((hvo.cl hw).u _ hun2.2) hun1.1 hun2.1 (hK.bl hy hu) (wt_ok hK.wt)))) (qr rfl rfl rfl ((q_assign rfl rfl)) (qw_end ?_))
              refine post_meet () ?_ (fun _ h => h) trivial
              simp only [joinF, hlast]
              exact (by exact .cons rfl (.cons rfl (.cons rfl (.cons rfl (.cons rfl (.cons rfl (.cons rfl (.cons rfl (.cons rfl (.cons rfl (.cons rfl .nil)))))))))))
          · skip
            have hx0 : xu.getLast? = none := by
              cases hrev : xu.reverse with
              | nil => rw [List.getLast?_eq_head?_reverse, hrev]; rfl
              | cons y r => exfalso; rw [hrev] at hxn; obtain ⟨b', q', e1, _, _⟩ := hxn; rw [e1] at h4; cases h4
            refine cw_skip ?_
            refine post_meet () ?_ (fun _ h => h) trivial
            simp only [joinF, hx0]
            exact (by exact .cons rfl (.cons rfl (.cons rfl (.cons rfl (.cons rfl (.cons rfl (.cons rfl (.cons rfl (.cons rfl (.cons rfl (.cons rfl .nil)))))))))))
        · intro _ _
          refine post_then (cw_region_a (Cl w bs [blk b9 (enc (⟨xp, xu, xc, xl⟩ : Itm)) 144]) [] mixed_Tryz ?_)
          have hcell : nth cells (xu.length * K.p.length + u.toNat) = K.t.R (K.tgt.length - xu.length) u := by
            rw [htab.2 xu.length u.toNat hxT (by omega), if_pos]
            · rw [show ((u.toNat : Nat) : Int) = u by omega]
            · exact ⟨Nat.zero_le _, by rw [show ((u.toNat : Nat) : Int) = u by omega]; exact humem⟩
          have hFb := TK.F_bd hK hxT hu
          have hRb := TK.R_bd hK hp (K.tgt.length - xu.length) u (by omega) (by omega) hu.1 hu.2
          refine aw_pure 0 rfl (by kernel_rfl) (by kernel_rfl) (by kernel_rfl) (by kernel_rfl) (by kernel_rfl) rfl rfl rfl (q_move rfl rfl) ?_
          refine aw_take 1 (fun w h => Cl.sel (by exact .take 0 rfl (.nil _)) w h) rfl (by kernel_rfl) (by kernel_rfl) (by kernel_rfl) (by kernel_rfl) (by kernel_rfl) (by kernel_rfl) rfl rfl rfl (q_fieldAddr rfl rfl) ?_
          refine aw_take 2 (fun w h => Cl.sel (by exact .take 0 rfl (.nil _)) w h) rfl (by kernel_rfl) (by kernel_rfl) (by kernel_rfl) (by kernel_rfl) (by kernel_rfl) (by kernel_rfl) rfl rfl rfl (q_loadC rfl rfl (by exact .head _) rfl) ?_
          refine aw_pure 3 rfl (by kernel_rfl) (by kernel_rfl) (by kernel_rfl) (by kernel_rfl) (by kernel_rfl) rfl rfl rfl (q_move rfl rfl) ?_
          refine aw_pure 4 rfl (by kernel_rfl) (by kernel_rfl) (by kernel_rfl) (by kernel_rfl) (by kernel_rfl) rfl rfl rfl (q_build rfl (.cons rfl inferInstance (.cons rfl inferInstance (.nil))) rfl) ?_
          refine aw_take 6 (fun w h => Cl.sel (by exact .take 0 rfl (.nil _)) w h) rfl (by kernel_rfl) (by kernel_rfl) (by kernel_rfl) (by kernel_rfl) (by kernel_rfl) (by kernel_rfl) rfl rfl rfl (q_fieldAddr rfl rfl) ?_
          refine aw_take 7 (fun w h => Cl.sel (by exact .take 0 rfl (.nil _)) w h) rfl (by kernel_rfl) (by kernel_rfl) (by kernel_rfl) (by kernel_rfl) (by kernel_rfl) (by kernel_rfl) rfl rfl rfl (q_loadC rfl rfl (by exact .head _) rfl) ?_
          refine aw_pure 8 rfl (by kernel_rfl) (by kernel_rfl) (by kernel_rfl) (by kernel_rfl) (by kernel_rfl) rfl rfl rfl (q_add rfl rfl rfl (by intro hc; (simp only [List.length_set, List.length_append, List.length_cons, List.length_nil, List.length_replicate, List.length_take, List.length_drop, List.length_map]; omega))) ?_
          refine aw_take 9 (fun w h => Cl.sel (by exact .take 0 rfl (.nil _)) w h) rfl (by kernel_rfl) (by kernel_rfl) (by kernel_rfl) (by kernel_rfl) (by kernel_rfl) (by kernel_rfl) rfl rfl rfl (q_fieldAddr rfl rfl) ?_
          refine aw_take 10 (fun w h => Cl.sel (by exact .take 0 rfl (.nil _)) w h) rfl (by kernel_rfl) (by kernel_rfl) (by kernel_rfl) (by kernel_rfl) (by kernel_rfl) (by kernel_rfl) rfl rfl rfl (q_loadC rfl rfl (by exact .head _) rfl) ?_
          refine aw_pure 11 rfl (by kernel_rfl) (by kernel_rfl) (by kernel_rfl) (by kernel_rfl) (by kernel_rfl) rfl rfl rfl (q_move rfl rfl) ?_
          refine aw_pure 12 rfl (by kernel_rfl) (by kernel_rfl) (by kernel_rfl) (by kernel_rfl) (by kernel_rfl) rfl rfl rfl (q_add rfl rfl rfl (by intro hc; (simp only [List.length_set, List.length_append, List.length_cons, List.length_nil, List.length_replicate, List.length_take, List.length_drop, List.length_map]; omega))) ?_
          refine aw_pure 13 rfl (by kernel_rfl) (by kernel_rfl) (by kernel_rfl) (by kernel_rfl) (by kernel_rfl) rfl rfl rfl (q_move rfl rfl) ?_
          refine aw_pure 14 rfl (by kernel_rfl) (by kernel_rfl) (by kernel_rfl) (by kernel_rfl) (by kernel_rfl) rfl rfl rfl (q_nilCheck rfl rfl) ?_
          refine aw_take 15 (fun w h => Cl.sel (by exact .take 0 rfl (.nil _)) w h) rfl (by kernel_rfl) (by kernel_rfl) (by kernel_rfl) (by kernel_rfl) (by kernel_rfl) (by kernel_rfl) rfl rfl rfl (q_fieldAddr rfl rfl) ?_
          refine aw_take 16 (fun w h => Cl.sel (by exact .take 0 rfl (.nil _)) w h) rfl (by kernel_rfl) (by kernel_rfl) (by kernel_rfl) (by kernel_rfl) (by kernel_rfl) (by kernel_rfl) rfl rfl rfl (q_loadS rfl rfl (fun w hw => Stb.cl (by assumption) hw) rfl) ?_
          refine aw_take 17 (fun w h => Cl.sel (by exact .take 0 rfl (.nil _)) w h) rfl (by kernel_rfl) (by kernel_rfl) (by kernel_rfl) (by kernel_rfl) (by kernel_rfl) (by kernel_rfl) rfl rfl rfl (q_fieldAddr rfl rfl) ?_
          refine aw_take 18 (fun w h => Cl.sel (by exact .take 0 rfl (.nil _)) w h) rfl (by kernel_rfl) (by kernel_rfl) (by kernel_rfl) (by kernel_rfl) (by kernel_rfl) (by kernel_rfl) rfl rfl rfl (q_loadC rfl rfl (by exact .head _) rfl) ?_
          refine aw_pure 19 rfl (by kernel_rfl) (by kernel_rfl) (by kernel_rfl) (by kernel_rfl) (by kernel_rfl) rfl rfl rfl (q_move rfl rfl) ?_
          refine aw_take 22 (fun w h => Cl.sel (by exact .take 0 rfl (.nil _)) w h) rfl (by kernel_rfl) (by kernel_rfl) (by kernel_rfl) (by kernel_rfl) (by kernel_rfl) (by kernel_rfl) rfl rfl rfl (q_fieldAddr rfl rfl) ?_
          refine aw_take 23 (fun w h => Cl.sel (by exact .take 0 rfl (.nil _)) w h) rfl (by kernel_rfl) (by kernel_rfl) (by kernel_rfl) (by kernel_rfl) (by kernel_rfl) (by kernel_rfl) rfl rfl rfl (q_loadC rfl rfl (by exact .head _) rfl) ?_
          refine aw_pure 24 rfl (by kernel_rfl) (by kernel_rfl) (by kernel_rfl) (by kernel_rfl) (by kernel_rfl) rfl rfl rfl (q_move rfl rfl) ?_
          refine aw_pure 25 rfl (by kernel_rfl) (by kernel_rfl) (by kernel_rfl) (by kernel_rfl) (by kernel_rfl) rfl rfl rfl (q_add rfl rfl rfl (by intro hc; (simp only [List.length_set, List.length_append, List.length_cons, List.length_nil, List.length_replicate, List.length_take, List.length_drop, List.length_map]; omega))) ?_
          refine aw_pure 26 rfl (by kernel_rfl) (by kernel_rfl) (by kernel_rfl) (by kernel_rfl) (by kernel_rfl) rfl rfl rfl (q_move rfl rfl) ?_
          refine aw_take 27 (fun w h => Cl.sel (by exact .take 0 rfl (.nil _)) w h) rfl (by kernel_rfl) (by kernel_rfl) (by kernel_rfl) (by kernel_rfl) (by kernel_rfl) (by kernel_rfl) rfl rfl rfl (q_fieldAddr rfl rfl) ?_
          refine aw_take 28 (fun w h => Cl.sel (by exact .take 0 rfl (.nil _)) w h) rfl (by kernel_rfl) (by kernel_rfl) (by kernel_rfl) (by kernel_rfl) (by kernel_rfl) (by kernel_rfl) rfl rfl rfl (q_loadC rfl rfl (by exact .head _) rfl) ?_
          refine aw_take 29 (fun w h => Cl.sel (by exact .take 0 rfl (.nil _)) w h) rfl (by kernel_rfl) (by kernel_rfl) (by kernel_rfl) (by kernel_rfl) (by kernel_rfl) (by kernel_rfl) rfl rfl rfl (q_indexN rfl rfl rfl (by exact fun w hw => Stb.cl (by assumption) hw) (by intro hc; (simp only [List.length_set, List.length_append, List.length_cons, List.length_nil, List.length_replicate, List.length_take, List.length_drop, List.length_map]; omega))) ?_
          refine aw_pure 31 rfl (by kernel_rfl) (by kernel_rfl) (by kernel_rfl) (by kernel_rfl) (by kernel_rfl) rfl rfl rfl (q_move rfl rfl) ?_
          refine aw_take 30 (fun w h => Cl.sel (by exact .take 0 rfl (.nil _)) w h) rfl (by kernel_rfl) (by kernel_rfl) (by kernel_rfl) (by kernel_rfl) (by kernel_rfl) (by kernel_rfl) rfl rfl rfl (q_loadElY hrow rfl rfl rfl (by exact fun w hw => Stb.cl (by assumption) hw) (by intro hc; omega)) ?_
          refine aw_take 32 (fun w h => Cl.sel (by exact .take 0 rfl (.nil _)) w h) rfl (by kernel_rfl) (by kernel_rfl) (by kernel_rfl) (by kernel_rfl) (by kernel_rfl) (by kernel_rfl) rfl rfl rfl (q_indexRow rfl rfl rfl (fun w h => Stb.cl hsc h) rfl (fun _ => by omega)) ?_
          refine aw_take 33 (fun w h => Cl.sel (by exact .take 0 rfl (.nil _)) w h) rfl (by kernel_rfl) (by kernel_rfl) (by kernel_rfl) (by kernel_rfl) (by kernel_rfl) (by kernel_rfl) rfl rfl rfl (q_loadElY hcell rfl rfl rfl (fun w h => Stb.cl hsc h) (fun _ => by omega)) ?_
          refine aw_pure 34 rfl (by kernel_rfl) (by kernel_rfl) (by kernel_rfl) (by kernel_rfl) (by kernel_rfl) rfl rfl rfl (q_add rfl rfl rfl (by intro hc; (simp only [List.length_set, List.length_append, List.length_cons, List.length_nil, List.length_replicate, List.length_take, List.length_drop, List.length_map]; omega))) ?_
          refine aw_two 5 20 (by kernel_rfl) ?_ ?_
          · skip
            refine at_x 5 rfl rfl rfl rfl (e_box rfl rfl rfl) (by intro hb; exact fun _ => (fun w h => Cl.sel (by exact .take 1 rfl (.nil _)) w h)) (fun b90 => ?_)
            refine aw_x 20 (by kernel_rfl) rfl rfl rfl rfl (e_callH (A := [mpA K.bm m']) (F := _) (CanCall.mk Tryz.call105) rfl rfl (.cons rfl inferInstance (.cons rfl inferInstance (.nil))) (perm_del (i := 4) rfl) (fun w bs k1 k2 k3 k4 k5 => cost_spec K hK xu.length hxT u hu m' hmo' w bs k1 k2 k3 (k4 _ hR))) (by intro hb; exact fun _ w h => (fun w h => Cl.sel (by exact .take 2 rfl (.nil _)) w h) w h.2) (fun m2 => ?_)
            refine aw_imp fun hm2 => (aw_c (C' := Cl w bs (blk b15 [sq'.v] 146 :: ownL 144 sq'.v l' :: blk b9 (enc (⟨xp, xu, xc, xl⟩ : Itm)) 144 :: mpA K.bm m2 :: ownL 30 s7.v outs :: (outs.map sqA ++ (N'.map nodeA ++ [nodeA (b90, (xp, u))])))) (fun w' h => Cl.perm perm_one h) ?_)
            refine aw_pure 21 rfl (by kernel_rfl) (by kernel_rfl) (by kernel_rfl) (by kernel_rfl) (by kernel_rfl) rfl rfl rfl (q_add rfl rfl rfl (by intro hc; (simp only [List.length_set, List.length_append, List.length_cons, List.length_nil, List.length_replicate, List.length_take, List.length_drop, List.length_map]; omega))) ?_
            refine aw_pure 35 rfl (by kernel_rfl) (by kernel_rfl) (by kernel_rfl) (by kernel_rfl) (by kernel_rfl) rfl rfl rfl (q_build rfl (.cons rfl inferInstance (.cons rfl inferInstance (.cons rfl inferInstance (.cons rfl inferInstance (.nil))))) rfl) ?_
            refine aw_pure 36 rfl (by kernel_rfl) (by kernel_rfl) (by kernel_rfl) (by kernel_rfl) (by kernel_rfl) rfl rfl rfl (q_iface rfl rfl Tryz.underlying144 rfl) ?_
            have hlen1 : ((xu.length : Int) + 1) = (((xu ++ [u]).length : Nat) : Int) := by simp
            dsimp only
            rw [hlen1]
            have hkid : ItN (N' ++ [(b90, (xp, u))]) (l' ++ [K.t.kid ⟨xp, xu, xc, xl⟩ u (some ⟨b90, 0, none⟩)]) := by
              intro z hz
              rcases List.mem_append.1 hz with h1 | h1
              · exact chN_mono (fun e he => List.mem_append_left _ he) (hnd' z h1)
              · simp only [List.mem_singleton] at h1
                subst h1
                simp only [Tsk.kid, List.reverse_append, List.reverse_cons, List.reverse_nil, List.nil_append, List.singleton_append]
                exact ⟨b90, xp, rfl, by simp, chN_mono (fun e he => List.mem_append_left _ (hNN e he)) hxn⟩
            have hl'len : l'.length ≤ 500000000 + 2000 := by
              rw [hpm'.length_eq, List.length_append, List.length_zipWith, List.length_take]
              have := hpm.length_eq
              simp only [List.length_cons] at this
              omega
            have hlu' : ∀ z ∈ l' ++ [K.t.kid ⟨xp, xu, xc, xl⟩ u (some ⟨b90, 0, none⟩)], z.units.length ≤ 1000000 := by
              intro z hz
              rcases List.mem_append.1 hz with h1 | h1
              · rcases List.mem_append.1 (hpm'.mem_iff.1 h1) with h2 | h2
                · exact hlu z (hpm.mem_iff.2 (List.mem_cons_of_mem _ h2))
                · obtain ⟨u2, _, p2, rfl⟩ := kid_mem h2
                  simp [Tsk.kid]; omega
              · simp only [List.mem_singleton] at h1
                subst h1
                simp [Tsk.kid]; omega
            refine aw_x 37 (by kernel_rfl) rfl rfl rfl rfl (e_callH (A := [blk b15 [sq'.v] 146, ownL 144 sq'.v l']) (F := blk b9 (enc (⟨xp, xu, xc, xl⟩ : Itm)) 144 :: mpA K.bm m2 :: ownL 30 s7.v outs :: (outs.map sqA ++ (N'.map nodeA ++ [nodeA (b90, (xp, u))]))) (CanCall.mk Tryz.call110) rfl rfl (.cons rfl inferInstance (.cons rfl inferInstance (.nil))) (.refl _) (fun w bs k1 k2 k3 k4 k5 => hpush_spec b15 sq' l' (K.t.kid ⟨xp, xu, xc, xl⟩ u (some ⟨b90, 0, none⟩)) (by omega) hhp' w bs k1 k2 k3 (itN_ch (lend_nodes (N := N' ++ [(b90, (xp, u))]) k5 (fun e he => .tail _ (.tail _ (.tail _ (List.mem_append_right _ (nodes_mem he)))))) hkid hlu'))) (by intro hb; exact fun _ w h => (fun w h => Cl.sel (by exact .take 2 rfl (.nil _)) w h) w h.2) (fun y37 => ?_)
            refine aw_imp fun hy37 => ?_
            obtain ⟨sq3, l3⟩ := y37
            obtain ⟨hl3, hh3⟩ := hy37
            dsimp only at hl3 hh3 ⊢
            refine aw_end (by kernel_rfl) ?_
            refine post_blk (post_then (cw_region ?_))
            refine sr rfl rfl rfl ((q_add rfl rfl rfl (by intro hc; omega))) ?_
            refine sr rfl rfl rfl ((q_move rfl rfl)) (sw_nil ?_)
            refine post_next (j + 1, (ps ++ [some ⟨b90, 0, none⟩], ⟨sq3, l3, s7, outs, N' ++ [(b90, (xp, u))], m2⟩)) (by exact .cons rfl (.cons rfl (.cons rfl (.cons rfl (.cons rfl (.cons rfl (.cons rfl (.cons rfl (.cons rfl .nil))))))))) (fun w3 hw3 => ?_) ⟨by simp only; omega, by simp [hps], ?_, hh3, fun z hz => hkid z (hl3.mem_iff.1 hz), fun e he => List.mem_append_left _ (hNN e he), hm2⟩ (by simp only; omega)
            · simp only [List.map_append, List.map_cons, List.map_nil]
              exact Cl.perm (List.perm_middle (l₁ := [blk b15 [sq3.v] 146, ownL 144 sq3.v l3])) hw3
            · simp only
              rw [List.take_succ_eq_append_getElem hj', ← nth_get hj', hue, zip_snoc (by rw [List.length_take, hps]; omega), ← List.append_assoc]
              exact hl3.trans (hpm'.append_right _)
          · skip
            refine at_x 20 rfl rfl rfl rfl (e_callH (A := [mpA K.bm m']) (F := _) (CanCall.mk Tryz.call105) rfl rfl (.cons rfl inferInstance (.cons rfl inferInstance (.nil))) (perm_del (i := 3) rfl) (fun w bs k1 k2 k3 k4 k5 => cost_spec K hK xu.length hxT u hu m' hmo' w bs k1 k2 k3 (k4 _ hR))) (by intro hb; exact fun _ w h => (fun w h => Cl.sel (by exact .take 1 rfl (.nil _)) w h) w h.2) (fun m2 => ?_)
            refine aw_imp fun hm2 => ?_
            refine aw_pure 21 rfl (by kernel_rfl) (by kernel_rfl) (by kernel_rfl) (by kernel_rfl) (by kernel_rfl) rfl rfl rfl (q_add rfl rfl rfl (by intro hc; (simp only [List.length_set, List.length_append, List.length_cons, List.length_nil, List.length_replicate, List.length_take, List.length_drop, List.length_map]; omega))) ?_
            refine aw_x 5 (by kernel_rfl) rfl rfl rfl rfl (e_box rfl rfl rfl) (by intro hb; exact fun _ => (fun w h => Cl.sel (by exact .take 2 rfl (.nil _)) w h)) (fun b90 => ?_)
            refine aw_pure 35 rfl (by kernel_rfl) (by kernel_rfl) (by kernel_rfl) (by kernel_rfl) (by kernel_rfl) rfl rfl rfl (q_build rfl (.cons rfl inferInstance (.cons rfl inferInstance (.cons rfl inferInstance (.cons rfl inferInstance (.nil))))) rfl) ?_
            refine aw_pure 36 rfl (by kernel_rfl) (by kernel_rfl) (by kernel_rfl) (by kernel_rfl) (by kernel_rfl) rfl rfl rfl (q_iface rfl rfl Tryz.underlying144 rfl) ?_
            refine aw_c (C' := Cl w bs (blk b15 [sq'.v] 146 :: ownL 144 sq'.v l' :: blk b9 (enc (⟨xp, xu, xc, xl⟩ : Itm)) 144 :: mpA K.bm m2 :: ownL 30 s7.v outs :: (outs.map sqA ++ (N'.map nodeA ++ [nodeA (b90, (xp, u))])))) (fun w' h => Cl.perm perm_two h) ?_
            have hlen1 : ((xu.length : Int) + 1) = (((xu ++ [u]).length : Nat) : Int) := by simp
            dsimp only
            rw [hlen1]
            have hkid : ItN (N' ++ [(b90, (xp, u))]) (l' ++ [K.t.kid ⟨xp, xu, xc, xl⟩ u (some ⟨b90, 0, none⟩)]) := by
              intro z hz
              rcases List.mem_append.1 hz with h1 | h1
              · exact chN_mono (fun e he => List.mem_append_left _ he) (hnd' z h1)
              · simp only [List.mem_singleton] at h1
                subst h1
                simp only [Tsk.kid, List.reverse_append, List.reverse_cons, List.reverse_nil, List.nil_append, List.singleton_append]
                exact ⟨b90, xp, rfl, by simp, chN_mono (fun e he => List.mem_append_left _ (hNN e he)) hxn⟩
            have hl'len : l'.length ≤ 500000000 + 2000 := by
              rw [hpm'.length_eq, List.length_append, List.length_zipWith, List.length_take]
              have := hpm.length_eq
              simp only [List.length_cons] at this
              omega
            have hlu' : ∀ z ∈ l' ++ [K.t.kid ⟨xp, xu, xc, xl⟩ u (some ⟨b90, 0, none⟩)], z.units.length ≤ 1000000 := by
              intro z hz
              rcases List.mem_append.1 hz with h1 | h1
              · rcases List.mem_append.1 (hpm'.mem_iff.1 h1) with h2 | h2
                · exact hlu z (hpm.mem_iff.2 (List.mem_cons_of_mem _ h2))
                · obtain ⟨u2, _, p2, rfl⟩ := kid_mem h2
                  simp [Tsk.kid]; omega
              · simp only [List.mem_singleton] at h1
                subst h1
                simp [Tsk.kid]; omega
            refine aw_x 37 (by kernel_rfl) rfl rfl rfl rfl (e_callH (A := [blk b15 [sq'.v] 146, ownL 144 sq'.v l']) (F := blk b9 (enc (⟨xp, xu, xc, xl⟩ : Itm)) 144 :: mpA K.bm m2 :: ownL 30 s7.v outs :: (outs.map sqA ++ (N'.map nodeA ++ [nodeA (b90, (xp, u))]))) (CanCall.mk Tryz.call110) rfl rfl (.cons rfl inferInstance (.cons rfl inferInstance (.nil))) (.refl _) (fun w bs k1 k2 k3 k4 k5 => hpush_spec b15 sq' l' (K.t.kid ⟨xp, xu, xc, xl⟩ u (some ⟨b90, 0, none⟩)) (by omega) hhp' w bs k1 k2 k3 (itN_ch (lend_nodes (N := N' ++ [(b90, (xp, u))]) k5 (fun e he => .tail _ (.tail _ (.tail _ (List.mem_append_right _ (nodes_mem he)))))) hkid hlu'))) (by intro hb; exact fun _ w h => (fun w h => Cl.sel (by exact .take 2 rfl (.nil _)) w h) w h.2) (fun y37 => ?_)
            refine aw_imp fun hy37 => ?_
            obtain ⟨sq3, l3⟩ := y37
            obtain ⟨hl3, hh3⟩ := hy37
            dsimp only at hl3 hh3 ⊢
            refine aw_end (by kernel_rfl) ?_
            refine post_blk (post_then (cw_region ?_))
            refine sr rfl rfl rfl ((q_add rfl rfl rfl (by intro hc; omega))) ?_
            refine sr rfl rfl rfl ((q_move rfl rfl)) (sw_nil ?_)
            refine post_next (j + 1, (ps ++ [some ⟨b90, 0, none⟩], ⟨sq3, l3, s7, outs, N' ++ [(b90, (xp, u))], m2⟩)) (by exact .cons rfl (.cons rfl (.cons rfl (.cons rfl (.cons rfl (.cons rfl (.cons rfl (.cons rfl (.cons rfl .nil))))))))) (fun w3 hw3 => ?_) ⟨by simp only; omega, by simp [hps], ?_, hh3, fun z hz => hkid z (hl3.mem_iff.1 hz), fun e he => List.mem_append_left _ (hNN e he), hm2⟩ (by simp only; omega)
            · simp only [List.map_append, List.map_cons, List.map_nil]
              exact Cl.perm (List.perm_middle (l₁ := [blk b15 [sq3.v] 146, ownL 144 sq3.v l3])) hw3
            · simp only
              rw [List.take_succ_eq_append_getElem hj', ← nth_get hj', hue, zip_snoc (by rw [List.length_take, hps]; omega), ← List.append_assoc]
              exact hl3.trans (hpm'.append_right _)
      · skip
        have hj' : j = (K.U xu.length).length := by simp only [decide_eq_false_iff_not] at h3; omega
        subst hj'
        rw [List.take_length] at hpm'
        refine cw_exit (post_then_x (post_then_x (post_blk_eq (post_blk ?_))))
        refine post_next ⟨sq', l', s7, outs, N', m'⟩ (by exact .cons rfl (.cons rfl (.cons rfl (.cons rfl (.cons rfl .nil))))) (fun w3 hw3 => hw3.tail) ⟨hbf.grow hpm hxT hps hpm', hhp', hnd', hon, ?_, hmo'⟩ ?_
        · have h1 := Tsk.mu_grow K.t hpm hxT ps
          have h2 := Tsk.mu_perm K.t hpm'
          have h4 : K.t.mu l' < K.t.mu l := by rw [h2]; exact h1
          exact Nat.le_trans (Nat.le_of_lt h4) hmu
        · have h1 := Tsk.mu_grow K.t hpm hxT ps
          have h2 := Tsk.mu_perm K.t hpm'
          show K.t.mu l' < K.t.mu l
          rw [h2]; exact h1
  · skip
    have hend : l = [] ∨ outs.length = n := by
      by_cases h0 : l.length = 0
      · exact .inl (List.eq_nil_of_length_eq_zero h0)
      · simp only [h0, decide_false, Bool.not_false, Bool.true_and, decide_eq_false_iff_not] at h
        exact .inr (by omega)
    refine cw_exit (post_then_x (post_then_x (post_blk_eq (post_then (cw_seq (cw_region (sr rfl rfl rfl ((q_move rfl rfl)) (sr rfl rfl rfl ((q_assign rfl rfl)) (sw_nil (post_then (cw_ret (post_ret1 rfl (resOk_tmp rfl) ?_))))))))))))
    refine fun w' hw => ⟨⟨sq, l, s7, outs, N, m1⟩, rfl, ⟨⟨hbf, hhp, hnd, hon, hmu, hmo⟩, hend⟩, ?_⟩
    exact cl_drop (F := mpA K.bm m1 :: ownL 30 s7.v outs :: outs.map sqA) (G := N.map nodeA) hw.tail.tail
end Go.Proofs.YtomjbfeafodfbaaGreat

set_option autoImplicit false
set_option maxRecDepth 100000
namespace Go.Proofs.YtomjbfeafodfbaaGreat
open Go.Sx
open Enc (enc val)
def beginE (p : List Un) (tgt : List Wan) (x : Wts) : Int := if 2000 < p.length ∨ 500 < tgt.length then 4 else if voiceB p && tgt.all waB && wtB x then 0 else 2
theorem wa1_spec (tgt : List Wan) (ht : ∀ t ∈ tgt, WaRd t) : PredL Tryz.prog 104 #[] (fun t => !waB t) (fun _ => True) tgt := fun t htm w _ => by
  have h1 := ht t htm
  refine calls_cw (vs := [_]) Tryz.func104 rfl Tryz.ntmps104 rfl (Cl.start0 w) (cw_seq (cw_region ?_))
  refine sw_x rfl rfl rfl (e_box rfl rfl rfl) (fun b1 => ?_)
  refine sr rfl rfl rfl ((q_assign rfl rfl)) (sw_nil (post_then (cw_seq (cw_region ?_))))
  refine sr rfl rfl rfl ((q_loadA rfl rfl (by exact .head _) rfl)) ?_
  refine sw_step rfl rfl rfl (q_call (CanCall.mk Tryz.call88) rfl (.cons rfl inferInstance (.nil)) (fun _ w hw => callq hw (wanted_spec _ w h1))) (sr rfl rfl rfl ((q_not rfl rfl)) (sr rfl rfl rfl ((q_assign rfl rfl)) (sw_nil (post_then (cw_ret (post_ret1 rfl (resOk_tmp rfl) ?_))))))
  exact fun w' hw => ⟨rfl, (fun w h => Cl.sel (by exact .nil _) w h) _ hw⟩
abbrev gA (f : ByteArray → SlV) (p : List Un) (k : Nat) (c : ByteArray) : Asn := ownL 3 (f c).v (idxs p k c)
theorem key_out {f : ByteArray → SlV} {ks : List ByteArray} {p : List Un} {k : Nat} (a : ByteArray) (hnd : ks.Nodup) (hnil : ∀ c, c ∉ ks → f c = ⟨none, 0, 0⟩ ∧ idxs p k c = []) :
    ∃ ks' : List ByteArray, ks'.Nodup ∧ a ∉ ks' ∧ (∀ c, c ∈ ks → c = a ∨ c ∈ ks') ∧ ∀ {w0 : World} {fp : List Nat} {P : List Asn} {w' : World}, Cl w0 fp (P ++ ks.map (gA f p k)) w' → Cl w0 fp (gA f p k a :: (P ++ ks'.map (gA f p k))) w' := by
  by_cases ha : a ∈ ks
  · obtain ⟨s, t, rfl⟩ := List.append_of_mem ha
    have hp : (s ++ a :: t).Perm (a :: (s ++ t)) := List.perm_middle
    have hn2 := List.nodup_cons.1 (hp.nodup_iff.1 hnd)
    refine ⟨s ++ t, hn2.2, hn2.1, fun c hc => ?_, fun {w0 fp P w'} h => ?_⟩
    · rcases List.mem_cons.1 (hp.mem_iff.1 hc) with h | h
      · exact .inl h
      · exact .inr h
    · refine h.perm (((hp.map (gA f p k)).append_left P).trans ?_)
      rw [List.map_cons]
      exact List.perm_middle
  · refine ⟨ks, hnd, ha, fun c hc => .inr hc, fun {w0 fp P w'} h => ?_⟩
    have e : gA f p k a = ownL 3 (SlV.v ⟨none, 0, 0⟩) ([] : List Int) := by rw [gA, (hnil a ha).1, (hnil a ha).2]
    rw [e]
    exact h.addNil (α := Int) 3
theorem idxs_succ (p : List Un) (k : Nat) (c : ByteArray) : idxs p (k + 1) c = idxs p k c ++ (if (nth p k).phone = c then [(k : Int)] else []) := by
  simp only [idxs, List.range_succ, List.filter_append, List.map_append]
  congr 1
  by_cases h : (nth p k).phone = c
  · simp [h]
  · simp [h]
theorem idxs_len (p : List Un) (k : Nat) (c : ByteArray) : (idxs p k c).length ≤ k := by
  unfold idxs
  rw [List.length_map]
  exact Nat.le_trans (List.length_filter_le _ _) (by simp)
theorem begin_no (sp tp : SlV) (p : List Un) (tgt : List Wan) (x : Wts) (w : World) (hvo : VoRd w sp p) (htp : Stb w [] (RdL tp.v tgt)) (htg : ∀ t ∈ tgt, WaRd t) (hE : beginE p tgt x ≠ 0) : Calls Tryz.prog 64 #[sp.v, tp.v, val x] w fun e w' => e = .returned (.tuple #[.pointer none, .int .i64 (beginE p tgt x)]) ∧ Cl w [] [] w' := by
  have hsp := hvo.l
  have hL := rd_len hsp.here
  have hL2 := rd_len htp.here
  refine calls_cw (vs := [_, _, _]) Tryz.func64 rfl Tryz.ntmps64 rfl (Cl.start0 w) (cw_seq (cw_region ?_))
  refine sw_x rfl rfl rfl (e_box rfl rfl rfl) (fun b3 => ?_)
  refine sw_x rfl rfl rfl (e_box rfl rfl rfl) (fun b4 => ?_)
  refine sw_x rfl rfl rfl (e_box rfl rfl rfl) (fun b5 => ?_)
  refine sr rfl rfl rfl ((q_assign rfl rfl)) (sr rfl rfl rfl ((q_assign rfl rfl)) (sw_nil (post_then (cw_seq (cw_seq (cw_region ?_))))))
  refine sr rfl rfl rfl ((q_loadC rfl rfl (by exact .tail _ (.tail _ (.head _))) rfl)) ?_
  refine sr rfl rfl rfl ((q_len rfl (.cons rfl inferInstance (.nil)) (by exact fun w hw => Stb.cl (by assumption) hw))) ?_
  refine sr rfl rfl rfl ((q_gtr rfl rfl rfl)) (sr rfl rfl rfl ((q_move rfl rfl)) ?_)
  refine sr rfl rfl rfl ((q_loadC rfl rfl (by exact .tail _ (.head _)) rfl)) ?_
  refine sr rfl rfl rfl ((q_len rfl (.cons rfl inferInstance (.nil)) (by exact fun w hw => Stb.cl (by assumption) hw))) ?_
  refine sr rfl rfl rfl ((q_gtr rfl rfl rfl)) (sr rfl rfl rfl ((q_or2 rfl rfl rfl)) (sw_nil (post_then ?_)))
  refine cw_cond rfl (fun h => ?_) (fun h => ?_)
  · skip
    have h1 : 2000 < p.length ∨ 500 < tgt.length := by simp only [Bool.or_eq_true, decide_eq_true_eq] at h; omega
    refine cw_seq (cw_region (sr rfl rfl rfl ((q_assign rfl rfl)) (sr rfl rfl rfl ((q_assign rfl rfl)) (sw_nil (post_then (cw_ret (post_then_r (post_ret2 rfl (resOk_tmp rfl) (resOk_tmp rfl) ?_))))))))
    exact fun w' hw => ⟨by rw [beginE, if_pos h1], (fun w h => Cl.sel (by exact .nil _) w h) _ hw⟩
  · skip
    have h1 : ¬ (2000 < p.length ∨ 500 < tgt.length) := by simp only [Bool.or_eq_false_iff, decide_eq_false_iff_not] at h; omega
    refine cw_skip (post_then (cw_seq (cw_seq (cw_region ?_))))
    refine sr rfl rfl rfl ((q_loadC rfl rfl (by exact .tail _ (.tail _ (.head _))) rfl)) ?_
    refine sw_step rfl rfl rfl (q_call (CanCall.mk Tryz.call86) rfl (.cons rfl inferInstance (.nil)) (fun _ w hw => callq hw (voice_spec sp p w (hvo.arg hw)))) (sr rfl rfl rfl ((q_neq rfl rfl rfl)) (sr rfl rfl rfl ((q_move rfl rfl)) ?_))
    refine sr rfl rfl rfl ((q_loadC rfl rfl (by exact .tail _ (.head _)) rfl)) ?_
    refine sw_step rfl rfl rfl (q_call (CanCall.mk Tryz.call103) rfl (.cons rfl inferInstance (.cons rfl inferInstance (.nil))) (fun _ w hw => callq hw (containsWan_spec _ _ _ _ _ _ w (by exact stb_arg hw (by assumption)) (stb_true w []) (CanCall.mk Tryz.call104) (wa1_spec tgt htg)))) ?_
    refine sr rfl rfl rfl ((q_or2 rfl rfl rfl)) (sr rfl rfl rfl ((q_move rfl rfl)) ?_)
    refine sr rfl rfl rfl ((q_loadA rfl rfl (by exact .head _) rfl)) ?_
    refine sw_step rfl rfl rfl (q_call (CanCall.mk Tryz.call89) rfl (.cons rfl inferInstance (.nil)) (fun _ w hw => callq hw (weights_spec _ w))) (sr rfl rfl rfl ((q_not rfl rfl)) (sr rfl rfl rfl ((q_or2 rfl rfl rfl)) (sw_nil (post_then ?_))))
    refine cw_cond rfl (fun h2 => ?_) (fun h2 => ?_)
    · skip
      have h3 : (voiceB p && tgt.all waB && wtB x) = false := by
        rw [Bool.eq_false_iff]; intro hc
        simp only [Bool.and_eq_true] at hc
        have e1 : voiceE p = 0 := by rw [voiceE, if_neg (by omega), hc.1.1]; rfl
        have e2 : (tgt.any fun t => !waB t) = false := by rw [← List.not_all_eq_any_not, hc.1.2]; rfl
        simp [e1, e2, hc.2] at h2
      refine cw_seq (cw_region (sr rfl rfl rfl ((q_assign rfl rfl)) (sr rfl rfl rfl ((q_assign rfl rfl)) (sw_nil (post_then (cw_ret (post_then_r (post_ret2 rfl (resOk_tmp rfl) (resOk_tmp rfl) ?_))))))))
      exact fun w' hw => ⟨by rw [beginE, if_neg h1, h3]; rfl, (fun w h => Cl.sel (by exact .nil _) w h) _ hw⟩
    · skip
      exfalso
      apply hE
      simp only [Bool.or_eq_false_iff, Bool.not_eq_false', decide_eq_true_eq] at h2
      have e1 : voiceB p = true := by
        have h4 := h2.1.1
        rw [voiceE, if_neg (by omega)] at h4
        cases h5 : voiceB p
        · rw [h5] at h4; cases h4
        · rfl
      have e2 : tgt.all waB = true := by
        have h4 := h2.1.2
        rw [← List.not_all_eq_any_not] at h4
        simpa using h4
      rw [beginE, if_neg h1, e1, e2, h2.2]; rfl
end Go.Proofs.YtomjbfeafodfbaaGreat
