import Derived.Test.YtekikelejncgeaaD
import Derived.Test.YtekikelejncgeaaSxSlice
import Derived.Test.YtekikelejncgeaaSxMap
set_option autoImplicit false
set_option linter.unusedSimpArgs false
set_option linter.unusedVariables false
set_option maxRecDepth 100000
namespace Go.Proofs.Ytekikelejncgeaa
open Go.Sx
open Enc (enc val)

/-! ### sums of signs -/
def waysTo (x : List Int) : Nat → Int → Int
  | 0, s => if s = 0 then 1 else 0
  | k + 1, s => waysTo x k (s - nth x k) + waysTo x k (s + nth x k)
theorem waysTo_bd (x : List Int) : ∀ (k : Nat) (s : Int), 0 ≤ waysTo x k s ∧ waysTo x k s ≤ 2 ^ k
  | 0, s => by simp only [waysTo]; split <;> simp
  | k + 1, s => by
    have h1 := waysTo_bd x k (s - nth x k)
    have h2 := waysTo_bd x k (s + nth x k)
    simp only [waysTo, Int.pow_succ]
    omega
theorem two_pow_le {k m : Nat} (h : k ≤ m) : (2 : Int) ^ k ≤ 2 ^ m := by
  have := Nat.pow_le_pow_right (n := 2) (by decide) h
  exact_mod_cast this
/-- What entries bring to the sum s. -/
def ctr (v : Int) : Ents Int Int → Int → Int
  | [], _ => 0
  | e :: L, s => ((if e.1 + v = s then e.2.1 else 0) + (if e.1 - v = s then e.2.1 else 0)) + ctr v L s
theorem ctr_perm (v s : Int) {L L' : Ents Int Int} (h : L.Perm L') : ctr v L s = ctr v L' s := by
  induction h with
  | nil => rfl
  | cons e _ ih => simp only [ctr, ih]
  | swap e e' L => simp only [ctr]; omega
  | trans _ _ h1 h2 => exact h1.trans h2
theorem ctr_nn (v s : Int) : ∀ {L : Ents Int Int}, (∀ e ∈ L, 0 ≤ e.2.1) → 0 ≤ ctr v L s
  | [], _ => by simp [ctr]
  | e :: L, h => by
    have h1 := h e (by simp)
    have h2 := ctr_nn v s (L := L) fun e he => h e (by simp [he])
    simp only [ctr]
    split <;> split <;> omega
theorem getZ_out {l : List (Int × Int)} {k : Int} (h : k ∉ l.map (·.1)) : getZ 0 l k = 0 := by simp [getZ, get?_none.2 h]
theorem ctr_all (v s : Int) : ∀ {L : Ents Int Int}, (L.map (·.1)).Nodup → ctr v L s = getZ 0 (kvs L) (s - v) + getZ 0 (kvs L) (s + v)
  | [], _ => by simp [ctr, getZ, kvs, get?]
  | e :: L, h => by
    simp only [List.map_cons, List.nodup_cons] at h
    have ih := ctr_all v s h.2
    have ho : getZ 0 (kvs L) e.1 = 0 := getZ_out (by rw [kvs_keys]; exact h.1)
    have e1 : getZ 0 (kvs (e :: L)) (s - v) = (if e.1 = s - v then e.2.1 else 0) + getZ 0 (kvs L) (s - v) := by
      by_cases hh : e.1 = s - v
      · rw [← hh, ho]; simp [getZ, kvs, get?]
      · simp [getZ, kvs, get?, hh]
    have e2 : getZ 0 (kvs (e :: L)) (s + v) = (if e.1 = s + v then e.2.1 else 0) + getZ 0 (kvs L) (s + v) := by
      by_cases hh : e.1 = s + v
      · rw [← hh, ho]; simp [getZ, kvs, get?]
      · simp [getZ, kvs, get?, hh]
    have f1 : (e.1 + v = s) ↔ (e.1 = s - v) := by omega
    have f2 : (e.1 - v = s) ↔ (e.1 = s + v) := by omega
    simp only [ctr, ih, e1, e2, f1, f2]
    omega
structure SumOk (x : List Int) (k : Nat) (l : List (Int × Int)) : Prop where
  get : ∀ s, getZ 0 l s = waysTo x k s
  keys : ∀ s ∈ l.map (·.1), -(1000000000 * (k : Int)) ≤ s ∧ s ≤ 1000000000 * k
  size : l.length ≤ 2 ^ k
theorem SumOk.ent {x : List Int} {k : Nat} {es : Ents Int Int} {clock : Nat} (h : SumOk x k (kvs es)) (ok : EntsOk es clock) {e : Int × Int × Nat} (he : e ∈ es) :
    0 ≤ e.2.1 ∧ e.2.1 ≤ 2 ^ k ∧ -(1000000000 * (k : Int)) ≤ e.1 ∧ e.1 ≤ 1000000000 * k := by
  have hm : (e.1, e.2.1) ∈ kvs es := List.mem_map.2 ⟨e, he, rfl⟩
  have hn : ((kvs es).map (·.1)).Nodup := by rw [kvs_keys]; exact ok.keys
  have h1 := (get?_mem hn).2 hm
  have h2 := h.get e.1
  have h3 := waysTo_bd x k e.1
  have h4 := h.keys e.1 (List.mem_map.2 ⟨_, hm, rfl⟩)
  simp only [getZ, h1, Option.getD_some] at h2
  omega
theorem sums_step {ln : List (Int × Int)} {n v c s : Int} :
    getZ 0 (upd (upd ln (n + v) (getZ 0 ln (n + v) + c)) (n - v) (getZ 0 (upd ln (n + v) (getZ 0 ln (n + v) + c)) (n - v) + c)) s = getZ 0 ln s + ((if n + v = s then c else 0) + (if n - v = s then c else 0)) := by
  simp only [getZ_upd]
  by_cases h1 : s = n - v
  · subst h1
    by_cases h2 : n + v = n - v
    · rw [if_pos rfl, if_pos h2.symm, if_pos h2, if_pos rfl, h2]; omega
    · rw [if_pos rfl, if_neg (fun e => h2 e.symm), if_neg h2, if_pos rfl]; omega
  · have h1' : ¬ n - v = s := fun e => h1 e.symm
    by_cases h2 : s = n + v
    · subst h2; simp only [if_neg h1, if_neg h1', if_true]; omega
    · have h2' : ¬ n + v = s := fun e => h2 e.symm
      simp only [if_neg h1, if_neg h1', if_neg h2, if_neg h2']; omega

theorem sums_spec (sx : SlV) (x : List Int) (w : World) (hx : Stb w [] (RdL sx.v x)) (hl : x.length ≤ 40) (hv : ∀ k, -1000000000 ≤ nth x k ∧ nth x k ≤ 1000000000) :
    Calls Try.prog 93 #[sx.v] w fun e w' => ∃ y : Nat × List (Int × Int), e = .returned (.map (some y.1)) ∧ SumOk x x.length y.2 ∧ Cl w [] [mpA y.1 y.2] w' := by
  refine calls_cw (vs := [_]) Try.func93 rfl Try.ntmps93 rfl (Cl.start0 w) ?_
  refine cw_seq ?_
  -- region 0
  refine cw_region ?_
  refine sw_step rfl rfl rfl (OpR.q (q_assign rfl rfl)) ?_
  refine sw_nil ?_
  refine post_then ?_
  refine cw_seq ?_
  -- region 1
  refine cw_region ?_
  refine sw_x rfl rfl rfl (e_makeMap (κ := Int) (ν := Int) rfl) (fun b9 => ?_)
  refine sw_eff0 rfl rfl (e_mapUpdate (κ := Int) (ν := Int) (i := 0) (.inr rfl) rfl rfl rfl rfl) ?_
  refine sw_step rfl rfl rfl (OpR.q (q_move rfl rfl)) ?_
  refine sw_step rfl rfl rfl (OpR.q (q_assign rfl rfl)) ?_
  refine sw_nil ?_
  refine post_then ?_
  refine cw_seq ?_
  refine cw_seq ?_
  -- region 2
  refine cw_region ?_
  refine sw_step rfl rfl rfl (OpR.q (q_move rfl rfl)) ?_
  refine sw_step rfl rfl rfl (OpR.q (q_len rfl (.cons rfl inferInstance (.nil)) (by exact fun w hw => Stb.cl (by assumption) hw))) ?_
  refine sw_step rfl rfl rfl (OpR.q (q_move rfl rfl)) ?_
  refine sw_nil ?_
  refine post_then ?_
  refine cw_block ?_
  -- STOP at: loop
  refine cw_loop (S := Nat × Nat × List (Int × Int)) (fun y => [(3, [], .map (some y.2.1)), (11, [], sx.v), (12, [], .int .i64 x.length), (13, [], .int .i64 y.1)]) (fun y => Cl w [] [mpA y.2.1 y.2.2]) (fun y => y.1 ≤ x.length ∧ SumOk x y.1 y.2.2) (fun y => x.length - y.1) (0, b9, [(0, 1)]) ⟨by omega, ⟨fun s => ?_, by simp, by simp⟩⟩ (by exact .cons rfl (.cons rfl (.cons rfl (.cons rfl .nil)))) (fun _ h => h) ?_
  · by_cases h : s = 0
    · simp [getZ, get?, waysTo, h]
    · have : ¬ 0 = s := fun e => h e.symm
      simp [getZ, get?, waysTo, h, this]
  rintro ⟨k, b, l⟩ ⟨hk, hs⟩
  dsimp only at hk hs ⊢
  refine cw_seq ?_
  -- region 3
  refine cw_region ?_
  refine sw_step rfl rfl rfl (OpR.q (q_lss rfl rfl rfl)) ?_
  refine sw_nil ?_
  refine post_then ?_
  refine cw_seq ?_
  -- STOP at: cond
  refine cw_cond rfl (fun h => ?_) (fun h => ?_)
  · skip
    have hk' : k < x.length := by simp at h; omega
    have hvk := hv k
    have hp : (2 : Int) ^ (k + 1) ≤ 2 ^ 40 := two_pow_le (by omega)
    refine cw_skip ?_
    refine post_then ?_
    refine cw_seq ?_
    refine cw_block ?_
    refine cw_seq ?_
    -- region 4
    refine cw_region ?_
    refine sw_step rfl rfl rfl (OpR.q (q_indexN rfl rfl rfl (by exact fun w hw => Stb.cl (by assumption) hw) (by intro hc; omega))) ?_
    refine sw_step rfl rfl rfl (OpR.q (q_loadEl rfl rfl rfl (by exact fun w hw => Stb.cl (by assumption) hw) (by intro hc; omega))) ?_
    refine sw_step rfl rfl rfl (OpR.q (q_assign rfl rfl)) ?_
    refine sw_nil ?_
    refine post_then ?_
    refine cw_seq ?_
    -- region 5
    refine cw_region ?_
    refine sw_x rfl rfl rfl (e_makeMap (κ := Int) (ν := Int) rfl) (fun b17 => ?_)
    refine sw_step rfl rfl rfl (OpR.q (q_assign rfl rfl)) ?_
    refine sw_nil ?_
    refine post_then ?_
    refine cw_seq ?_
    refine cw_seq ?_
    -- region 6
    refine cw_region ?_
    refine sw_step rfl rfl rfl (OpR.q (q_move rfl rfl)) ?_
    -- STOP at: t19  := range 124 t18 :0
    refine sw_le (cl_open (i := 1) rfl) ?_
    refine sw_ex fun es => sw_ex fun clock => sw_imp fun hok => ?_
    obtain ⟨ok, rfl⟩ := hok
    refine sw_x rfl rfl rfl (e_range (es := es) rfl rfl (by exact fun w hw => cl_obj_at (i := 1) rfl hw)) (fun r19 => ?_)
    refine sw_nil ?_
    refine post_then ?_
    refine cw_block ?_
    -- STOP at: loop
    refine cw_loop (S := Array Nat × List (Int × Int)) (fun y => [(5, [], .int .i64 (nth x k)), (6, [], .map (some b17)), (19, [], .pointer (some ⟨r19, 0, none⟩)), (11, [], sx.v), (12, [], .int .i64 x.length), (13, [], .int .i64 k)]) (fun y => Cl w [] [obj r19 (itO b clock y.1), mpA b17 y.2, obj b (mapO es clock)])
      (fun y => (∀ s, getZ 0 y.2 s + ctr (nth x k) (left es y.1) s = waysTo x (k + 1) s ∧ 0 ≤ getZ 0 y.2 s) ∧ (∀ s ∈ y.2.map (·.1), -(1000000000 * ((k + 1 : Nat) : Int)) ≤ s ∧ s ≤ 1000000000 * (k + 1 : Nat)) ∧ y.2.length + 2 * (left es y.1).length ≤ 2 * es.length) (fun y => (left es y.1).length) (#[], []) ⟨fun s => ?_, by simp, by simp [left_nil]⟩ (by exact .cons rfl (.cons rfl (.cons rfl (.cons rfl (.cons rfl (.cons rfl .nil)))))) (fun w h => Cl.sel (by exact .take 0 rfl (.take 0 rfl (.take 0 rfl (.nil _)))) w h) ?_
    · rw [left_nil, ctr_all _ _ ok.keys, hs.get, hs.get]
      simp [getZ, get?, waysTo]
    rintro ⟨seen, ln⟩ ⟨hg, hb, hsz⟩
    dsimp only at hg hb hsz ⊢
    refine cw_seq ?_
    -- region 7
    refine cw_region ?_
    -- STOP at: t20  := next t19 false :0
    refine sw_x rfl rfl rfl (e_next (i := 0) rfl rfl rfl ok (by exact fun w hw => cl_obj_at (i := 2) rfl hw)) (fun y20 => ?_)
    refine sw_step rfl rfl rfl (OpR.q (q_extract rfl rfl (nextV_0 _))) ?_
    refine sw_nil ?_
    refine post_then ?_
    refine cw_seq ?_
    -- STOP at: cond
    refine cw_cond rfl (fun h2 => ?_) (fun h2 => ?_)
    · skip
      obtain ⟨e, rfl⟩ := Option.isSome_iff_exists.1 h2
      refine cw_next_some fun he => ?_
      have hes : e ∈ es := (List.mem_filter.1 he).1
      obtain ⟨e1, e2, e3, e4⟩ := hs.ent ok hes
      have hperm := left_perm ok he
      have hlen := hperm.length_eq
      have hctr : ∀ s, ctr (nth x k) (left es seen) s = ((if e.1 + nth x k = s then e.2.1 else 0) + (if e.1 - nth x k = s then e.2.1 else 0)) + ctr (nth x k) (left es (seen.push e.2.2)) s := fun s => ctr_perm _ s hperm
      have hnn : ∀ s, 0 ≤ ctr (nth x k) (left es (seen.push e.2.2)) s := fun s => ctr_nn _ _ fun e' he' => (hs.ent ok (List.mem_filter.1 he').1).1
      have hpk : (2 : Int) ^ k ≤ 2 ^ 40 := two_pow_le (by omega)
      obtain ⟨g1, p1⟩ := hg (e.1 + nth x k)
      obtain ⟨g2, p2⟩ := hg (e.1 - nth x k)
      rw [hctr] at g1 g2
      have n1 := hnn (e.1 + nth x k)
      have n2 := hnn (e.1 - nth x k)
      have w1 := waysTo_bd x (k + 1) (e.1 + nth x k)
      have w2 := waysTo_bd x (k + 1) (e.1 - nth x k)
      rw [if_pos rfl] at g1
      rw [if_pos (rfl : e.1 - nth x k = e.1 - nth x k)] at g2
      have b0 : 0 ≤ (if e.1 - nth x k = e.1 + nth x k then e.2.1 else 0) := by split <;> omega
      have b1 : 0 ≤ (if e.1 + nth x k = e.1 - nth x k then e.2.1 else 0) := by split <;> omega
      have b2 : getZ 0 (upd ln (e.1 + nth x k) (getZ 0 ln (e.1 + nth x k) + e.2.1)) (e.1 - nth x k) = getZ 0 ln (e.1 - nth x k) + (if e.1 + nth x k = e.1 - nth x k then e.2.1 else 0) := by
        rw [getZ_upd]
        by_cases hh : e.1 - nth x k = e.1 + nth x k
        · rw [if_pos hh, if_pos hh.symm, hh]
        · rw [if_neg hh, if_neg (fun q => hh q.symm)]; omega
      refine cw_skip ?_
      refine post_then ?_
      refine cw_block ?_
      refine cw_seq ?_
      -- region 8
      refine cw_region ?_
      -- STOP at: t22  := entry t19 :0
      refine sw_step rfl rfl rfl (OpR.q (q_entry rfl rfl (.head _) ok hes (by exact fun w hw => cl_obj_at (i := 2) rfl hw))) ?_
      refine sw_step rfl rfl rfl (OpR.q (q_extract rfl rfl rfl)) ?_
      refine sw_step rfl rfl rfl (OpR.q (q_extract rfl rfl rfl)) ?_
      refine sw_step rfl rfl rfl (OpR.q (q_assign rfl rfl)) ?_
      refine sw_step rfl rfl rfl (OpR.q (q_assign rfl rfl)) ?_
      refine sw_nil ?_
      refine post_then ?_
      refine cw_seq ?_
      -- region 9
      refine cw_region ?_
      refine sw_step rfl rfl rfl (OpR.q (q_move rfl rfl)) ?_
      refine sw_step rfl rfl rfl (OpR.q (q_move rfl rfl)) ?_
      refine sw_step rfl rfl rfl (OpR.q (q_move rfl rfl)) ?_
      refine sw_step rfl rfl rfl (OpR.q (q_add rfl rfl rfl (by intro hc; omega))) ?_
      refine sw_step rfl rfl rfl (OpR.q (q_lookup (κ := Int) (ν := Int) rfl rfl rfl (by exact fun w hw => rdm_own hw (by exact .tail _ (.head _))))) ?_
      refine sw_step rfl rfl rfl (OpR.q (q_move rfl rfl)) ?_
      refine sw_step rfl rfl rfl (OpR.q (q_add rfl rfl rfl (by intro hc; omega))) ?_
      refine sw_eff0 rfl rfl (e_mapUpdate (κ := Int) (ν := Int) (i := 1) (.inl rfl) rfl rfl rfl rfl) ?_
      refine sw_nil ?_
      refine post_then ?_
      -- region 10
      refine cw_region ?_
      refine sw_step rfl rfl rfl (OpR.q (q_move rfl rfl)) ?_
      refine sw_step rfl rfl rfl (OpR.q (q_move rfl rfl)) ?_
      refine sw_step rfl rfl rfl (OpR.q (q_move rfl rfl)) ?_
      refine sw_step rfl rfl rfl (OpR.q (q_sub rfl rfl rfl (by intro hc; omega))) ?_
      refine sw_step rfl rfl rfl (OpR.q (q_lookup (κ := Int) (ν := Int) rfl rfl rfl (by exact fun w hw => rdm_own hw (by exact .tail _ (.head _))))) ?_
      refine sw_step rfl rfl rfl (OpR.q (q_move rfl rfl)) ?_
      refine sw_step rfl rfl rfl (OpR.q (q_add rfl rfl rfl (by intro hc; omega))) ?_
      refine sw_eff0 rfl rfl (e_mapUpdate (κ := Int) (ν := Int) (i := 1) (.inl rfl) rfl rfl rfl rfl) ?_
      refine sw_nil ?_
      refine post_blk ?_
      refine post_next (seen.push e.2.2, upd (upd ln (e.1 + nth x k) (getZ 0 ln (e.1 + nth x k) + e.2.1)) (e.1 - nth x k) (getZ 0 (upd ln (e.1 + nth x k) (getZ 0 ln (e.1 + nth x k) + e.2.1)) (e.1 - nth x k) + e.2.1)) (by exact .cons rfl (.cons rfl (.cons rfl (.cons rfl (.cons rfl (.cons rfl .nil)))))) (fun w h => Cl.sel (by exact .take 0 rfl (.take 0 rfl (.take 0 rfl (.nil _)))) w h) ⟨fun s => ?_, fun s hs' => ?_, ?_⟩ ?_
      · obtain ⟨g, p⟩ := hg s
        rw [hctr] at g
        simp only [sums_step]
        refine ⟨by omega, ?_⟩
        split <;> split <;> omega
      · simp only [upd_keys] at hs'
        rcases hs' with rfl | rfl | hs'
        · omega
        · omega
        · exact hb s hs'
      · have u1 := upd_len (e.1 + nth x k) (getZ 0 ln (e.1 + nth x k) + e.2.1) ln
        have u2 := upd_len (e.1 - nth x k) (getZ 0 (upd ln (e.1 + nth x k) (getZ 0 ln (e.1 + nth x k) + e.2.1)) (e.1 - nth x k) + e.2.1) (upd ln (e.1 + nth x k) (getZ 0 ln (e.1 + nth x k) + e.2.1))
        simp only [List.length_cons] at hlen ⊢
        omega
      · simp only [List.length_cons] at hlen ⊢
        omega
    · skip
      have hn : y20 = none := by cases y20 <;> simp_all
      subst hn
      refine cw_next_none fun hl0 => ?_
      refine cw_exit ?_
      refine post_then_x ?_
      refine post_then_x ?_
      refine post_blk_eq ?_
      refine post_then ?_
      -- region 11
      refine cw_region ?_
      refine sw_step rfl rfl rfl (OpR.q (q_move rfl rfl)) ?_
      refine sw_step rfl rfl rfl (OpR.q (q_assign rfl rfl)) ?_
      refine sw_nil ?_
      refine post_blk ?_
      refine post_then ?_
      -- region 12
      refine cw_region ?_
      refine sw_step rfl rfl rfl (OpR.q (q_add rfl rfl rfl (by intro hc; omega))) ?_
      refine sw_step rfl rfl rfl (OpR.q (q_move rfl rfl)) ?_
      refine sw_nil ?_
      refine post_next (k + 1, b17, ln) (by exact .cons rfl (.cons rfl (.cons rfl (.cons rfl .nil)))) (fun w h => Cl.sel (by exact .take 1 rfl (.nil _)) w h) ⟨by simp only; omega, ⟨fun s => ?_, hb, ?_⟩⟩ (by simp only; omega)
      · have := hg s
        rw [hl0] at this
        simpa [ctr] using this.1
      · have h8 := hs.size
        rw [hl0] at hsz
        simp only [kvs, List.length_map, List.length_nil, Nat.pow_succ] at h8 hsz ⊢
        omega
  · skip
    have hk' : k = x.length := by simp at h; omega
    subst hk'
    refine cw_exit ?_
    refine post_then_x ?_
    refine post_then_x ?_
    refine post_blk_eq ?_
    refine post_then ?_
    refine cw_seq ?_
    -- region 13
    refine cw_region ?_
    refine sw_step rfl rfl rfl (OpR.q (q_move rfl rfl)) ?_
    refine sw_step rfl rfl rfl (OpR.q (q_assign rfl rfl)) ?_
    refine sw_nil ?_
    refine post_then ?_
    refine cw_ret ?_
    refine post_ret1 rfl (resOk_tmp rfl) ?_
    exact fun w' hw => ⟨(b, l), rfl, hs, hw⟩
end Go.Proofs.Ytekikelejncgeaa
