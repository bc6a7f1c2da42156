import Derived.Test.YtekikelejncgeaaUM
set_option autoImplicit false
set_option linter.unusedSimpArgs false
set_option linter.unusedVariables false
set_option maxRecDepth 100000
namespace Go.Proofs.Ytekikelejncgeaa
open Go.Sx
open Enc (enc val)

def BlkOk (cv : Int → Int → Int) (u : List Int) (n s : Nat) : Prop := ∀ x, s ∣ x → SrtC cv u x (min (x + s) n)
/-- While blocks of s become blocks of 2 s: up to a. -/
structure Half (cv : Int → Int → Int) (u : List Int) (n s a : Nat) : Prop where
  dvd : 2 * s ∣ a
  le : a ≤ n
  done : ∀ x, 2 * s ∣ x → x < a → SrtC cv u x (x + 2 * s)
  todo : ∀ x, s ∣ x → a ≤ x → SrtC cv u x (min (x + s) n)
theorem dvd_gap {d x a : Nat} (h1 : d ∣ x) (h2 : d ∣ a) (h : x < a) : x + d ≤ a := by
  have h3 : d ∣ a - x := Nat.dvd_sub h2 h1
  have := Nat.le_of_dvd (by omega) h3
  omega
theorem dvd_half {s a : Nat} (h : 2 * s ∣ a) : s ∣ a := Nat.dvd_trans (Nat.dvd_mul_left s 2) h
theorem half_start {cv : Int → Int → Int} {u : List Int} {n s : Nat} (h : BlkOk cv u n s) : Half cv u n s 0 := ⟨Nat.dvd_zero _, Nat.zero_le _, fun x _ h => by omega, fun x hx _ => h x hx⟩
theorem half_runs {cv : Int → Int → Int} {u : List Int} {n s a : Nat} (h : Half cv u n s a) : SrtC cv u a (min (a + s) n) ∧ SrtC cv u (a + s) (min (a + s + s) n) :=
  ⟨h.todo a (dvd_half h.dvd) (Nat.le_refl _), h.todo (a + s) (Nat.dvd_add (dvd_half h.dvd) (Nat.dvd_refl _)) (by omega)⟩
theorem half_step {cv : Int → Int → Int} {u v : List Int} {n s a : Nat} (hs : 1 ≤ s) (h : Half cv u n s a) (hb : a + 2 * s ≤ n) (hm : Mix u v a (a + 2 * s)) (hv : SrtC cv v a (a + 2 * s)) : Half cv v n s (a + 2 * s) := by
  refine ⟨Nat.dvd_add h.dvd (Nat.dvd_refl _), hb, fun x hx hxa => ?_, fun x hx hxa => ?_⟩
  · by_cases e : x < a
    · exact srt_out hm (.inr (dvd_gap hx h.dvd e)) (h.done x hx e)
    · by_cases e2 : x = a
      · rw [e2]; exact hv
      · have := dvd_gap h.dvd hx (by omega); omega
  · exact srt_out hm (.inl hxa) (h.todo x hx (by omega))
theorem half_end {cv : Int → Int → Int} {u v : List Int} {n s a : Nat} (h : Half cv u n s a) (hb : n < a + 2 * s) (hm : Mix u v a n) (hv : SrtC cv v a n) : BlkOk cv v n (2 * s) := by
  intro x hx
  have hle := h.le
  by_cases e : x < a
  · have h1 := dvd_gap hx h.dvd e
    rw [Nat.min_eq_left (by omega)]
    exact srt_out hm (.inr h1) (h.done x hx e)
  · by_cases e2 : x = a
    · rw [e2, Nat.min_eq_right (by omega)]; exact hv
    · have := dvd_gap h.dvd hx (by omega)
      intro p q h1 h2 h3; omega
theorem stableG_spec (sv : SlV) (l : List Int) (g : FuncId) (cap : Array Value) (dom : Int → Prop) (cv : Int → Int → Int) (R : World → Prop) (hgc : CanCall Try.prog g) (hg : CmpF Try.prog g cap dom cv R) (ho : PreO dom cv) (hd : ∀ k, k < l.length → dom (nth l k))
    (hl : l.length ≤ 1000) (w : World) (bs : List Nat) (hs : Sep [ownL 3 sv.v l] w bs) (hn : bs.Nodup) (hlt : ∀ b ∈ bs, b < w.heap.size) (hR : Stb w bs R) :
    Calls Try.prog 86 #[sv.v, .int .i64 l.length, .func (.func g) #[] cap] w fun e w' => ∃ l' : List Int, e = .returned (.tuple #[]) ∧ (l'.Perm l ∧ SrtC cv l' 0 l.length) ∧ Cl w bs [ownL 3 sv.v l'] w' := by
  refine calls_cw (vs := [_, _, _]) Try.func86 rfl Try.ntmps86 rfl (Cl.start hs hn hlt) ?_
  refine cw_seq ?_
  -- region 0
  refine cw_region ?_
  refine sw_step rfl rfl rfl (OpR.q (q_assign rfl rfl)) ?_
  refine sw_nil ?_
  refine post_then ?_
  refine cw_seq ?_
  -- region 1
  refine cw_region ?_
  refine sw_step rfl rfl rfl (OpR.q (q_move rfl rfl)) ?_
  refine sw_step rfl rfl rfl (OpR.q (q_assign rfl rfl)) ?_
  refine sw_step rfl rfl rfl (OpR.q (q_assign rfl rfl)) ?_
  refine sw_nil ?_
  refine post_then ?_
  refine cw_seq ?_
  refine cw_block ?_
  -- STOP at: loop
  refine cw_loop (S := Nat × List Int) (fun y => [(0, [], sv.v), (1, [], .int .i64 l.length), (2, [], .func (.func g) #[] cap), (6, [], .int .i64 20), (7, [], .int .i64 y.1), (8, [], .int .i64 ((y.1 : Int) + 20))]) (fun y => Cl w bs [ownL 3 sv.v y.2]) (fun y => y.1 ≤ l.length ∧ 20 ∣ y.1 ∧ Mix l y.2 0 l.length ∧ ∀ x, 20 ∣ x → x < y.1 → SrtC cv y.2 x (x + 20)) (fun y => l.length - y.1) (0, l) ⟨Nat.zero_le _, by simp, .refl _ _ _, fun x _ h => by simp only at h; omega⟩ (by (repeat first | exact Le.nil | refine Le.cons rfl ?_ | refine Le.cons' rfl (by congr 1; first | omega | (simp only; omega)) ?_)) (fun _ h => h) ?_
  rintro ⟨a, u⟩ ⟨ha, hda, hu, hdone⟩
  dsimp only at ha hda hu hdone ⊢
  have hul := hu.len
  have hud := hu.dom hd
  refine cw_seq ?_
  refine cw_seq ?_
  -- region 2
  refine cw_region ?_
  refine sw_step rfl rfl rfl (OpR.q (q_move rfl rfl)) ?_
  refine sw_step rfl rfl rfl (OpR.q (q_move rfl rfl)) ?_
  refine sw_step rfl rfl rfl (OpR.q (q_leq rfl rfl rfl)) ?_
  refine sw_nil ?_
  refine post_then ?_
  -- STOP at: cond
  refine cw_cond rfl (fun h => ?_) (fun h => ?_)
  · skip
    have hab : a + 20 ≤ l.length := by simp only [decide_eq_true_eq] at h; omega
    refine cw_skip ?_
    refine post_then ?_
    refine cw_block ?_
    refine cw_seq ?_
    -- region 3
    refine cw_region ?_
    refine sw_step rfl rfl rfl (OpR.q (q_move rfl rfl)) ?_
    refine sw_step rfl rfl rfl (OpR.q (q_move rfl rfl)) ?_
    refine sw_step rfl rfl rfl (OpR.q (q_move rfl rfl)) ?_
    refine sw_step rfl rfl rfl (OpR.q (q_move rfl rfl)) ?_
    -- STOP at: t18  := call {callee=(value F97), args=[t14, t15, t16, t17], argTypes=[37, 3, 3, 29]} :0
    refine sw_x rfl rfl rfl (e_callH (A := [ownL 3 sv.v u]) (F := []) (CanCall.mk Try.call97) rfl rfl (.cons rfl inferInstance (.cons rfl inferInstance (.cons rfl inferInstance (.cons rfl inferInstance (.nil))))) (.refl _) (fun w bs h1 h2 h3 h4 _ => insertionC_spec sv u a (a + 20) g cap dom cv R hgc hg ho hud (by omega) (by omega) (by omega) w bs h1 h2 h3 (h4 _ hR))) (fun v18 => ?_)
    refine sw_imp fun hm => ?_
    refine sw_nil ?_
    refine post_then ?_
    refine cw_seq ?_
    -- region 4
    refine cw_region ?_
    refine sw_step rfl rfl rfl (OpR.q (q_move rfl rfl)) ?_
    refine sw_step rfl rfl rfl (OpR.q (q_assign rfl rfl)) ?_
    refine sw_nil ?_
    refine post_then ?_
    -- region 5
    refine cw_region ?_
    refine sw_step rfl rfl rfl (OpR.q (q_move rfl rfl)) ?_
    refine sw_step rfl rfl rfl (OpR.q (q_move rfl rfl)) ?_
    refine sw_step rfl rfl rfl (OpR.q (q_add rfl rfl rfl (by intro hc; first | omega | (simp only [List.length_set, List.length_append, List.length_cons, List.length_nil, List.length_replicate, List.length_take, List.length_drop, List.length_map]; omega) | (simp only [AllT.iff, List.all_cons, List.all_nil, id, Bool.and_eq_true, Bool.not_eq_true', decide_eq_true_eq, decide_eq_false_iff_not, and_true] at hc; first | omega | (simp only [List.length_set, List.length_append, List.length_cons, List.length_nil, List.length_replicate, List.length_take, List.length_drop, List.length_map]; omega)) | (exfalso; simp_all [AllT]; done)))) ?_
    refine sw_step rfl rfl rfl (OpR.q (q_assign rfl rfl)) ?_
    refine sw_nil ?_
    refine post_blk ?_
    refine post_next (a + 20, v18) (by (repeat first | exact Le.nil | refine Le.cons rfl ?_ | refine Le.cons' rfl (by congr 1; first | omega | (simp only; omega)) ?_)) (fun _ h => h) ⟨hab, by simp only; omega, hu.trans (hm.1.wider (by omega) hab), fun x hx hxa => ?_⟩ (by simp only; omega)
    simp only at hxa
    by_cases e : x < a
    · exact srt_out hm.1 (.inr (by omega)) (hdone x hx e)
    · rw [show x = a by omega]; exact hm.2
  · skip
    have hab : l.length < a + 20 := by simp only [decide_eq_false_iff_not] at h; omega
    refine cw_exit ?_
    refine post_then_x ?_
    refine post_then_x ?_
    refine post_blk_eq ?_
    refine post_then ?_
    refine cw_seq ?_
    -- region 6
    refine cw_region ?_
    refine sw_step rfl rfl rfl (OpR.q (q_move rfl rfl)) ?_
    refine sw_step rfl rfl rfl (OpR.q (q_move rfl rfl)) ?_
    refine sw_step rfl rfl rfl (OpR.q (q_move rfl rfl)) ?_
    refine sw_step rfl rfl rfl (OpR.q (q_move rfl rfl)) ?_
    -- STOP at: t27  := call {callee=(value F97), args=[t23, t24, t25, t26], argTypes=[37, 3, 3, 29]} :0
    refine sw_x rfl rfl rfl (e_callH (A := [ownL 3 sv.v u]) (F := []) (CanCall.mk Try.call97) rfl rfl (.cons rfl inferInstance (.cons rfl inferInstance (.cons rfl inferInstance (.cons rfl inferInstance (.nil))))) (.refl _) (fun w bs h1 h2 h3 h4 _ => insertionC_spec sv u a l.length g cap dom cv R hgc hg ho hud ha (by omega) (by omega) w bs h1 h2 h3 (h4 _ hR))) (fun v27 => ?_)
    refine sw_imp fun hm => ?_
    have hblk : BlkOk cv v27 l.length 20 := fun x hx => by
      by_cases e : x < a
      · rw [Nat.min_eq_left (by omega)]; exact srt_out hm.1 (.inr (by omega)) (hdone x hx e)
      · by_cases e2 : x = a
        · rw [e2, Nat.min_eq_right (by omega)]; exact hm.2
        · intro p q h1 h2 h3; omega
    have hv := hu.trans (hm.1.wider (Nat.zero_le _) (Nat.le_refl _))
    refine sw_nil ?_
    refine post_then ?_
    refine cw_block ?_
    -- STOP at: loop
    refine cw_loop (S := Nat × List Int) (fun y => [(0, [], sv.v), (1, [], .int .i64 l.length), (2, [], .func (.func g) #[] cap), (6, [], .int .i64 y.1)]) (fun y => Cl w bs [ownL 3 sv.v y.2]) (fun y => (1 ≤ y.1 ∧ y.1 ≤ 2000) ∧ Mix l y.2 0 l.length ∧ BlkOk cv y.2 l.length y.1) (fun y => l.length - y.1) (20, v27) ⟨by simp only; omega, hv, hblk⟩ (by (repeat first | exact Le.nil | refine Le.cons rfl ?_ | refine Le.cons' rfl (by congr 1; first | omega | (simp only; omega)) ?_)) (fun _ h => h) ?_
    rintro ⟨s, u2⟩ ⟨⟨hs1, hs2⟩, hu2, hb2⟩
    dsimp only at hs1 hs2 hu2 hb2 ⊢
    refine cw_seq ?_
    refine cw_seq ?_
    -- region 7
    refine cw_region ?_
    refine sw_step rfl rfl rfl (OpR.q (q_move rfl rfl)) ?_
    refine sw_step rfl rfl rfl (OpR.q (q_move rfl rfl)) ?_
    refine sw_step rfl rfl rfl (OpR.q (q_lss rfl rfl rfl)) ?_
    refine sw_nil ?_
    refine post_then ?_
    -- STOP at: cond
    refine cw_cond rfl (fun h2 => ?_) (fun h2 => ?_)
    · skip
      have hsn : s < l.length := by simp only [decide_eq_true_eq] at h2; omega
      refine cw_skip ?_
      refine post_then ?_
      refine cw_block ?_
      refine cw_seq ?_
      -- region 8
      refine cw_region ?_
      refine sw_step rfl rfl rfl (OpR.q (q_move rfl rfl)) ?_
      refine sw_step rfl rfl rfl (OpR.q (q_mul rfl rfl rfl (by intro hc; first | omega | (simp only [List.length_set, List.length_append, List.length_cons, List.length_nil, List.length_replicate, List.length_take, List.length_drop, List.length_map]; omega) | (simp only [AllT.iff, List.all_cons, List.all_nil, id, Bool.and_eq_true, Bool.not_eq_true', decide_eq_true_eq, decide_eq_false_iff_not, and_true] at hc; first | omega | (simp only [List.length_set, List.length_append, List.length_cons, List.length_nil, List.length_replicate, List.length_take, List.length_drop, List.length_map]; omega)) | (exfalso; simp_all [AllT]; done)))) ?_
      refine sw_step rfl rfl rfl (OpR.q (q_assign rfl rfl)) ?_
      refine sw_step rfl rfl rfl (OpR.q (q_assign rfl rfl)) ?_
      refine sw_nil ?_
      refine post_then ?_
      refine cw_seq ?_
      refine cw_block ?_
      -- STOP at: loop
      refine cw_loop (S := Nat × List Int) (fun y => [(0, [], sv.v), (1, [], .int .i64 l.length), (2, [], .func (.func g) #[] cap), (6, [], .int .i64 s), (7, [], .int .i64 y.1), (8, [], .int .i64 ((y.1 : Int) + 2 * s))]) (fun y => Cl w bs [ownL 3 sv.v y.2]) (fun y => Mix l y.2 0 l.length ∧ Half cv y.2 l.length s y.1) (fun y => l.length - y.1) (0, u2) ⟨hu2, half_start hb2⟩ (by (repeat first | exact Le.nil | refine Le.cons rfl ?_ | refine Le.cons' rfl (by congr 1; first | omega | (simp only; omega)) ?_)) (fun _ h => h) ?_
      rintro ⟨c, x⟩ ⟨hx, hh⟩
      dsimp only at hx hh ⊢
      have hxl := hx.len
      have hxd := hx.dom hd
      have hcle := hh.le
      obtain ⟨hr1, hr2⟩ := half_runs hh
      refine cw_seq ?_
      refine cw_seq ?_
      -- region 9
      refine cw_region ?_
      refine sw_step rfl rfl rfl (OpR.q (q_move rfl rfl)) ?_
      refine sw_step rfl rfl rfl (OpR.q (q_move rfl rfl)) ?_
      refine sw_step rfl rfl rfl (OpR.q (q_leq rfl rfl rfl)) ?_
      refine sw_nil ?_
      refine post_then ?_
      -- STOP at: cond
      refine cw_cond rfl (fun h3 => ?_) (fun h3 => ?_)
      · skip
        have hcb : c + 2 * s ≤ l.length := by simp only [decide_eq_true_eq] at h3; omega
        rw [Nat.min_eq_left (by omega)] at hr1 hr2
        refine cw_skip ?_
        refine post_then ?_
        refine cw_block ?_
        refine cw_seq ?_
        -- region 10
        refine cw_region ?_
        refine sw_step rfl rfl rfl (OpR.q (q_move rfl rfl)) ?_
        refine sw_step rfl rfl rfl (OpR.q (q_move rfl rfl)) ?_
        refine sw_step rfl rfl rfl (OpR.q (q_move rfl rfl)) ?_
        refine sw_step rfl rfl rfl (OpR.q (q_move rfl rfl)) ?_
        refine sw_step rfl rfl rfl (OpR.q (q_add rfl rfl rfl (by intro hc; first | omega | (simp only [List.length_set, List.length_append, List.length_cons, List.length_nil, List.length_replicate, List.length_take, List.length_drop, List.length_map]; omega) | (simp only [AllT.iff, List.all_cons, List.all_nil, id, Bool.and_eq_true, Bool.not_eq_true', decide_eq_true_eq, decide_eq_false_iff_not, and_true] at hc; first | omega | (simp only [List.length_set, List.length_append, List.length_cons, List.length_nil, List.length_replicate, List.length_take, List.length_drop, List.length_map]; omega)) | (exfalso; simp_all [AllT]; done)))) ?_
        refine sw_step rfl rfl rfl (OpR.q (q_move rfl rfl)) ?_
        refine sw_step rfl rfl rfl (OpR.q (q_move rfl rfl)) ?_
        -- STOP at: t43  := call {callee=(value F98), args=[t36, t37, t40, t41, t42], argTypes=[37, 3, 3, 3, 29]} :0
        refine sw_x rfl rfl rfl (e_callH (A := [ownL 3 sv.v x]) (F := []) (CanCall.mk Try.call98) rfl rfl (.cons rfl inferInstance (.cons rfl inferInstance (.cons rfl inferInstance (.cons rfl inferInstance (.cons rfl inferInstance (.nil)))))) (.refl _) (fun w bs h1 h2 h3 h4 _ => symMerge_spec g cap dom cv R hgc hg ho _ sv x c (c + s) (c + 2 * s) _ _ _ (by omega) (by omega) (by omega) (by omega) (by omega) (by omega) (by omega) (Nat.le_refl _) hxd hr1 (by rw [show c + 2 * s = c + s + s by omega]; exact hr2) w bs h1 h2 h3 (h4 _ hR))) (fun y43 => ?_)
        refine sw_imp fun hm2 => ?_
        refine sw_nil ?_
        refine post_then ?_
        refine cw_seq ?_
        -- region 11
        refine cw_region ?_
        refine sw_step rfl rfl rfl (OpR.q (q_move rfl rfl)) ?_
        refine sw_step rfl rfl rfl (OpR.q (q_assign rfl rfl)) ?_
        refine sw_nil ?_
        refine post_then ?_
        -- region 12
        refine cw_region ?_
        refine sw_step rfl rfl rfl (OpR.q (q_move rfl rfl)) ?_
        refine sw_step rfl rfl rfl (OpR.q (q_move rfl rfl)) ?_
        refine sw_step rfl rfl rfl (OpR.q (q_mul rfl rfl rfl (by intro hc; first | omega | (simp only [List.length_set, List.length_append, List.length_cons, List.length_nil, List.length_replicate, List.length_take, List.length_drop, List.length_map]; omega) | (simp only [AllT.iff, List.all_cons, List.all_nil, id, Bool.and_eq_true, Bool.not_eq_true', decide_eq_true_eq, decide_eq_false_iff_not, and_true] at hc; first | omega | (simp only [List.length_set, List.length_append, List.length_cons, List.length_nil, List.length_replicate, List.length_take, List.length_drop, List.length_map]; omega)) | (exfalso; simp_all [AllT]; done)))) ?_
        refine sw_step rfl rfl rfl (OpR.q (q_add rfl rfl rfl (by intro hc; first | omega | (simp only [List.length_set, List.length_append, List.length_cons, List.length_nil, List.length_replicate, List.length_take, List.length_drop, List.length_map]; omega) | (simp only [AllT.iff, List.all_cons, List.all_nil, id, Bool.and_eq_true, Bool.not_eq_true', decide_eq_true_eq, decide_eq_false_iff_not, and_true] at hc; first | omega | (simp only [List.length_set, List.length_append, List.length_cons, List.length_nil, List.length_replicate, List.length_take, List.length_drop, List.length_map]; omega)) | (exfalso; simp_all [AllT]; done)))) ?_
        refine sw_step rfl rfl rfl (OpR.q (q_assign rfl rfl)) ?_
        refine sw_nil ?_
        refine post_blk ?_
        exact post_next (c + 2 * s, y43) (by (repeat first | exact Le.nil | refine Le.cons rfl ?_ | refine Le.cons' rfl (by congr 1; first | omega | (simp only; omega)) ?_)) (fun _ h => h) ⟨hx.trans (hm2.1.wider (Nat.zero_le _) hcb), half_step hs1 hh hcb hm2.1 hm2.2⟩ (by simp only; omega)
      · skip
        have hcb : l.length < c + 2 * s := by simp only [decide_eq_false_iff_not] at h3; omega
        refine cw_exit ?_
        refine post_then_x ?_
        refine post_then_x ?_
        refine post_blk_eq ?_
        refine post_then ?_
        refine cw_seq ?_
        refine cw_seq ?_
        -- region 13
        refine cw_region ?_
        refine sw_step rfl rfl rfl (OpR.q (q_move rfl rfl)) ?_
        refine sw_step rfl rfl rfl (OpR.q (q_move rfl rfl)) ?_
        refine sw_step rfl rfl rfl (OpR.q (q_add rfl rfl rfl (by intro hc; first | omega | (simp only [List.length_set, List.length_append, List.length_cons, List.length_nil, List.length_replicate, List.length_take, List.length_drop, List.length_map]; omega) | (simp only [AllT.iff, List.all_cons, List.all_nil, id, Bool.and_eq_true, Bool.not_eq_true', decide_eq_true_eq, decide_eq_false_iff_not, and_true] at hc; first | omega | (simp only [List.length_set, List.length_append, List.length_cons, List.length_nil, List.length_replicate, List.length_take, List.length_drop, List.length_map]; omega)) | (exfalso; simp_all [AllT]; done)))) ?_
        refine sw_step rfl rfl rfl (OpR.q (q_assign rfl rfl)) ?_
        refine sw_nil ?_
        refine post_then ?_
        refine cw_seq ?_
        -- region 14
        refine cw_region ?_
        refine sw_step rfl rfl rfl (OpR.q (q_move rfl rfl)) ?_
        refine sw_step rfl rfl rfl (OpR.q (q_move rfl rfl)) ?_
        refine sw_step rfl rfl rfl (OpR.q (q_lss rfl rfl rfl)) ?_
        refine sw_nil ?_
        refine post_then ?_
        -- STOP at: cond
        refine cw_cond rfl (fun h4 => ?_) (fun h4 => ?_)
        · skip
          have hcs : c + s < l.length := by simp only [decide_eq_true_eq] at h4; omega
          rw [Nat.min_eq_left (by omega)] at hr1
          rw [Nat.min_eq_right (by omega)] at hr2
          -- region 15
          refine cw_region ?_
          refine sw_step rfl rfl rfl (OpR.q (q_move rfl rfl)) ?_
          refine sw_step rfl rfl rfl (OpR.q (q_move rfl rfl)) ?_
          refine sw_step rfl rfl rfl (OpR.q (q_move rfl rfl)) ?_
          refine sw_step rfl rfl rfl (OpR.q (q_move rfl rfl)) ?_
          refine sw_step rfl rfl rfl (OpR.q (q_move rfl rfl)) ?_
          -- STOP at: t60  := call {callee=(value F98), args=[t55, t56, t57, t58, t59], argTypes=[37, 3, 3, 3, 29]} :0
          refine sw_x rfl rfl rfl (e_callH (A := [ownL 3 sv.v x]) (F := []) (CanCall.mk Try.call98) rfl rfl (.cons rfl inferInstance (.cons rfl inferInstance (.cons rfl inferInstance (.cons rfl inferInstance (.cons rfl inferInstance (.nil)))))) (.refl _) (fun w bs h1 h2 h3 h4 _ => symMerge_spec g cap dom cv R hgc hg ho _ sv x c (c + s) l.length _ _ _ (by omega) (by omega) (by omega) (by omega) (by omega) (by omega) (by omega) (Nat.le_refl _) hxd hr1 hr2 w bs h1 h2 h3 (h4 _ hR))) (fun y60 => ?_)
          refine sw_imp fun hm2 => ?_
          refine sw_nil ?_
          refine post_then ?_
          -- region 16
          refine cw_region ?_
          refine sw_step rfl rfl rfl (OpR.q (q_move rfl rfl)) ?_
          refine sw_step rfl rfl rfl (OpR.q (q_mul rfl rfl rfl (by intro hc; first | omega | (simp only [List.length_set, List.length_append, List.length_cons, List.length_nil, List.length_replicate, List.length_take, List.length_drop, List.length_map]; omega) | (simp only [AllT.iff, List.all_cons, List.all_nil, id, Bool.and_eq_true, Bool.not_eq_true', decide_eq_true_eq, decide_eq_false_iff_not, and_true] at hc; first | omega | (simp only [List.length_set, List.length_append, List.length_cons, List.length_nil, List.length_replicate, List.length_take, List.length_drop, List.length_map]; omega)) | (exfalso; simp_all [AllT]; done)))) ?_
          refine sw_step rfl rfl rfl (OpR.q (q_assign rfl rfl)) ?_
          refine sw_nil ?_
          refine post_blk ?_
          exact post_next (2 * s, y60) (by (repeat first | exact Le.nil | refine Le.cons rfl ?_ | refine Le.cons' rfl (by congr 1; first | omega | (simp only; omega)) ?_)) (fun _ h => h) ⟨by simp only; omega, hx.trans (hm2.1.wider (Nat.zero_le _) (Nat.le_refl _)), half_end hh hcb hm2.1 hm2.2⟩ (by simp only; omega)
        · skip
          have hcs : l.length ≤ c + s := by simp only [decide_eq_false_iff_not] at h4; omega
          rw [Nat.min_eq_right (by omega)] at hr1
          refine cw_skip ?_
          refine post_then ?_
          -- region 16
          refine cw_region ?_
          refine sw_step rfl rfl rfl (OpR.q (q_move rfl rfl)) ?_
          refine sw_step rfl rfl rfl (OpR.q (q_mul rfl rfl rfl (by intro hc; first | omega | (simp only [List.length_set, List.length_append, List.length_cons, List.length_nil, List.length_replicate, List.length_take, List.length_drop, List.length_map]; omega) | (simp only [AllT.iff, List.all_cons, List.all_nil, id, Bool.and_eq_true, Bool.not_eq_true', decide_eq_true_eq, decide_eq_false_iff_not, and_true] at hc; first | omega | (simp only [List.length_set, List.length_append, List.length_cons, List.length_nil, List.length_replicate, List.length_take, List.length_drop, List.length_map]; omega)) | (exfalso; simp_all [AllT]; done)))) ?_
          refine sw_step rfl rfl rfl (OpR.q (q_assign rfl rfl)) ?_
          refine sw_nil ?_
          refine post_blk ?_
          exact post_next (2 * s, x) (by (repeat first | exact Le.nil | refine Le.cons rfl ?_ | refine Le.cons' rfl (by congr 1; first | omega | (simp only; omega)) ?_)) (fun _ h => h) ⟨by simp only; omega, hx, half_end hh hcb (.refl _ _ _) hr1⟩ (by simp only; omega)
    · skip
      have hsn : l.length ≤ s := by simp only [decide_eq_false_iff_not] at h2; omega
      have hfin := hb2 0 (Nat.dvd_zero _)
      rw [Nat.min_eq_right (by omega)] at hfin
      refine cw_exit ?_
      refine post_then_x ?_
      refine post_then_x ?_
      refine post_blk_eq ?_
      refine post_end0 rfl ?_
      exact fun w' hw => ⟨u2, rfl, ⟨hu2.perm, hfin⟩, hw⟩
theorem stableFuncG_spec (sv : SlV) (l : List Int) (g : FuncId) (cap : Array Value) (dom : Int → Prop) (cv : Int → Int → Int) (R : World → Prop) (hgc : CanCall Try.prog g) (hg : CmpF Try.prog g cap dom cv R) (ho : PreO dom cv) (hd : ∀ k, k < l.length → dom (nth l k))
    (hl : l.length ≤ 1000) (w : World) (bs : List Nat) (hs : Sep [ownL 3 sv.v l] w bs) (hn : bs.Nodup) (hlt : ∀ b ∈ bs, b < w.heap.size) (hR : Stb w bs R) :
    Calls Try.prog 57 #[sv.v, .func (.func g) #[] cap] w fun e w' => ∃ l' : List Int, e = .returned (.tuple #[]) ∧ (l'.Perm l ∧ SrtC cv l' 0 l.length) ∧ Cl w bs [ownL 3 sv.v l'] w' := by
  refine calls_cw (vs := [_, _]) Try.func57 rfl Try.ntmps57 rfl (Cl.start hs hn hlt) ?_
  -- region 0
  refine cw_region ?_
  refine sw_step rfl rfl rfl (OpR.q (q_move rfl rfl)) ?_
  refine sw_step rfl rfl rfl (OpR.q (q_move rfl rfl)) ?_
  first | refine sw_step rfl rfl rfl (OpR.q (q_len rfl (.cons rfl inferInstance (.nil)) (by first | exact fun w hw => Stb.cl (by assumption) hw | exact fun w hw => rd_own hw (by first | assumption | (repeat first | exact .head _ | apply List.Mem.tail)) | assumption))) ?_ | refine sw_step rfl rfl rfl (OpR.q (q_lenV rfl (.cons rfl inferInstance (.nil)))) ?_
  refine sw_step rfl rfl rfl (OpR.q (q_move rfl rfl)) ?_
  -- STOP at: t8   := call {callee=(value F86), args=[t4, t6, t7], argTypes=[37, 3, 29]} :0
  refine sw_x rfl rfl rfl (e_callH (A := [ownL 3 sv.v l]) (F := []) (CanCall.mk Try.call86) rfl rfl (.cons rfl inferInstance (.cons rfl inferInstance (.cons rfl inferInstance (.nil)))) (.refl _) (fun w bs h1 h2 h3 h4 _ => stableG_spec sv l g cap dom cv R hgc hg ho hd hl w bs h1 h2 h3 (h4 _ hR))) (fun l27 => ?_)
  refine sw_imp fun hm => ?_
  refine sw_nil ?_
  refine post_end0 rfl ?_
  exact fun w' hw => ⟨l27, rfl, hm, hw⟩
end Go.Proofs.Ytekikelejncgeaa
